/- impl.ReadPredictor by hand: two lists are read; the first one and the one number of the second make a predictor. -/
import Derived.Test.YtdfpfiecpcgffaaDoorRt
set_option linter.unusedVariables false
set_option linter.unusedSimpArgs false
namespace Go.Proofs.YtdfpfiecpcgffaaDoor
open Go.RowKit Go.Proofs.YtdfpfiecpcgffaaDoorW.PrintWords Go.Proofs.YtdfpfiecpcgffaaDoorW.PrintLast Go.Proofs.YtdfpfiecpcgffaaDoorW.PrintMore Go.Proofs.YtdfpfiecpcgffaaDoorW.PrintFl
attribute [local go_sem] run_stf run_stc
set_option maxHeartbeats 8000000 in
set_option maxRecDepth 100000 in
theorem rp_bad0 (a0 : ByteArray) (ls : List (List Nat)) (w : World) (hT : GLt w) (hL : ReadsLists a0 ls false) :
    Calls Tryd.prog 17 #[.string a0] w fun e w' => ∃ v0_ : Value, e = .returned (.tuple #[.agg #[v0_, .float .f32 0], .bool false]) ∧ Kd.R (Kd.float .f32) 30 w' w.heap.size (fun _ => True) v0_ [] ∧ Below w.heap.size w w' := by
  have HL := Lib.hid hL
  have HT := Lib.hid hT
  clear hL hT
  go_enter Tryd.func17, Tryd.ntmps17
  go_wp2_with (first
    | ((with_reducible refine gate_dst (N := 2) rfl ?_); refine box_event ?hg (N := 2) ?hd (cs := #[.slice none 0 0, .float .f32 0]) (t := 39) ?hr ?_; (case hd => rfl); (case hg => rfl); (case hr => first | (go_simp; done) | (go_simp; rfl)); intro gb hg w4 hbox hb; have HB := Lib.hid hb; have BK := Lib.hid hbox; have GE := Lib.hid (show w.heap.size ≤ gb by omega); have GL4 := Lib.hid (blk_lt hbox); clear hb hbox hg)
    | (go_at_call 42; (with_reducible refine (HL.out _ (GLt_below HT.out HB.out)).mono ?_); rintro e w5 ⟨v, rfl, hs, hb⟩; have BK5 := Lib.hid (blk_below BK.out hb); have HB6 := Lib.hid (rn_below HB.out hb HB.out.size); clear hb hs
       have hc0 : w5.cell? ⟨gb, 0, none⟩ = some (.slice none 0 0) := (blk_cell BK5.out 0).trans rfl
       have hc1 : w5.cell? ⟨gb, 1, none⟩ = some (.float .f32 0) := (blk_cell BK5.out 1).trans rfl
       have hf0 := blk_frozen BK5.out 0
       have hf1 := blk_frozen BK5.out 1))
  refine bodyPost_ret (results_ct rfl _ _ gb 39 #[.slice none 0 0, .float .f32 0] (0, 0) _ rfl (by (with_reducible repeat (first | refine blk_drewN ?_ _ | refine blk_drew ?_ | refine blk_alloc ?_ _)); refine blk_put (cs := #[.slice none 0 0, .float .f32 0]) ?_ 1 _ rfl; (with_reducible repeat (first | refine blk_drewN ?_ _ | refine blk_drew ?_ | refine blk_alloc ?_ _)); refine blk_put (cs := #[.slice none 0 0, .float .f32 0]) ?_ 0 _ rfl; (with_reducible repeat (first | refine blk_drewN ?_ _ | refine blk_drew ?_ | refine blk_alloc ?_ _)); exact BK5.out) Tryd.underlying39 rfl (by kernel_rfl)) rfl ?_
  exact ⟨_, rfl, Kd.R_nil _ _ _ _ _, by repeat (first | (with_reducible first | exact HB6.out | apply below_alloc | apply pw_below_drewN | apply below_drew1 | refine below_set ?_ GE.out) | exact HB6.out)⟩
set_option maxHeartbeats 8000000 in
set_option maxRecDepth 100000 in
theorem rp_bad1 (a0 : ByteArray) (l0 l1 : List Nat) (h3 : l1.length ≠ 1) (w : World) (hT : GLt w) (hL : ReadsLists a0 [l0, l1] true) :
    Calls Tryd.prog 17 #[.string a0] w fun e w' => ∃ v0_ : Value, e = .returned (.tuple #[.agg #[v0_, .float .f32 0], .bool false]) ∧ Kd.R (Kd.float .f32) 30 w' w.heap.size (fun _ => True) v0_ [] ∧ Below w.heap.size w w' := by
  have HL := Lib.hid hL
  have HT := Lib.hid hT
  have q3 : ((l1.length : Int) != 1) = true := bne_iff_ne.mpr (by omega)
  clear hL hT h3
  go_enter Tryd.func17, Tryd.ntmps17
  go_wp2_with (first
    | ((with_reducible refine gate_dst (N := 2) rfl ?_); refine box_event ?hg (N := 2) ?hd (cs := #[.slice none 0 0, .float .f32 0]) (t := 39) ?hr ?_; (case hd => rfl); (case hg => rfl); (case hr => first | (go_simp; done) | (go_simp; rfl)); intro gb hg w4 hbox hb; have HB := Lib.hid hb; have BK := Lib.hid hbox; have GE := Lib.hid (show w.heap.size ≤ gb by omega); have GL4 := Lib.hid (blk_lt hbox); clear hb hbox hg)
    | (go_at_call 42; (with_reducible refine (HL.out _ (GLt_below HT.out HB.out)).mono ?_); rintro e w5 ⟨v, rfl, hs, hb⟩; have BK5 := Lib.hid (blk_below BK.out hb); have HB6 := Lib.hid (rn_below HB.out hb HB.out.size); clear hb
       obtain ⟨g, cap, rfl, hg0, hgl, hgt⟩ := Kd.S_form hs (by simp)
       have hs2 := Kd.S_mono (Kd.S_bound hs) (ok' := fun k => w4.heap.size ≤ k ∧ k < w5.heap.size) (fun _ hk => ⟨hk.2.1, hk.2.2.1⟩)
       obtain ⟨ok0, c0, hl0, hM0, hcc0, hfr0, hok0, hH0⟩ := Kd.S_elem hs2 [] 0 (by decide) (by simp)
       obtain ⟨ok1, c1, hl1, hM1, hcc1, hfr1, hok1, hH1⟩ := Kd.S_elem hs2 [] 1 (by decide) (by simp)
       obtain ⟨v0, rfl, hR0⟩ := hM0
       obtain ⟨v1, rfl, hR1⟩ := hM1
       have hx0 : w5.cell? ⟨g, 0, none⟩ = some v0 := hcc0 0 _ rfl
       have hx1 : w5.cell? ⟨g, 1, none⟩ = some v1 := hcc1 0 _ rfl
       obtain ⟨A1, cap1, rfl⟩ := Kd.R_slice hR1
       clear hs hg0 hgl hgt hs2 hl0 hcc0 hfr0 hok0 hH0 hR0 hl1 hcc1 hfr1 hok1 hH1 hR1
       try dsimp only at hx1
       have hc0 : w5.cell? ⟨gb, 0, none⟩ = some (.slice none 0 0) := (blk_cell BK5.out 0).trans rfl
       have hc1 : w5.cell? ⟨gb, 1, none⟩ = some (.float .f32 0) := (blk_cell BK5.out 1).trans rfl
       have hf0 := blk_frozen BK5.out 0
       have hf1 := blk_frozen BK5.out 1))
  refine bodyPost_ret (results_ct rfl _ _ gb 39 #[.slice none 0 0, .float .f32 0] (0, 0) _ rfl (by (with_reducible repeat (first | refine blk_drewN ?_ _ | refine blk_drew ?_ | refine blk_alloc ?_ _)); refine blk_put (cs := #[.slice none 0 0, .float .f32 0]) ?_ 1 _ rfl; (with_reducible repeat (first | refine blk_drewN ?_ _ | refine blk_drew ?_ | refine blk_alloc ?_ _)); refine blk_put (cs := #[.slice none 0 0, .float .f32 0]) ?_ 0 _ rfl; (with_reducible repeat (first | refine blk_drewN ?_ _ | refine blk_drew ?_ | refine blk_alloc ?_ _)); exact BK5.out) Tryd.underlying39 rfl (by kernel_rfl)) rfl ?_
  exact ⟨_, rfl, Kd.R_nil _ _ _ _ _, by repeat (first | (with_reducible first | exact HB6.out | apply below_alloc | apply pw_below_drewN | apply below_drew1 | refine below_set ?_ GE.out) | exact HB6.out)⟩
abbrev ChecksPred (l0 : List Nat) (x : Nat) (r1 : List Nat) (r2 : Nat) (r5 : Bool) : Prop := ∀ (P : Nat → Prop) (u : Value) (w0 W : World), Below w0.heap.size w0 W → Kd.R (Kd.float .f32) 30 W w0.heap.size P u l0 → Calls Tryd.prog 43 #[.agg #[u, .float .f32 x]] W fun e w' => ∃ v0_ : Value, e = .returned (.tuple #[.agg #[v0_, .float .f32 r2], .bool r5]) ∧ Kd.R (Kd.float .f32) 30 w' w0.heap.size (fun k_ => (P k_ ∨ W.heap.size ≤ k_)) v0_ r1 ∧ Below w0.heap.size w0 w' ∧ Kept W w' (fun k_ => P k_)
theorem rp_call {l0 : List Nat} {x : Nat} {r1 : List Nat} {r2 : Nat} {r5 : Bool} (hC : ChecksPred l0 x r1 r2 r5) {ok0 : Nat → Prop} {u : Value} {w w4 w5 : World} {gb : Nat} {o : Obj} (hB : Below w.heap.size w w5) (hR : Kd.R (Kd.float .f32) 30 w5 w.heap.size ok0 u l0) (hO : ∀ k, ok0 k → w4.heap.size ≤ k) (hg : gb < w4.heap.size) (h45 : w4.heap.size ≤ w5.heap.size) (hbk : w5.heap[gb]? = some o) :
    Calls Tryd.prog 43 #[.agg #[u, .float .f32 x]] w5.drew fun e w' => ∃ (A2 : Option Addr) (c2 : Nat), e = .returned (.tuple #[.agg #[.slice A2 r1.length c2, .float .f32 r2], .bool r5]) ∧ Kd.R (Kd.float .f32) 30 w' w.heap.size (fun k => k ≠ gb) (.slice A2 r1.length c2) r1 ∧ Below w.heap.size w w' ∧ w'.heap[gb]? = some o ∧ (∀ (a : Addr) (v : Value), ¬ ok0 a.block → w5.cell? a = some v → w'.cell? a = some v) := by
  refine (hC ok0 u w w5.drew (below_drew hB) (Kd.R_drew hR)).mono ?_
  rintro e w6 ⟨v2, rfl, hr, hb, hk⟩
  obtain ⟨A2, c2, rfl⟩ := Kd.R_slice hr
  refine ⟨A2, c2, rfl, Kd.R_mono hr (fun k hk2 => ?_), hb, blk_kept (g := gb) (blk_drew hbk) hk (fun h => by have h1 := hO _ h; omega), fun a v hn hc => cell_kept (show w5.drew.cell? a = some v from hc) hk hn⟩
  rcases hk2 with h1 | h1
  · have h3 := hO _ h1
    omega
  · have h5 : w5.heap.size ≤ k := h1
    omega
set_option maxHeartbeats 8000000 in
set_option maxRecDepth 100000 in
theorem rp_good (a0 : ByteArray) (l0 : List Nat) (x : Nat) (r1 : List Nat) (r2 : Nat) (r5 : Bool) (w : World) (hT : GLt w) (hL : ReadsLists a0 [l0, [x]] true) (hC : ChecksPred l0 x r1 r2 r5) :
    Calls Tryd.prog 17 #[.string a0] w fun e w' => ∃ v0_ : Value, e = .returned (.tuple #[.agg #[v0_, .float .f32 r2], .bool r5]) ∧ Kd.R (Kd.float .f32) 30 w' w.heap.size (fun _ => True) v0_ r1 ∧ Below w.heap.size w w' := by
  have HL := Lib.hid hL
  have HT := Lib.hid hT
  have HC := Lib.hid hC
  clear hL hT hC
  go_enter Tryd.func17, Tryd.ntmps17
  go_wp2_with (first
    | ((with_reducible refine gate_dst (N := 2) rfl ?_); refine box_event ?hg (N := 2) ?hd (cs := #[.slice none 0 0, .float .f32 0]) (t := 39) ?hr ?_; (case hd => rfl); (case hg => rfl); (case hr => first | (go_simp; done) | (go_simp; rfl)); intro gb hg w4 hbox hb; have HB := Lib.hid hb; have BK := Lib.hid hbox; have GE := Lib.hid (show w.heap.size ≤ gb by omega); have GL4 := Lib.hid (blk_lt hbox); clear hb hbox hg)
    | (go_at_call 42; (with_reducible refine (HL.out _ (GLt_below HT.out HB.out)).mono ?_); rintro e w5 ⟨v, rfl, hs, hb⟩; have BK5 := Lib.hid (blk_below BK.out hb); have HB5 := Lib.hid (rn_below HB.out hb HB.out.size); have hbs := hb.size; clear hb
       obtain ⟨g, cap, A0, cap0, A1, cap1, f, rfl, hx0, hx1, hR0, hR1⟩ := lists_open (Kd.S_mono (Kd.S_bound hs) (ok' := fun k => w4.heap.size ≤ k ∧ k < w5.heap.size) (fun _ hk => ⟨hk.2.1, hk.2.2.1⟩))
       obtain ⟨g1, cap1, eA1, hg10, hg1l, hg1t⟩ := Kd.R_form hR1 (by simp)
       injection eA1 with eA1 eA2 eA3
       subst eA1 eA3
       have hy0 : w5.cell? ⟨g1, 0, none⟩ = some (.float .f32 x) := (Kd.R_celln 0 hR1 0 (by decide) (by simp)).1
       have ho1 := hR1.1 g1 rfl
       have hgg : g ≠ gb := fun e => by have h2 := GL4.out; have h3 := (Kd.S_base hs g (by simp [Value.ownBlock])); omega
       have hgg1 : g1 ≠ gb := fun e => by have h2 := GL4.out; have h3 := ho1.1.1.1; omega
       obtain ⟨ok0, hok0⟩ : ∃ ok0 : Nat → Prop, ok0 = fun k => ((w4.heap.size ≤ k ∧ k < w5.heap.size) ∧ k ≠ g) ∧ f k = 0 := ⟨_, rfl⟩
       rw [← hok0] at hR0
       have HN := Lib.hid (show ¬ ok0 g ∧ ¬ ok0 g1 from by rw [hok0]; exact ⟨fun h => h.1.2 rfl, fun h => by have h1 := h.2; have h2 := ho1.2; omega⟩)
       have HO0 := Lib.hid (show ∀ k, ok0 k → w4.heap.size ≤ k from by rw [hok0]; exact fun k hk => hk.1.1.1)
       have HW4 := Lib.hid (show w4.heap.size ≤ w5.heap.size from hbs)
       have HR0 := Lib.hid (Kd.R_lower hR0 (show w.heap.size ≤ w4.heap.size from HB.out.size))
       have hgb2 : gb ≠ g := fun e => hgg e.symm
       have hgb3 : gb ≠ g1 := fun e => hgg1 e.symm
       clear eA2 hR0 hR1 hok0 ho1 hg10 hg1l hg1t hs hbs))
  go_region_held3 (fun w' => w'.cell? ⟨g, 0, none⟩ = some (.slice A0 l0.length cap0) ∧ w'.cell? ⟨g, 1, none⟩ = some (.slice (some ⟨g1, 0, none⟩) [x].length cap1) ∧ w'.cell? ⟨g1, 0, none⟩ = some (.float .f32 x)) (go_keep) (first
    | (go_at_call 43; (with_reducible refine (rp_call HC.out HB5.out HR0.out HO0.out GL4.out HW4.out BK5.out).mono ?_); rintro e w6 ⟨A2, cap2, rfl, hr, hb, hk, hcc⟩
       have BK6 := Lib.hid hk
       have HB6 := Lib.hid hb
       have HR6 := Lib.hid hr
       have hx0' := hcc ⟨g, 0, none⟩ _ HN.out.1 hx0
       have hx1' := hcc ⟨g, 1, none⟩ _ HN.out.1 hx1
       have hy0' := hcc ⟨g1, 0, none⟩ _ HN.out.2 hy0
       clear hr hb hk hcc hx0 hx1 hy0
       have hc0 : w6.cell? ⟨gb, 0, none⟩ = some (.slice none 0 0) := (blk_cell BK6.out 0).trans rfl
       have hc1 : w6.cell? ⟨gb, 1, none⟩ = some (.float .f32 0) := (blk_cell BK6.out 1).trans rfl
       have hf0 := blk_frozen BK6.out 0
       have hf1 := blk_frozen BK6.out 1))
  all_goals
    go_wp2
    refine bodyPost_ret (results_ct rfl _ _ gb 39 #[.slice A2 r1.length cap2, .float .f32 r2] (0, 0) _ rfl (by (with_reducible repeat (first | refine blk_drewN ?_ _ | refine blk_drew ?_ | refine blk_alloc ?_ _)); refine blk_put (cs := #[.slice A2 r1.length cap2, .float .f32 0]) ?_ 1 _ rfl; (with_reducible repeat (first | refine blk_drewN ?_ _ | refine blk_drew ?_ | refine blk_alloc ?_ _)); refine blk_put (cs := #[.slice none 0 0, .float .f32 0]) ?_ 0 _ rfl; (with_reducible repeat (first | refine blk_drewN ?_ _ | refine blk_drew ?_ | refine blk_alloc ?_ _)); exact BK6.out) Tryd.underlying39 rfl (by kernel_rfl)) rfl ?_
    exact ⟨_, rfl, Kd.R_mono (by with_reducible repeat (first | apply Kd.R_drewN | apply Kd.R_drew | refine Kd.R_far ?_ (fun k hk => hk) _)
                                 exact HR6.out) (fun _ _ => trivial), by repeat (first | (with_reducible first | exact HB6.out | apply below_alloc | apply pw_below_drewN | apply below_drew1 | refine below_set ?_ GE.out) | exact HB6.out)⟩
end Go.Proofs.YtdfpfiecpcgffaaDoor
