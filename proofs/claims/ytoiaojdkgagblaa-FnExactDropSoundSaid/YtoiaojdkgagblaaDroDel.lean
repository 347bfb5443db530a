import Derived.Test.YtoiaojdkgagblaaPFnExactDropSoundx
import Derived.Lib.Hide
import Derived.Lib.SliceRun
import Derived.Lib.Walk
import Derived.Deep.RegionLaw
set_option linter.unusedVariables false
set_option linter.unusedSimpArgs false
namespace Go.Proofs.Ytoiaojdkgagblaa.PFnExactDropSound
open Go.RowKit Go.Proofs.YtoiaojdkgagblaaW.PrintWords Go.Proofs.YtoiaojdkgagblaaW.PrintLast Go.Proofs.YtoiaojdkgagblaaW.PrintMore Go.Proofs.YtoiaojdkgagblaaW.PrintFl Go.Proofs.Ytoiaojdkgagblaa
abbrev zS : Value := .agg #[.string ⟨#[]⟩, .slice none 0 0, .float .f32 0, .float .f32 0, .float .f32 0, .float .f32 0]
theorem own_behind {w : World} {base : Nat} {e : TypeId} {size n cap g o : Nat} {xs vs : List Value} (h : w.ownsRow base e size (.slice (some ⟨g, 0, none⟩) n cap) n xs) (ho : n * size ≤ o) (hv : o + vs.length ≤ cap * size) : (w.setCells g o vs).ownsRow base e size (.slice (some ⟨g, 0, none⟩) n cap) n xs := by
  obtain ⟨h1, h2⟩ := h
  refine ⟨h1, ?_⟩
  rcases h2 with ⟨h2, _⟩ | ⟨g', cap', cur, hE, hg, hh, hn, hm, hs, ht⟩
  · cases h2
  · injection hE with ha hb hc
    injection ha with ha
    injection ha with ha
    subst ha hc
    obtain ⟨cur', h3, h4, h5⟩ := setCells_row vs o w cur hh (by omega)
    refine .inr ⟨g, cap, cur', rfl, hg, h3, hn, hm, by rw [h4]; exact hs, ?_⟩
    rw [h5, List.append_assoc, List.take_append_of_le_length (by rw [List.length_take, Array.length_toList]; omega), List.take_take, Nat.min_eq_left ho]
    exact ht
theorem S_behind {w : World} {base g n cap o : Nat} {ok : Nat → Prop} {xs : List S138} {vs : List Value} (h : Kd.S k138 138 w base ok (.slice (some ⟨g, 0, none⟩) n cap) xs) (ho : n * 6 ≤ o) (hv : o + vs.length ≤ cap * 6) : Kd.S k138 138 (w.setCells g o vs) base ok (.slice (some ⟨g, 0, none⟩) n cap) xs := by
  have hn := (Kd.S_reads' h).1
  obtain ⟨f, h0, inner, h1, h2⟩ := h
  rw [List.length_zipIdx, ← hn] at h1
  refine ⟨f, h0, inner, by rw [List.length_zipIdx, ← hn]; exact own_behind h1 ho hv, h2.1, fun j p hj => ?_⟩
  refine k138.M_move (w := w) (fun k hk => setCells_far vs o k (fun e => hk.1.2 (by rw [e]; rfl))) (h2.2 j p hj)
theorem below_cells {w W : World} {g : Nat} (h : Below w.heap.size w W) (hg : w.heap.size ≤ g) : ∀ (vs : List Value) (o : Nat), Below w.heap.size w (W.setCells g o vs)
  | [], _ => h
  | v :: r, o => by
    rw [World.setCells]
    exact below_cells (h.setCell (p := ⟨g, o, none⟩) hg v) hg r (o + 1)
def zcS : List Value := [.string ⟨#[]⟩, .slice none 0 0, .float .f32 0, .float .f32 0, .float .f32 0, .float .f32 0]
theorem clear_run (w : World) (ty : TypeId) (g o c : Nat) (hc : ∀ j, j < 6 → (w.cell? ⟨g, o + j, none⟩).isSome = true) (hf : ∀ j, j < 6 → w.frozen? ⟨g, o + j, none⟩ = false) :
    (Builtin.clear_ #[64] ty #[.slice (some ⟨g, o, none⟩) 1 c]).run Try.prog w = .ok (.tuple #[]) (w.setCells g o zcS) := by
  have hzc : (Builtin.zeroCells zS.cells 1).toList = zcS := by
    apply List.ext_getElem
    · simp [Builtin.zeroCells, zS, zcS, Value.cells]
    · intro i h1 h2
      have h3 : i < 6 := h2
      simp only [Builtin.zeroCells, Array.getElem_toList, Array.getElem_map, Array.getElem_range]
      rcases i with _ | _ | _ | _ | _ | _ | i
      all_goals first | rfl | omega
  have hst := run_storeCells_cells (P := Try.prog) g o zcS 0 w (fun j hj => by rw [Nat.add_zero]; exact hc j hj) (fun j hj => by rw [Nat.add_zero]; exact hf j hj) (by
    intro v hv
    simp only [zcS, List.mem_cons, List.not_mem_nil, or_false] at hv
    rcases hv with rfl | rfl | rfl | rfl | rfl | rfl <;> rfl)
  simp only [Nat.add_zero] at hst
  have hv : ∀ w, (zeroValue 138).run Try.prog w = .ok zS w := Try.zeroValue138
  simp [Builtin.clear_, run_underlying Try.underlying64, hv, hzc, hst]
theorem S_cells {w : World} {base g n cap : Nat} {ok : Nat → Prop} {xs : List S138} (h : Kd.S k138 138 w base ok (.slice (some ⟨g, 0, none⟩) n cap) xs) : (∀ m, m < cap * 6 → (w.cell? ⟨g, m, none⟩).isSome = true) ∧ ∀ m, w.frozen? ⟨g, m, none⟩ = false := by
  obtain ⟨f, h0, inner, h1, h2⟩ := h
  obtain ⟨h1, h3⟩ := h1
  rcases h3 with ⟨h3, _⟩ | ⟨g', cap', cur, hE, hg, hh, hn, hm, hs, ht⟩
  · cases h3
  · injection hE with ha hb hc
    injection ha with ha
    injection ha with ha
    subst ha hc
    refine ⟨fun m hm2 => ?_, fun m => blk_frozen hh m⟩
    have hs2 : cur.size = cap * 6 := hs
    have := blk_cell hh m
    rw [this, Array.getElem?_eq_getElem (by omega)]
    rfl
set_option maxHeartbeats 8000000 in
set_option maxRecDepth 100000 in
theorem delete_s {w0 W : World} {g n cap i : Nat} {ok : Nat → Prop} {xs : List S138} (HS : Kd.S k138 138 W w0.heap.size ok (.slice (some ⟨g, 0, none⟩) n cap) xs) (HB : Below w0.heap.size w0 W) (hi : i < n) (hn : n ≤ 1048576) :
    Calls Try.prog 118 #[.slice (some ⟨g, 0, none⟩) n cap, .int .i64 i, .int .i64 ((i : Int) + 1)] W fun e w' => e = .returned (.slice (some ⟨g, 0, none⟩) (n - 1) cap) ∧ Kd.S k138 138 w' w0.heap.size ok (.slice (some ⟨g, 0, none⟩) (n - 1) cap) (xs.eraseIdx i) ∧ Below w0.heap.size w0 w' := by
  have hcap := (Kd.S_reads' HS).2.1
  have p1 : i ≤ cap := by omega
  have p2 : i + 1 ≤ n := by omega
  have p3 : i + 1 ≤ cap := by omega
  have p4 : (0 : Int) ≤ (i : Int) + 1 := by omega
  have p5 : (i : Int) + 1 ≤ (n : Int) := by omega
  obtain ⟨m, rfl⟩ : ∃ m, n = m + 1 := ⟨n - 1, by omega⟩
  have H1 := Lib.hid HS
  have H2 := Lib.hid HB
  clear HS HB
  have p6 : m ≤ cap := by omega
  have p7 : m ≤ m + 1 := by omega
  have p8 : m + 1 ≤ cap := by omega
  have p9 : ¬ cap = m := by omega
  have p10 : i ≤ m := by omega
  go_enter Try.func118, Try.ntmps118
  go_wp2_with fail
  go_region_law (refine Kd.S_delete_step k138 (w0 := w0) w0.heap.size (by rfl) (.tmp 22) (.tmp 25) 64 138 rfl Try.underlying64 (by kernel_rfl) (g := g) (n := m + 1) (c := cap) (k := i) rfl rfl ?hA ?hm (Kd.S_drew H1.out) hi (below_drew H2.out) H2.out.size ?_; (case hA => (simp only [Option.map_some, Addr.add_lit, Nat.zero_add]; first | done | rfl)); (case hm => first | rfl | omega); intro w1 ho hb hg; have H3 := Lib.hid ho; have H4 := Lib.hid hb; obtain ⟨hc_, hf_⟩ := S_cells ho; have hcl := fun ty => clear_run w1 ty g (m * 6) (cap - m) (fun j hj => hc_ _ (by omega)) (fun j _ => hf_ _); clear ho hb hg hc_ hf_)
  go_wp2_with fail
  all_goals
    go_ret
    first
      | exact ⟨rfl, S_behind H3.out (Nat.le_refl _) (by simp only [zcS, List.length_cons, List.length_nil]; omega), below_cells H4.out (Kd.S_base H3.out g rfl) _ _⟩
      | (have hE : cap = i + 1 := by assumption
         rw [← hE]
         exact ⟨rfl, S_behind H3.out (Nat.le_refl _) (by simp only [zcS, List.length_cons, List.length_nil]; omega), below_cells H4.out (Kd.S_base H3.out g rfl) _ _⟩)
def impl_DropSound.f (k : Nat) (l0 : List S138) (a1 : ByteArray) : Option (List S138 × Bool) := (impl_findSound.f k l0 a1).bind fun i => (impl_AreSounds.f k l0).bind fun b => if b = true then (if i < 0 then some ([], false) else (if i.toNat < l0.length ∧ l0.length ≤ 1048576 ∧ (l0.all fun x => decide (x.f1.length < 35184372088832)) = true then some (l0.eraseIdx i.toNat, true) else none)) else some ([], false)
abbrev DropR (w : World) (r1 : List S138) (r2 : Bool) (e : Ending) (w' : World) : Prop := ∃ v0_ : Value, e = .returned (.tuple #[v0_, .bool r2]) ∧ Kd.S k138 138 w' w.heap.size (fun _ => True) v0_ r1 ∧ Below w.heap.size w w'
set_option maxHeartbeats 8000000 in
set_option maxRecDepth 100000 in
theorem drop_bad (A0 : Option Addr) (c0 n : Nat) (a1 : ByteArray) (i : Int) (b : Bool) (w : World) (hb : b = false ∨ i < 0) (h1 : ∀ W, Below w.heap.size w W → Calls Try.prog 117 #[.slice A0 n c0, .string a1] W fun e w' => e = .returned (.int .i64 i) ∧ Below W.heap.size W w') (h2 : ∀ W, Below w.heap.size w W → Calls Try.prog 102 #[.slice A0 n c0] W fun e w' => e = .returned (.bool b) ∧ Below W.heap.size W w') :
    Calls Try.prog 53 #[.slice A0 n c0, .string a1] w (DropR w [] false) := by
  have H1 := Lib.hid h1
  have H2 := Lib.hid h2
  clear h1 h2
  cases b with
  | false =>
    clear hb
    go_enter Try.func53, Try.ntmps53
    go_wp2_with (first
      | (go_at_call 117; (with_reducible refine (H1.out _ (Below.refl _ _)).mono ?_); rintro e w1 ⟨rfl, hb1⟩; have HB1 := Lib.hid hb1; clear hb1)
      | (go_at_call 102; (with_reducible refine (H2.out _ HB1.out).mono ?_); rintro e w2 ⟨rfl, hb2⟩; have HB2 := Lib.hid (HB1.out.trans (hb2.mono HB1.out.size)); clear hb2))
    go_ret2
    exact ⟨_, rfl, Kd.S_nil _ _ _ _ _, HB2.out⟩
  | true =>
    have hi : i < 0 := hb.resolve_left (by decide)
    have q1 : decide (i < 0) = true := decide_eq_true hi
    clear hb hi
    go_enter Try.func53, Try.ntmps53
    go_wp2_with (first
      | (go_at_call 117; (with_reducible refine (H1.out _ (Below.refl _ _)).mono ?_); rintro e w1 ⟨rfl, hb1⟩; have HB1 := Lib.hid hb1; clear hb1)
      | (go_at_call 102; (with_reducible refine (H2.out _ HB1.out).mono ?_); rintro e w2 ⟨rfl, hb2⟩; have HB2 := Lib.hid (HB1.out.trans (hb2.mono HB1.out.size)); clear hb2))
    go_ret2
    exact ⟨_, rfl, Kd.S_nil _ _ _ _ _, HB2.out⟩
set_option maxHeartbeats 8000000 in
set_option maxRecDepth 100000 in
theorem drop_good (A0 : Option Addr) (c0 : Nat) (l0 : List S138) (a1 : ByteArray) (j : Nat) (w : World) (hj : j < l0.length) (hl : l0.length ≤ 1048576) (h1 : ∀ W, Below w.heap.size w W → Calls Try.prog 117 #[.slice A0 l0.length c0, .string a1] W fun e w' => e = .returned (.int .i64 (j : Int)) ∧ Below W.heap.size W w') (h2 : ∀ W, Below w.heap.size w W → Calls Try.prog 102 #[.slice A0 l0.length c0] W fun e w' => e = .returned (.bool true) ∧ Below W.heap.size W w')
    (h3 : ∀ W, Below w.heap.size w W → Calls Try.prog 103 #[.slice A0 l0.length c0] W fun e w' => ∃ v0_ : Value, e = .returned (v0_) ∧ Kd.S k138 138 w' W.heap.size (fun _ => True) v0_ l0 ∧ Below W.heap.size W w') :
    Calls Try.prog 53 #[.slice A0 l0.length c0, .string a1] w (DropR w (l0.eraseIdx j) true) := by
  have H1 := Lib.hid h1
  have H2 := Lib.hid h2
  have H3 := Lib.hid h3
  have HJ := Lib.hid hj
  have HL := Lib.hid hl
  have q1 : decide ((j : Int) < 0) = false := decide_eq_false (by omega)
  have q2 : (j : Int) ≤ 1048576 := by omega
  clear h1 h2 h3 hj hl
  go_enter Try.func53, Try.ntmps53
  go_wp2_with (first
    | (go_at_call 117; (with_reducible refine (H1.out _ (Below.refl _ _)).mono ?_); rintro e w1 ⟨rfl, hb1⟩; have HB1 := Lib.hid hb1; clear hb1)
    | (go_at_call 102; (with_reducible refine (H2.out _ HB1.out).mono ?_); rintro e w2 ⟨rfl, hb2⟩; have HB2 := Lib.hid (HB1.out.trans (hb2.mono HB1.out.size)); clear hb2)
    | (go_at_call 103; (with_reducible refine (H3.out _ HB2.out).mono ?_); rintro e w3 ⟨v3, rfl, hs3, hb3⟩
       obtain ⟨g, cap, rfl, hg0, hgl, -⟩ := Kd.S_form hs3 (Nat.lt_of_le_of_lt (Nat.zero_le _) HJ.out)
       have HB3 := Lib.hid (HB2.out.trans (hb3.mono HB2.out.size))
       have HS3 := Lib.hid (Kd.S_lower hs3 HB2.out.size)
       clear hs3 hb3 hg0 hgl)
    | (go_at_call 118; (with_reducible refine (delete_s HS3.out HB3.out HJ.out HL.out).mono ?_); rintro e w4 ⟨rfl, hs4, hb4⟩
       have HB4 := Lib.hid hb4
       have HS4 := Lib.hid hs4
       clear hs4 hb4))
  go_ret2
  exact ⟨_, rfl, HS4.out, HB4.out⟩
theorem impl_DropSound.calls (k : Nat) (A0 : Option Addr) (c0 : Nat) (l0 : List S138) (a1 : ByteArray) (r1 : List S138) (r2 : Bool) (w : World) (hr0 : Kd.C k138 w A0 l0.length l0) (hc0 : l0.length ≤ c0) (h : impl_DropSound.f k l0 a1 = some (r1, r2)) :
    Calls Try.prog 53 #[.slice A0 l0.length c0, .string a1] w (DropR w r1 r2) := by
  unfold impl_DropSound.f at h
  obtain ⟨i, h1, h⟩ := Option.bind_eq_some_iff.mp h
  obtain ⟨b, h2, h⟩ := Option.bind_eq_some_iff.mp h
  have g1 : ∀ W, Below w.heap.size w W → Calls Try.prog 117 #[.slice A0 l0.length c0, .string a1] W fun e w' => e = .returned (.int .i64 i) ∧ Below W.heap.size W w' := fun W hW => impl_findSound.calls k A0 c0 l0 a1 i W (Kd.C_below hr0 hW) hc0 h1
  have g2 : ∀ W, Below w.heap.size w W → Calls Try.prog 102 #[.slice A0 l0.length c0] W fun e w' => e = .returned (.bool b) ∧ Below W.heap.size W w' := fun W hW => impl_AreSounds.calls k A0 c0 l0 b W (Kd.C_below hr0 hW) hc0 h2
  cases b with
  | false =>
    rw [if_neg (by decide)] at h
    injection h with h
    injection h with e1 e2
    subst e1 e2
    exact drop_bad A0 c0 l0.length a1 i false w (.inl rfl) g1 g2
  | true =>
    rw [if_pos rfl] at h
    by_cases hi : i < 0
    · rw [if_pos hi] at h
      injection h with h
      injection h with e1 e2
      subst e1 e2
      exact drop_bad A0 c0 l0.length a1 i true w (.inr hi) g1 g2
    · rw [if_neg hi] at h
      split at h
      · rename_i hc
        injection h with h
        injection h with e1 e2
        subst e1 e2
        obtain ⟨j, rfl⟩ : ∃ j : Nat, i = (j : Int) := ⟨i.toNat, by omega⟩
        rw [Int.toNat_natCast] at hc ⊢
        exact drop_good A0 c0 l0 a1 j w hc.1 hc.2.1 g1 g2 (fun W hW => impl_cloneSounds.calls A0 c0 l0 l0 W (Kd.C_below hr0 hW) hc0 (by unfold impl_cloneSounds.f; rw [if_pos (by omega), if_pos hc.2.2]))
      · cases h
end Go.Proofs.Ytoiaojdkgagblaa.PFnExactDropSound
