import Derived.Test.YteooifighndmkaaPFnExactAddSoundx
import Derived.Test.YteooifighndmkaaPrt
set_option linter.unusedVariables false
set_option linter.unusedSimpArgs false
namespace Go.Proofs.Yteooifighndmkaa.PFnExactAddSound
open Go.RowKit Go.Proofs.YteooifighndmkaaW.PrintWords Go.Proofs.YteooifighndmkaaW.PrintLast Go.Proofs.YteooifighndmkaaW.PrintMore Go.Proofs.YteooifighndmkaaW.PrintFl Go.Proofs.Yteooifighndmkaa Go.Proofs.Yteooifighndmkaa.PFnExactAddSound.Prt
abbrev kSd : Kd SD := k49
abbrev AddR (w : World) (r1 : List SD) (r2 : Bool) (e : Ending) (w' : World) : Prop := ∃ v0_ : Value, e = .returned (.tuple #[v0_, .bool r2]) ∧ Kd.S kSd 49 w' w.heap.size (fun _ => True) v0_ r1 ∧ Below w.heap.size w w'
set_option maxHeartbeats 8000000 in
set_option maxRecDepth 100000 in
theorem add_bad (A0 : Option Addr) (c0 n : Nat) (x : SD) (As : Option Addr) (cs : Nat) (i : Int) (b : Bool) (w : World) (hb : b = false ∨ 0 ≤ i) (h1 : ∀ W, Below w.heap.size w W → Calls Try.prog 57 #[.slice A0 n c0] W fun e w' => e = .returned (.bool b) ∧ Below W.heap.size W w') (h2 : ∀ W, Below w.heap.size w W → Calls Try.prog 58 #[.slice A0 n c0, .string x.f0] W fun e w' => e = .returned (.int .i64 i) ∧ Below W.heap.size W w') :
    Calls Try.prog 25 #[.slice A0 n c0, .agg #[.string x.f0, .slice As x.f1.length cs, .float .f32 x.f2, .float .f32 x.f3, .float .f32 x.f4, .float .f32 x.f5]] w (AddR w [] false) := by
  have H1 := Lib.hid h1
  have H2 := Lib.hid h2
  clear h1 h2
  cases b with
  | false =>
    clear hb
    go_enter Try.func25, Try.ntmps25
    go_wp2_with (first
      | ((with_reducible refine gate_dst (N := 3) rfl ?_); refine box_event ?hg (N := 3) ?hd (cs := #[.string x.f0, .slice As x.f1.length cs, .float .f32 x.f2, .float .f32 x.f3, .float .f32 x.f4, .float .f32 x.f5]) (t := 49) ?hr ?_; (case hd => rfl); (case hg => rfl); (case hr => first | (go_simp; done) | (go_simp; rfl)); intro gb hg w1 hbox hb; have HB := Lib.hid hb; have BK := Lib.hid hbox; clear hb hbox hg)
      | (go_at_call 57; (with_reducible refine (H1.out _ HB.out).mono ?_); rintro e w2 ⟨rfl, hb2⟩; have HB2 := Lib.hid (HB.out.trans (hb2.mono HB.out.size)); clear hb2))
    go_ret2
    exact ⟨_, rfl, Kd.S_nil _ _ _ _ _, HB2.out⟩
  | true =>
    have hi : 0 ≤ i := hb.resolve_left (by decide)
    have q1 : decide (0 ≤ i) = true := decide_eq_true hi
    clear hb hi
    go_enter Try.func25, Try.ntmps25
    go_wp2_with (first
      | ((with_reducible refine gate_dst (N := 3) rfl ?_); refine box_event ?hg (N := 3) ?hd (cs := #[.string x.f0, .slice As x.f1.length cs, .float .f32 x.f2, .float .f32 x.f3, .float .f32 x.f4, .float .f32 x.f5]) (t := 49) ?hr ?_; (case hd => rfl); (case hg => rfl); (case hr => first | (go_simp; done) | (go_simp; rfl)); intro gb hg w1 hbox hb; have HB := Lib.hid hb; have BK := Lib.hid hbox; clear hb hbox hg)
      | (go_at_call 57; (with_reducible refine (H1.out _ HB.out).mono ?_); rintro e w2 ⟨rfl, hb2⟩; have HB2 := Lib.hid (HB.out.trans (hb2.mono HB.out.size)); have c0_ : w2.cell? ⟨gb, 0, none⟩ = some (.string x.f0) := (blk_cell (blk_below BK.out hb2) 0).trans rfl; clear hb2)
      | (go_at_call 58; (with_reducible refine (H2.out _ HB2.out).mono ?_); rintro e w3 ⟨rfl, hb3⟩; have HB3 := Lib.hid (HB2.out.trans (hb3.mono HB2.out.size)); clear hb3))
    go_ret2
    exact ⟨_, rfl, Kd.S_nil _ _ _ _ _, HB3.out⟩
theorem gate_step {P : Program} {ops : Array Oper} {o : Oper} {a : Act} {W : World} {Kc : Act → World → Prop} {Q : Exit → Act → World → Prop} {E : Prop} (n : Nat) (_ : o.dst = some n) (h : if Region.wanted o (yielded ops a.tmps) = true then Oper.wp P o a W Kc Q else E) : if Region.wanted o (yielded ops a.tmps) = true then Oper.wp P o a W Kc Q else E := h
theorem bl2 {w w1 w2 : World} (h1 : Below w.heap.size w w1) (h2 : Below w1.heap.size w1 w2) : Below w.heap.size w w2 := h1.trans (h2.mono h1.size)
abbrev cellsOf (x : SD) (As : Option Addr) (cs : Nat) : Array Value := #[.string x.f0, .slice As x.f1.length cs, .float .f32 x.f2, .float .f32 x.f3, .float .f32 x.f4, .float .f32 x.f5]
abbrev litAt (W : World) (g : Nat) (x : SD) (As : Option Addr) (cs : Nat) : Prop := W.heap[g]? = some (.cells (cellsOf x As cs) 49 (0, 0))
structure Wd (w : World) (gb : Nat) (x : SD) (As : Option Addr) (cs : Nat) (W : World) : Prop where
  bel : Below w.heap.size w W
  box : litAt W gb x As cs
section
variable {w W W' : World} {gb : Nat} {x : SD} {As : Option Addr} {cs : Nat}
theorem Wd.to (h : Wd w gb x As cs W) (hb : Below W.heap.size W W') : Wd w gb x As cs W' := ⟨bl2 h.bel hb, blk_below h.box hb⟩
theorem Wd_alloc (h : Wd w gb x As cs W) (o : Obj) : Wd w gb x As cs (W.alloc o) := h.to (below_alloc (Below.refl _ _) o)
theorem Wd_drew (h : Wd w gb x As cs W) : Wd w gb x As cs W.drew := h.to (below_drew (Below.refl _ _))
theorem Wd_drewN (h : Wd w gb x As cs W) (n : Nat) : Wd w gb x As cs (W.drewN n) := h.to (pw_below_drewN (Below.refl _ _) n)
theorem Wd.cells (h : Wd w gb x As cs W) : W.cell? ⟨gb, 0, none⟩ = some (.string x.f0) ∧ W.cell? ⟨gb, 1, none⟩ = some (.slice As x.f1.length cs) ∧ W.cell? ⟨gb, 2, none⟩ = some (.float .f32 x.f2) ∧ W.cell? ⟨gb, 3, none⟩ = some (.float .f32 x.f3) ∧ W.cell? ⟨gb, 4, none⟩ = some (.float .f32 x.f4) ∧ W.cell? ⟨gb, 5, none⟩ = some (.float .f32 x.f5) :=
  ⟨(blk_cell h.box 0).trans rfl, (blk_cell h.box 1).trans rfl, (blk_cell h.box 2).trans rfl, (blk_cell h.box 3).trans rfl, (blk_cell h.box 4).trans rfl, (blk_cell h.box 5).trans rfl⟩
end
structure Cl1 (w : World) (gb : Nat) (x : SD) (As : Option Addr) (cs : Nat) (L : List SD) (W w' : World) (A : Option Addr) (c : Nat) : Prop where
  below : Below W.heap.size W w'
  wd : Wd w gb x As cs w'
  row : Kd.S kSd 49 w' w.heap.size (fun k => k < w'.heap.size) (.slice A L.length c) L
structure Cl2 (w : World) (x : SD) (L : List SD) (n : Nat) (w' : World) (A : Option Addr) (c : Nat) (A2 : Option Addr) (c2 : Nat) (ps1 ps2 : List PS) : Prop where
  bel : Below w.heap.size w w'
  p1 : Parts w' w.heap.size (fun k => k < n) (.slice A L.length c) ps1
  p2 : Parts w' w.heap.size (fun k => n ≤ k) (.slice A2 1 c2) ps2
  e : (ps1 ++ ps2).map (·.x) = L ++ [x]
theorem Cl2.reads {w : World} {x : SD} {L : List SD} {n : Nat} {w' : World} {A : Option Addr} {c : Nat} {A2 : Option Addr} {c2 : Nat} {ps1 ps2 : List PS} (h : Cl2 w x L n w' A c A2 c2 ps1 ps2) : ReadsRow ((Kd.raw 6).K w) (Kd.raw 6).sz w' A2 1 (ps2.map encS) := by
  have h2 := Kd.R_reads' h.p2.own
  rw [← h2.1] at h2
  exact h2.2.2
theorem Cl2.room {w : World} {x : SD} {L : List SD} {n : Nat} {w' : World} {A : Option Addr} {c : Nat} {A2 : Option Addr} {c2 : Nat} {ps1 ps2 : List PS} (h : Cl2 w x L n w' A c A2 c2 ps1 ps2) (hl : L.length ≤ 1048576) : ((ps1.map encS).length + 1) * 56 ≤ 140737488355328 := by
  have h2 := congrArg List.length h.e
  simp only [List.length_map, List.length_append, List.length_cons, List.length_nil] at h2 ⊢
  omega
theorem cl1_at {w : World} {gb : Nat} {x : SD} {As : Option Addr} {cs : Nat} {L : List SD} {A0 : Option Addr} {c0 : Nat} (h3 : ∀ W, Below w.heap.size w W → Calls Try.prog 59 #[.slice A0 L.length c0] W fun e w' => ∃ (A : Option Addr) (c : Nat), e = .returned (.slice A L.length c) ∧ Kd.S kSd 49 w' W.heap.size (fun _ => True) (.slice A L.length c) L ∧ Below W.heap.size W w') {W : World} (hW : Wd w gb x As cs W) :
    Calls Try.prog 59 #[.slice A0 L.length c0] W fun e w' => ∃ (A : Option Addr) (c : Nat), e = .returned (.slice A L.length c) ∧ Cl1 w gb x As cs L W w' A c := by
  refine (h3 W hW.bel).mono ?_
  rintro e w' ⟨A, c, rfl, hs, hb⟩
  exact ⟨A, c, rfl, hb, hW.to hb, Kd.S_lower (Kd.S_mono (Kd.S_bound hs) (fun _ hk => hk.2.2.1)) hW.bel.size⟩
theorem cl2_at {w : World} {gb : Nat} {x : SD} {As : Option Addr} {cs : Nat} {L : List SD} (h4 : ∀ W g, Below w.heap.size w W → litAt W g x As cs → Calls Try.prog 59 #[.slice (some ⟨g, 0, none⟩) 1 1] W fun e w' => ∃ (A : Option Addr) (c : Nat), e = .returned (.slice A 1 c) ∧ Kd.S kSd 49 w' W.heap.size (fun _ => True) (.slice A 1 c) [x] ∧ Below W.heap.size W w') {W0 w4 W : World} {A : Option Addr} {c g : Nat} (h : Cl1 w gb x As cs L W0 w4 A c) (hW : Below w4.heap.size w4 W) (hg : litAt W g x As cs) :
    Calls Try.prog 59 #[.slice (some ⟨g, 0, none⟩) 1 1] W fun e w' => ∃ (A2 : Option Addr) (c2 : Nat) (ps1 ps2 : List PS), e = .returned (.slice A2 1 c2) ∧ Cl2 w x L w4.heap.size w' A c A2 c2 ps1 ps2 := by
  have hb4 := bl2 h.wd.bel hW
  refine (h4 W g hb4 hg).mono ?_
  rintro e w' ⟨A2, c2, rfl, hs, hb⟩
  obtain ⟨ps1, hx1, P1⟩ := S_parts (Kd.S_below (Kd.S_below h.row hW) hb)
  obtain ⟨ps2, hx2, P2⟩ := S_parts (show Kd.S kSd 49 w' w.heap.size (fun k => w4.heap.size ≤ k) (.slice A2 1 c2) [x] from Kd.S_lower (Kd.S_mono (Kd.S_bound hs) (fun _ hk => Nat.le_trans hW.size hk.2.1)) hb4.size)
  exact ⟨A2, c2, ps1, ps2, rfl, bl2 hb4 hb, P1, P2, by rw [List.map_append, hx1, hx2]⟩
theorem sorted_to {x : SD} {L I : List SD} {ps qs : List PS} (he : ps.map (·.x) = L ++ [x]) (hp : I.Perm (L ++ [x])) (hs : I.Pairwise (fun a b => Op.bytesLess a.f0.toList b.f0.toList = true)) (hq : qs.Perm ps) (hso : qs.Pairwise (fun p q => Op.bytesLess q.x.f0.data.toList p.x.f0.data.toList = false)) : qs.map (·.x) = I := by
  refine sorted_unique I _ (((hq.map (·.x)).trans (by rw [he])).trans hp.symm) hs (List.pairwise_map.2 (hso.imp (fun h => ?_)))
  rw [ByteArray.toList_eq, ByteArray.toList_eq]
  exact h
theorem sorts_are {w W : World} {I : List SD} {b : Bool} {g n cap : Nat} {qs : List PS} (h5 : ∀ W A c, Kd.C kSd W A I.length I → I.length ≤ c → Calls Try.prog 57 #[.slice A I.length c] W fun e w' => e = .returned (.bool b) ∧ Below W.heap.size W w') (hI : qs.map (·.x) = I) (hP : Parts W w.heap.size (fun _ => True) (.slice (some ⟨g, 0, none⟩) n cap) qs) (hn : I.length = n) : Calls Try.prog 57 #[.slice (some ⟨g, 0, none⟩) n cap] W fun e w' => e = .returned (.bool b) ∧ Below W.heap.size W w' := by
  have hS := parts_S hP
  rw [hI] at hS
  obtain ⟨h1, h2, h3⟩ := Kd.S_reads' hS
  subst hn
  exact h5 W _ cap h3 h2
set_option maxHeartbeats 8000000 in
set_option maxRecDepth 100000 in
theorem add_good (A0 : Option Addr) (c0 : Nat) (L : List SD) (x : SD) (As : Option Addr) (cs : Nat) (i : Int) (w : World) (hi : i < 0) (h1 : ∀ W, Below w.heap.size w W → Calls Try.prog 57 #[.slice A0 L.length c0] W fun e w' => e = .returned (.bool true) ∧ Below W.heap.size W w') (h2 : ∀ W, Below w.heap.size w W → Calls Try.prog 58 #[.slice A0 L.length c0, .string x.f0] W fun e w' => e = .returned (.int .i64 i) ∧ Below W.heap.size W w')
    (h3 : ∀ W, Below w.heap.size w W → Calls Try.prog 59 #[.slice A0 L.length c0] W fun e w' => ∃ (A : Option Addr) (c : Nat), e = .returned (.slice A L.length c) ∧ Kd.S kSd 49 w' W.heap.size (fun _ => True) (.slice A L.length c) L ∧ Below W.heap.size W w')
    (h4 : ∀ W g, Below w.heap.size w W → litAt W g x As cs → Calls Try.prog 59 #[.slice (some ⟨g, 0, none⟩) 1 1] W fun e w' => ∃ (A : Option Addr) (c : Nat), e = .returned (.slice A 1 c) ∧ Kd.S kSd 49 w' W.heap.size (fun _ => True) (.slice A 1 c) [x] ∧ Below W.heap.size W w')
    (I : List SD) (hp : I.Perm (L ++ [x])) (hs : I.Pairwise (fun a b => Op.bytesLess a.f0.toList b.f0.toList = true)) (hl : L.length ≤ 1048576) (b : Bool)
    (h5 : ∀ W A c, Kd.C kSd W A I.length I → I.length ≤ c → Calls Try.prog 57 #[.slice A I.length c] W fun e w' => e = .returned (.bool b) ∧ Below W.heap.size W w') (r : List SD) (hr : r = if b = true then I else []) :
    Calls Try.prog 25 #[.slice A0 L.length c0, .agg #[.string x.f0, .slice As x.f1.length cs, .float .f32 x.f2, .float .f32 x.f3, .float .f32 x.f4, .float .f32 x.f5]] w (AddR w r b) := by
  have H1 := Lib.hid h1
  have H2 := Lib.hid h2
  have H3 := Lib.hid h3
  have H4 := Lib.hid h4
  have q1 : decide (0 ≤ i) = false := decide_eq_false (by omega)
  have H5 := Lib.hid h5
  have HP := Lib.hid hp
  have HS := Lib.hid hs
  have HL := Lib.hid hl
  have HR := Lib.hid hr
  clear h1 h2 h3 h4 h5 hi hp hs hl hr
  go_enter Try.func25, Try.ntmps25
  go_wp2_with (first
      | ((with_reducible refine gate_dst (N := 3) rfl ?_); refine box_event ?hg (N := 3) ?hd (cs := #[.string x.f0, .slice As x.f1.length cs, .float .f32 x.f2, .float .f32 x.f3, .float .f32 x.f4, .float .f32 x.f5]) (t := 49) ?hr ?_; (case hd => rfl); (case hg => rfl); (case hr => first | (go_simp; done) | (go_simp; rfl)); intro gb hg w1 hbox hb; have HW := Lib.hid (show Wd w gb x As cs w1 from ⟨hb, hbox⟩); clear hb hbox hg)
      | (go_at_call 57; (with_reducible refine (H1.out _ HW.out.bel).mono ?_); rintro e w2 ⟨rfl, hb2⟩; have HW2 := Lib.hid (HW.out.to hb2); have c0_ := HW2.out.cells.1; clear hb2)
      | (go_at_call 58; (with_reducible refine (H2.out _ HW2.out.bel).mono ?_); rintro e w3 ⟨rfl, hb3⟩; have HW3 := Lib.hid (HW2.out.to hb3); clear hb3 c0_))
  obtain ⟨d0, d1, d2, d3, d4, d5⟩ := HW3.out.cells
  have M1 : True := trivial
  go_region_law (first
    | ((with_reducible refine gate_step 22 rfl ?_); refine Kd.R_append_rows_step (Kd.raw 6) (Rr := (Kd.raw 6).K w) (w0 := w) w.heap.size (by rfl) (.tmp 18) (.tmp 21) 32 49 (.agg #[.string ⟨#[]⟩, .slice none 0 0, .float .f32 0, .float .f32 0, .float .f32 0, .float .f32 0]) 56 rfl Try.underlying32 (by kernel_rfl) rfl (by decide) (by decide) (.slice A4 L.length c4) (ps1.map encS) (ps2.map encS) A5 1 c5 (fun _ => True) (fun _ => False) rfl rfl HC2.out.p1.own (HC2.out.reads) (fun _ _ h_ => h_) (fun _ hk => hk.elim) (fun _ _ => trivial) HC2.out.bel HC2.out.bel.size (HC2.out.room HL.out) ?_
       intro v6 w6 hr6 hb6 hg6 hat6
       have HP6 := Lib.hid (parts_app HC2.out.p1 HC2.out.p2 hr6 hg6 hat6 (fun k h1 h2 => by omega))
       have HB6 := Lib.hid hb6
       clear hr6 hb6 hg6 hat6)
    | (go_simp; go_wp2_with (first
        | (go_at_call 59; clear M1; (with_reducible refine (cl1_at H3.out (gb := gb) (x := x) (As := As) (cs := cs) (by repeat (first | exact HW3.out | refine Wd_alloc ?_ _ | refine Wd_drewN ?_ _ | refine Wd_drew ?_))).mono ?_); rintro e w4 ⟨A4, c4, rfl, hc1⟩
           have HC1 := Lib.hid hc1
           try have LK := Lib.hid (show litAt w4 w3.heap.size x As cs from blk_below (heap_alloc_new w3.drew _) hc1.below)
           obtain ⟨f0, f1, f2, f3, f4, f5⟩ := HC1.out.wd.cells
           clear hc1)
        | (go_at_call 59; (with_reducible refine (cl2_at H4.out HC1.out (by repeat (first | exact Below.refl _ _ | apply below_alloc | apply pw_below_drewN | apply below_drew1)) (by first | exact heap_alloc_new _ _ | exact LK.out)).mono ?_); rintro e w5 ⟨A5, c5, ps1, ps2, rfl, hc2⟩
           have HC2 := Lib.hid hc2
           clear hc2))))
  all_goals
    have hn6 : (ps1 ++ ps2).length = L.length + 1 := by have h_ := congrArg List.length HC2.out.e; simpa using h_
    obtain ⟨g6, cap6, rfl, -, hgl6, -⟩ := Kd.R_form HP6.out.own (by rw [List.length_map, hn6]; omega)
    have HN6 := Lib.hid hn6
    have HLI := Lib.hid (show I.length = L.length + 1 by have h_ := HP.out.length_eq; simpa using h_)
    rw [List.length_map, hn6] at HP6 ⊢
    clear hn6 hgl6
    have HSS := Lib.hid (sort_s HP6.out (by have := HL.out; omega))
    cases b
    all_goals
      go_wp2_with (first
        | (go_at_call 60; (with_reducible refine HSS.out.mono ?_); rintro e w7 ⟨rfl, qs, hq, hso, hP, hg⟩
           have HI := Lib.hid (sorted_to HC2.out.e HP.out HS.out hq hso)
           have HP7 := Lib.hid hP
           go_loud (have HB7 := Lib.hid (show Below w.heap.size w w7 from HB6.out.grown hg HB6.out.size (fun k hk => by injection hk with hk; subst hk; exact Kd.R_base HP6.out.own _ rfl)))
           clear hq hso hP hg)
        | (go_at_call 57; (with_reducible refine (sorts_are H5.out HI.out HP7.out HLI.out).mono ?_); rintro e w8 ⟨rfl, hb8⟩
           have HB8 := Lib.hid (bl2 HB7.out hb8)
           have HS8 := Lib.hid (show Kd.S kSd 49 w8 w.heap.size (fun _ => True) _ I from Kd.S_below (HI.out ▸ parts_S HP7.out) hb8)
           clear hb8))
      go_ret2
      rw [HR.out]
      first
        | exact ⟨_, rfl, Kd.S_nil _ _ _ _ _, HB8.out⟩
        | exact ⟨_, rfl, HS8.out, HB8.out⟩
end Go.Proofs.Yteooifighndmkaa.PFnExactAddSound
