import Derived.Test.YtoiaojdkgagblaaPFnExactDropSoundx0
import Derived.Test.YtoiaojdkgagblaaPFnExactDropSoundx2
namespace Go.Proofs.Ytoiaojdkgagblaa.PFnExactDropSound
open Go.RowKit Go.Proofs.YtoiaojdkgagblaaW.PrintWords Go.Proofs.YtoiaojdkgagblaaW.PrintLast Go.Proofs.YtoiaojdkgagblaaW.PrintMore
open Go.Proofs.YtoiaojdkgagblaaW.PrintFl
attribute [local go_sem high] binOp_feq binOp_fne binOp_fls binOp_fle binOp_fgr binOp_fge binOp_sle binOp_sgt
attribute [local go_sem] run_fopr run_fconv run_fint run_stf run_stc ext_f32bits ext_f64bits ext_f32frombits
attribute [local go_sem] max2_int min2_int max_two min_two max_three min_three max_four min_four
set_option linter.unusedVariables false
set_option linter.unusedSimpArgs false
abbrev laws_heldSoundS.z0 : Array Bool := #[false, false, false, false, false, false, false, false]
abbrev laws_heldSoundS.z1 : Array Bool := #[true, false, false, false, false, false, false, false]
abbrev laws_heldSoundS.z2 : Array Bool := #[true, true, false, false, false, false, false, false]
abbrev laws_heldSoundS.z3 : Array Bool := #[true, true, true, false, false, false, false, false]
abbrev laws_heldSoundS.z4 : Array Bool := #[true, true, true, true, false, false, false, false]
abbrev laws_heldSoundS.z5 : Array Bool := #[true, true, true, true, false, true, false, false]
abbrev laws_heldSoundS.z6 : Array Bool := #[true, true, true, true, true, true, false, false]
abbrev laws_heldSoundS.z7 : Array Bool := #[true, true, true, true, true, true, true, false]
abbrev laws_heldSoundS.z8 : Array Bool := #[true, true, true, true, true, true, true, true]
def laws_heldSoundS.l0 : Nat → List (S138) → Int → Int → Option (Int)
 | 0, _, _, _ => none
 | k + 1, x0, x1, x5 => if x5 < (x0.length : Int) then (if 0 ≤ x5 then ((laws_markText.f k x1).bind fun t139 => (if ((rd_T138 x0 x5).f0).toList = t139.toList then ((laws_heldFloat32S.f k ((rd_T138 x0 x5).f1) (wrap64 (x1 + 1))).bind fun t141 => (if t141 < 0 then (some (-1)) else (if (fne .f32 ((rd_T138 x0 x5).f2) (floatOfInt .f32 t141)) = true then (some (-1)) else (if (fne .f32 ((rd_T138 x0 x5).f3) (floatOfInt .f32 (wrap64 (t141 + 1)))) = true then (some (-1)) else (if (fne .f32 ((rd_T138 x0 x5).f4) (floatOfInt .f32 (wrap64 ((wrap64 (t141 + 1)) + 1)))) = true then (some (-1)) else (if (fne .f32 ((rd_T138 x0 x5).f5) (floatOfInt .f32 (wrap64 ((wrap64 ((wrap64 (t141 + 1)) + 1)) + 1)))) = true then (some (-1)) else (laws_heldSoundS.l0 k x0 (wrap64 ((wrap64 ((wrap64 ((wrap64 (t141 + 1)) + 1)) + 1)) + 1)) (wrap64 (x5 + 1))))))))) else (some (-1)))) else (none)) else (some x1)
def laws_heldSoundS.f (k : Nat) (l0 : List (S138)) (a1 : Int) : Option (Int) := laws_heldSoundS.l0 k l0 a1 0
theorem laws_heldSoundS.mono_l : ∀ k, (∀ y0 y1 y2, LeO (laws_heldSoundS.l0 k y0 y1 y2) (laws_heldSoundS.l0 (k + 1) y0 y1 y2))
 | 0 => fun _ _ _ r h => by simp [laws_heldSoundS.l0] at h
 | k + 1 => by
  have ih0 := laws_heldSoundS.mono_l k
  ·intro y0 y1 y2
   unfold laws_heldSoundS.l0
   repeat' first
   | (with_reducible exact ih0 _ _ _)
   | (with_reducible exact laws_heldFloat32S.mono _ _ _)
   | (with_reducible exact laws_markText.mono _ _)
   | (with_reducible exact LeO.refl _)
   | (with_reducible exact LeO.none _)
   | (with_reducible refine LeO.ite ?_ ?_)
   | (with_reducible refine LeO.bind ?_ (fun _ => ?_))
   | exact ih0 _ _ _
   | exact laws_heldFloat32S.mono _ _ _
   | exact laws_markText.mono _ _
   | exact LeO.none _
   | refine LeO.ite ?_ ?_
   | refine LeO.bind ?_ (fun _ => ?_)
theorem laws_heldSoundS.mono : ∀ a0 a1 k, LeO (laws_heldSoundS.f k a0 a1) (laws_heldSoundS.f (k + 1) a0 a1) := by
 intro a0 a1 k
 have ih0 := laws_heldSoundS.mono_l k
 unfold laws_heldSoundS.f
 repeat' first
   | (with_reducible exact ih0 _ _ _)
   | (with_reducible exact laws_heldFloat32S.mono _ _ _)
   | (with_reducible exact laws_markText.mono _ _)
   | (with_reducible exact LeO.refl _)
   | (with_reducible exact LeO.none _)
   | (with_reducible refine LeO.ite ?_ ?_)
   | (with_reducible refine LeO.bind ?_ (fun _ => ?_))
   | exact ih0 _ _ _
   | exact laws_heldFloat32S.mono _ _ _
   | exact laws_markText.mono _ _
   | exact LeO.none _
   | refine LeO.ite ?_ ?_
   | refine LeO.bind ?_ (fun _ => ?_)
def laws_heldSoundS.T4 : Bool × List (List Nat × List Nat) := (true, [([], []), ([], []), ([0, 1], [0, 1]), ([2], [2]), ([3], [3]), ([], []), ([5], [5]), ([4, 6], [4, 6])])
def laws_heldSoundS.B4 : List Nat := [0, 0, 3, 7, 15, 0, 32, 127]
theorem laws_heldSoundS.tab4 : rtab .any (opsOf Try.f46 4) = laws_heldSoundS.T4 := by kernel_rfl
theorem laws_heldSoundS.bits4 : waitsOk laws_heldSoundS.T4.2 laws_heldSoundS.B4 = true := by kernel_rfl
set_option maxHeartbeats 8000000 in
set_option maxRecDepth 100000 in
theorem laws_heldSoundS.calls (k : Nat) (A0 : Option Addr) (c0 : Nat) (l0 : List (S138)) (a1 : Int) (r : Int) (w : World) (hr0 : Kd.C k138 w A0 l0.length l0) (hc0 : l0.length ≤ c0) (h : laws_heldSoundS.f k l0 a1 = some r) :
  Calls Try.prog 46 #[.slice A0 l0.length c0, .int .i64 a1] w fun e w' => e = .returned (.int .i64 r) ∧ Below w.heap.size w w' := by
 have hu9 := Try.underlying9
 have hu26 := Try.underlying26
 have hu36 := Try.underlying36
 have HR0 := Aside0.mk hr0
 have HC0 := Aside0.mk hc0
 clear hr0 hc0
 have HB := Aside0.mk (Below.refl w.heap.size w)
 have H : (laws_heldSoundS.l0 k l0 a1 0) = some r := h
 clear h
 have H' := Aside0.mk H
 clear H
 go_enter Try.func46, Try.ntmps46
 go_wp2
 go_loopg [1, 5] k (fun kq v1 v5 w' => ∃ (x1_1 : Int) (x5_1 : Int), v1 = .int .i64 x1_1 ∧ v5 = .int .i64 x5_1 ∧ Aside0 (laws_heldSoundS.l0 kq l0 x1_1 x5_1 = some r) ∧ Aside0 (kq ≤ k) ∧ Aside0 (Below w.heap.size w w'))
 case atStart => exact ⟨(a1), (0), (by first | rfl | (simp; done) | (simp [*]; done)), (by first | rfl | (simp; done) | (simp [*]; done)), H', ⟨Nat.le_refl _⟩, ⟨by repeat (first | (with_reducible first | exact HB.out | apply below_alloc | apply pw_below_drewN | apply below_drew1) | exact HB.out)⟩⟩
 case round =>
  clear H'
  try clear p2
  obtain ⟨x1_1, x5_1, rfl, rfl, HA, HK1, HB⟩ := hrel
  cases gk with
  | zero => exact absurd HA.out (by simp [laws_heldSoundS.l0])
  | succ k1 =>
   have H := HA.out
   clear HA
   simp only [laws_heldSoundS.l0] at H
   by_cases c3 : x5_1 < (l0.length : Int)
   ·rw [if_pos c3] at H
    have c3b0 : decide (x5_1 < (l0.length : Int)) = true := decide_eq_true c3
    clear c3
    by_cases c4 : 0 ≤ x5_1
    ·rw [if_pos c4] at H
     have c4b0 : decide (0 ≤ x5_1) = true := decide_eq_true c4
     clear c4
     replace H := Option.bind_eq_some_iff.mp H
     obtain ⟨t139, A50, H⟩ := H
     replace H : (if ((rd_T138 l0 x5_1).f0).toList = t139.toList then ((laws_heldFloat32S.f k1 ((rd_T138 l0 x5_1).f1) (wrap64 (x1_1 + 1))).bind fun t141 => (if t141 < 0 then (some (-1)) else (if (fne .f32 ((rd_T138 l0 x5_1).f2) (floatOfInt .f32 t141)) = true then (some (-1)) else (if (fne .f32 ((rd_T138 l0 x5_1).f3) (floatOfInt .f32 (wrap64 (t141 + 1)))) = true then (some (-1)) else (if (fne .f32 ((rd_T138 l0 x5_1).f4) (floatOfInt .f32 (wrap64 ((wrap64 (t141 + 1)) + 1)))) = true then (some (-1)) else (if (fne .f32 ((rd_T138 l0 x5_1).f5) (floatOfInt .f32 (wrap64 ((wrap64 ((wrap64 (t141 + 1)) + 1)) + 1)))) = true then (some (-1)) else (laws_heldSoundS.l0 k1 l0 (wrap64 ((wrap64 ((wrap64 ((wrap64 (t141 + 1)) + 1)) + 1)) + 1)) (wrap64 (x5_1 + 1))))))))) else (some (-1))) = some r := H
     have A5 := Aside0.mk A50
     clear A50
     by_cases c6 : ((rd_T138 l0 x5_1).f0).toList = t139.toList
     ·rw [if_pos c6] at H
      have c6b0 : (((rd_T138 l0 x5_1).f0).toList == t139.toList) = true := beq_iff_eq.mpr c6
      have c6b1 : (((rd_T138 l0 x5_1).f0).toList != t139.toList) = false := bne_eq_false_iff_eq.mpr c6
      clear c6
      replace H := Option.bind_eq_some_iff.mp H
      obtain ⟨t141, A70, H⟩ := H
      replace H : (if t141 < 0 then (some (-1)) else (if (fne .f32 ((rd_T138 l0 x5_1).f2) (floatOfInt .f32 t141)) = true then (some (-1)) else (if (fne .f32 ((rd_T138 l0 x5_1).f3) (floatOfInt .f32 (wrap64 (t141 + 1)))) = true then (some (-1)) else (if (fne .f32 ((rd_T138 l0 x5_1).f4) (floatOfInt .f32 (wrap64 ((wrap64 (t141 + 1)) + 1)))) = true then (some (-1)) else (if (fne .f32 ((rd_T138 l0 x5_1).f5) (floatOfInt .f32 (wrap64 ((wrap64 ((wrap64 (t141 + 1)) + 1)) + 1)))) = true then (some (-1)) else (laws_heldSoundS.l0 k1 l0 (wrap64 ((wrap64 ((wrap64 ((wrap64 (t141 + 1)) + 1)) + 1)) + 1)) (wrap64 (x5_1 + 1)))))))) = some r := H
      have A7 := Aside0.mk A70
      clear A70
      by_cases c8 : t141 < 0
      ·rw [if_pos c8] at H
       have c8b0 : decide (t141 < 0) = true := decide_eq_true c8
       clear c8
       obtain rfl := Option.some.inj H
       try go_wp2
       have n0_ := Aside0.mk (below_drew1 HB.out)
       clear HB
       have HB := n0_
       clear n0_
       have p138 : 0 ≤ (x5_1 : Int) := of_decide_eq_true (by first | (with_reducible assumption) | assumption)
       have q138 : x5_1 < (l0.length : Int) := of_decide_eq_true (by first | (with_reducible assumption) | assumption)
       obtain ⟨ad138, A138_1, c138_1, e138, hx138_0, hx138_1, hx138_2, hx138_3, hx138_4, hx138_5, hl138_1, hi138_1⟩ := at_T138 HR0.out x5_1 p138 q138
       have hw138_5 := hx138_5
       have hw138_4 := hx138_4
       have hw138_3 := hx138_3
       have hw138_2 := hx138_2
       have hw138_1 := hx138_1
       have hw138_0 := hx138_0
       cases e138
       replace hx138_0 := (HB.out.cell (World.block_lt_of_cell? w _ hx138_0)).trans hx138_0
       replace hx138_1 := (HB.out.cell (World.block_lt_of_cell? w _ hx138_1)).trans hx138_1
       replace hx138_2 := (HB.out.cell (World.block_lt_of_cell? w _ hx138_2)).trans hx138_2
       replace hx138_3 := (HB.out.cell (World.block_lt_of_cell? w _ hx138_3)).trans hx138_3
       replace hx138_4 := (HB.out.cell (World.block_lt_of_cell? w _ hx138_4)).trans hx138_4
       replace hx138_5 := (HB.out.cell (World.block_lt_of_cell? w _ hx138_5)).trans hx138_5
       have HR138_1 := Aside0.mk hi138_1
       have HC138_1 := Aside0.mk hl138_1
       clear hi138_1 hl138_1
       replace p138 := eq_true p138
       replace q138 := eq_true q138
       refine start_ (n := 8) (S := fun w' => w'.cell? (ad138.add ((x5_1).toNat * 6)) = some (.string ((rd_T138 l0 x5_1).f0)) ∧ w'.cell? ⟨(ad138.add ((x5_1).toNat * 6)).block, (ad138.add ((x5_1).toNat * 6)).off + 1, none⟩ = some (.slice A138_1 ((rd_T138 l0 x5_1).f1).length c138_1) ∧ w'.cell? ⟨(ad138.add ((x5_1).toNat * 6)).block, (ad138.add ((x5_1).toNat * 6)).off + 2, none⟩ = some (.float .f32 ((rd_T138 l0 x5_1).f2)) ∧ w'.cell? ⟨(ad138.add ((x5_1).toNat * 6)).block, (ad138.add ((x5_1).toNat * 6)).off + 3, none⟩ = some (.float .f32 ((rd_T138 l0 x5_1).f3)) ∧ w'.cell? ⟨(ad138.add ((x5_1).toNat * 6)).block, (ad138.add ((x5_1).toNat * 6)).off + 4, none⟩ = some (.float .f32 ((rd_T138 l0 x5_1).f4)) ∧ w'.cell? ⟨(ad138.add ((x5_1).toNat * 6)).block, (ad138.add ((x5_1).toNat * 6)).off + 5, none⟩ = some (.float .f32 ((rd_T138 l0 x5_1).f5))) (ds := []) laws_heldSoundS.z0 (by kernel_rfl) rfl rfl ⟨(cu_ HB.out hw138_0), (cu_ HB.out hw138_1), (cu_ HB.out hw138_2), (cu_ HB.out hw138_3), (cu_ HB.out hw138_4), (cu_ HB.out hw138_5)⟩ (fun hHeld => ?_); refine with_tabW laws_heldSoundS.tab4 laws_heldSoundS.bits4 (fun HT_ HW_ => ?_)
       generalize wr.drew = w9 at HB HR138_1 hx138_0 hx138_1 hx138_2 hx138_3 hx138_4 hx138_5 hHeld ⊢
       refine pure_ (i := 0) (N := some 12) (v := ?_) (a' := ?_) laws_heldSoundS.z1 rfl rfl (any_of HT_.out (by kernel_rfl)) (fun _ _ _ h => h) (Or.inl ⟨by rfl, ?_⟩) ?_ ?_
       pv_
       refine pure_ (i := 1) (N := some 13) (v := ?_) (a' := ?_) laws_heldSoundS.z2 rfl rfl (any_of HT_.out (by kernel_rfl)) (fun _ _ _ h => h) (Or.inl ⟨by rfl, ?_⟩) ?_ ?_
       pv_
       refine pure_ (i := 2) (N := some 14) (v := ?_) (a' := ?_) laws_heldSoundS.z3 rfl rfl (any_of HT_.out (by kernel_rfl)) (fun _ _ _ h => h) (Or.inl ⟨by rfl, ?_⟩) ?_ ?_
       pv_
       refine pure_ (i := 3) (N := some 15) (v := ?_) (a' := ?_) laws_heldSoundS.z4 rfl rfl (any_of HT_.out (by kernel_rfl)) (fun _ _ _ h => h) (Or.inl ⟨by rfl, ?_⟩) ?_ ?_
       pv_
       refine pure_ (i := 5) (N := some 17) (v := ?_) (a' := ?_) laws_heldSoundS.z5 rfl rfl (any_of HT_.out (by kernel_rfl)) (fun _ _ _ h => h) (Or.inl ⟨by rfl, ?_⟩) ?_ ?_
       pv_
       refine take_ (i := 4) (N := some 16) (v := ?_) (a' := ?_) laws_heldSoundS.z6 rfl rfl (take_ofW HT_.out HW_.out (by kernel_rfl)) (fun _ _ _ h => h) (Or.inl ⟨by rfl, ?_⟩) hHeld ?_ ?_
       rotate_left
       ·rintro w' ⟨s0, s1, s2, s3, s4, s5⟩
        go_simp
        with_reducible rfl
       rotate_left
       ·pw_
       refine one_ (i := 6) (N := some 18) laws_heldSoundS.z7 rfl rfl (one_of HT_.out (by kernel_rfl)) (by decide) (fun K hK => ?_)
       refine goes_ Try.func105 (by kernel_rfl) rfl #[.int .i64 x1_1] (by rfl) rfl rfl (by (try simp only [List.map_toArray, List.map_cons, List.map_nil]); first | done | rfl | (simp only [List.length_drop, List.length_take]; rfl)) ?_
       with_reducible refine (laws_markText.calls k1 x1_1 t139 _ A5.out).mono ?_
       rintro e w10 ⟨rfl, hb⟩
       refine ⟨_, rfl, ?_⟩
       have n0_ := Aside0.mk (below_step (by repeat (first | (with_reducible first | exact HB.out | apply below_alloc | apply pw_below_drewN | apply below_drew1) | exact HB.out)) hb)
       clear HB
       have HB := n0_
       clear n0_
       (try clear hb)
       (try clear hb2)
       (try clear hk)
       (try clear hi)
       refine hK.out _ _ ⟨(cu_ HB.out hw138_0), (cu_ HB.out hw138_1), (cu_ HB.out hw138_2), (cu_ HB.out hw138_3), (cu_ HB.out hw138_4), (cu_ HB.out hw138_5)⟩ (fun hHeld => ?_)
       clear hK K
       refine norm_ (a' := ?_) ?_ ?_
       rotate_left
       ·show Act.put _ (some 18) _ = _
        pw_
       refine pure_ (i := 7) (N := some 19) (v := ?_) (a' := ?_) laws_heldSoundS.z8 rfl rfl (any_of HT_.out (by kernel_rfl)) (fun _ _ _ h => h) (Or.inl ⟨by rfl, ?_⟩) ?_ ?_
       pv_
       refine done_ (done_of HT_.out (by kernel_rfl)) ?_
       have p140 : 0 ≤ (x5_1 : Int) := of_decide_eq_true (by first | (with_reducible assumption) | assumption)
       have q140 : x5_1 < (l0.length : Int) := of_decide_eq_true (by first | (with_reducible assumption) | assumption)
       obtain ⟨ad140, A140_1, c140_1, e140, hx140_0, hx140_1, hx140_2, hx140_3, hx140_4, hx140_5, hl140_1, hi140_1⟩ := at_T138 HR0.out x5_1 p140 q140
       obtain rfl : ad138 = ad140 := (by injection e140)
       try obtain ⟨rfl, rfl⟩ : A140_1 = A138_1 ∧ c140_1 = c138_1 := (by have e_ := Option.some.inj (hw138_1.symm.trans hx140_1); injection e_ with e1_ e2_ e3_; exact ⟨e1_.symm, e3_.symm⟩)
       replace hx140_0 := (HB.out.cell (World.block_lt_of_cell? w _ hx140_0)).trans hx140_0
       replace hx140_1 := (HB.out.cell (World.block_lt_of_cell? w _ hx140_1)).trans hx140_1
       replace hx140_2 := (HB.out.cell (World.block_lt_of_cell? w _ hx140_2)).trans hx140_2
       replace hx140_3 := (HB.out.cell (World.block_lt_of_cell? w _ hx140_3)).trans hx140_3
       replace hx140_4 := (HB.out.cell (World.block_lt_of_cell? w _ hx140_4)).trans hx140_4
       replace hx140_5 := (HB.out.cell (World.block_lt_of_cell? w _ hx140_5)).trans hx140_5
       have HR140_1 := Aside0.mk hi140_1
       have HC140_1 := Aside0.mk hl140_1
       clear hi140_1 hl140_1
       replace p140 := eq_true p140
       replace q140 := eq_true q140
       try go_wp2_with (first | ((with_reducible refine gate_callee (f := 27) rfl ?_); refine goesL_ (some 28) rfl rfl Try.func27 (by kernel_rfl) rfl #[.slice A140_1 ((rd_T138 l0 x5_1).f1).length c140_1, .int .i64 (wrap64 (x1_1 + 1))] rfl (by (try simp only [List.map_toArray, List.map_cons, List.map_nil]); first | done | rfl | (simp only [List.length_drop, List.length_take]; rfl)) ?_; (with_reducible refine (laws_heldFloat32S.calls k1 _ _ ((rd_T138 l0 x5_1).f1) (wrap64 (x1_1 + 1)) t141 _ ?side1 ?side2 A7.out).mono ?_); (case side1 => repeat (first | exact (Kd.C_below HR140_1.out HB.out) | (with_reducible refine Kd.C_alloc ?_ _) | (with_reducible refine Kd.C_drewN ?_ _) | (with_reducible refine Kd.C_drew ?_))); (case side2 => exact HC140_1.out); rintro e w' ⟨rfl, ⟨nd, rfl⟩⟩; refine ⟨_, rfl, ?_⟩))
       go_ret
       exact ⟨by first | rfl | (simp [errW_none, errW_some] <;> rfl) | (simp [*, errW_none, errW_some] <;> rfl), by repeat (first | (with_reducible first | exact HB.out | apply below_alloc | apply pw_below_drewN | apply below_drew1) | exact HB.out)⟩
      ·rw [if_neg c8] at H
       have c8b0 : decide (t141 < 0) = false := decide_eq_false c8
       clear c8
       by_cases c11 : (fne .f32 ((rd_T138 l0 x5_1).f2) (floatOfInt .f32 t141)) = true
       ·rw [if_pos c11] at H
        have c11b0 : (fne .f32 ((rd_T138 l0 x5_1).f2) (floatOfInt .f32 t141)) = true := c11
        clear c11
        obtain rfl := Option.some.inj H
        try go_wp2
        have n0_ := Aside0.mk (below_drew1 HB.out)
        clear HB
        have HB := n0_
        clear n0_
        have p138 : 0 ≤ (x5_1 : Int) := of_decide_eq_true (by first | (with_reducible assumption) | assumption)
        have q138 : x5_1 < (l0.length : Int) := of_decide_eq_true (by first | (with_reducible assumption) | assumption)
        obtain ⟨ad138, A138_1, c138_1, e138, hx138_0, hx138_1, hx138_2, hx138_3, hx138_4, hx138_5, hl138_1, hi138_1⟩ := at_T138 HR0.out x5_1 p138 q138
        have hw138_5 := hx138_5
        have hw138_4 := hx138_4
        have hw138_3 := hx138_3
        have hw138_2 := hx138_2
        have hw138_1 := hx138_1
        have hw138_0 := hx138_0
        cases e138
        replace hx138_0 := (HB.out.cell (World.block_lt_of_cell? w _ hx138_0)).trans hx138_0
        replace hx138_1 := (HB.out.cell (World.block_lt_of_cell? w _ hx138_1)).trans hx138_1
        replace hx138_2 := (HB.out.cell (World.block_lt_of_cell? w _ hx138_2)).trans hx138_2
        replace hx138_3 := (HB.out.cell (World.block_lt_of_cell? w _ hx138_3)).trans hx138_3
        replace hx138_4 := (HB.out.cell (World.block_lt_of_cell? w _ hx138_4)).trans hx138_4
        replace hx138_5 := (HB.out.cell (World.block_lt_of_cell? w _ hx138_5)).trans hx138_5
        have HR138_1 := Aside0.mk hi138_1
        have HC138_1 := Aside0.mk hl138_1
        clear hi138_1 hl138_1
        replace p138 := eq_true p138
        replace q138 := eq_true q138
        refine start_ (n := 8) (S := fun w' => w'.cell? (ad138.add ((x5_1).toNat * 6)) = some (.string ((rd_T138 l0 x5_1).f0)) ∧ w'.cell? ⟨(ad138.add ((x5_1).toNat * 6)).block, (ad138.add ((x5_1).toNat * 6)).off + 1, none⟩ = some (.slice A138_1 ((rd_T138 l0 x5_1).f1).length c138_1) ∧ w'.cell? ⟨(ad138.add ((x5_1).toNat * 6)).block, (ad138.add ((x5_1).toNat * 6)).off + 2, none⟩ = some (.float .f32 ((rd_T138 l0 x5_1).f2)) ∧ w'.cell? ⟨(ad138.add ((x5_1).toNat * 6)).block, (ad138.add ((x5_1).toNat * 6)).off + 3, none⟩ = some (.float .f32 ((rd_T138 l0 x5_1).f3)) ∧ w'.cell? ⟨(ad138.add ((x5_1).toNat * 6)).block, (ad138.add ((x5_1).toNat * 6)).off + 4, none⟩ = some (.float .f32 ((rd_T138 l0 x5_1).f4)) ∧ w'.cell? ⟨(ad138.add ((x5_1).toNat * 6)).block, (ad138.add ((x5_1).toNat * 6)).off + 5, none⟩ = some (.float .f32 ((rd_T138 l0 x5_1).f5))) (ds := []) laws_heldSoundS.z0 (by kernel_rfl) rfl rfl ⟨(cu_ HB.out hw138_0), (cu_ HB.out hw138_1), (cu_ HB.out hw138_2), (cu_ HB.out hw138_3), (cu_ HB.out hw138_4), (cu_ HB.out hw138_5)⟩ (fun hHeld => ?_); refine with_tabW laws_heldSoundS.tab4 laws_heldSoundS.bits4 (fun HT_ HW_ => ?_)
        generalize wr.drew = w12 at HB HR138_1 hx138_0 hx138_1 hx138_2 hx138_3 hx138_4 hx138_5 hHeld ⊢
        refine pure_ (i := 0) (N := some 12) (v := ?_) (a' := ?_) laws_heldSoundS.z1 rfl rfl (any_of HT_.out (by kernel_rfl)) (fun _ _ _ h => h) (Or.inl ⟨by rfl, ?_⟩) ?_ ?_
        pv_
        refine pure_ (i := 1) (N := some 13) (v := ?_) (a' := ?_) laws_heldSoundS.z2 rfl rfl (any_of HT_.out (by kernel_rfl)) (fun _ _ _ h => h) (Or.inl ⟨by rfl, ?_⟩) ?_ ?_
        pv_
        refine pure_ (i := 2) (N := some 14) (v := ?_) (a' := ?_) laws_heldSoundS.z3 rfl rfl (any_of HT_.out (by kernel_rfl)) (fun _ _ _ h => h) (Or.inl ⟨by rfl, ?_⟩) ?_ ?_
        pv_
        refine pure_ (i := 3) (N := some 15) (v := ?_) (a' := ?_) laws_heldSoundS.z4 rfl rfl (any_of HT_.out (by kernel_rfl)) (fun _ _ _ h => h) (Or.inl ⟨by rfl, ?_⟩) ?_ ?_
        pv_
        refine pure_ (i := 5) (N := some 17) (v := ?_) (a' := ?_) laws_heldSoundS.z5 rfl rfl (any_of HT_.out (by kernel_rfl)) (fun _ _ _ h => h) (Or.inl ⟨by rfl, ?_⟩) ?_ ?_
        pv_
        refine take_ (i := 4) (N := some 16) (v := ?_) (a' := ?_) laws_heldSoundS.z6 rfl rfl (take_ofW HT_.out HW_.out (by kernel_rfl)) (fun _ _ _ h => h) (Or.inl ⟨by rfl, ?_⟩) hHeld ?_ ?_
        rotate_left
        ·rintro w' ⟨s0, s1, s2, s3, s4, s5⟩
         go_simp
         with_reducible rfl
        rotate_left
        ·pw_
        refine one_ (i := 6) (N := some 18) laws_heldSoundS.z7 rfl rfl (one_of HT_.out (by kernel_rfl)) (by decide) (fun K hK => ?_)
        refine goes_ Try.func105 (by kernel_rfl) rfl #[.int .i64 x1_1] (by rfl) rfl rfl (by (try simp only [List.map_toArray, List.map_cons, List.map_nil]); first | done | rfl | (simp only [List.length_drop, List.length_take]; rfl)) ?_
        with_reducible refine (laws_markText.calls k1 x1_1 t139 _ A5.out).mono ?_
        rintro e w13 ⟨rfl, hb⟩
        refine ⟨_, rfl, ?_⟩
        have n0_ := Aside0.mk (below_step (by repeat (first | (with_reducible first | exact HB.out | apply below_alloc | apply pw_below_drewN | apply below_drew1) | exact HB.out)) hb)
        clear HB
        have HB := n0_
        clear n0_
        (try clear hb)
        (try clear hb2)
        (try clear hk)
        (try clear hi)
        refine hK.out _ _ ⟨(cu_ HB.out hw138_0), (cu_ HB.out hw138_1), (cu_ HB.out hw138_2), (cu_ HB.out hw138_3), (cu_ HB.out hw138_4), (cu_ HB.out hw138_5)⟩ (fun hHeld => ?_)
        clear hK K
        refine norm_ (a' := ?_) ?_ ?_
        rotate_left
        ·show Act.put _ (some 18) _ = _
         pw_
        refine pure_ (i := 7) (N := some 19) (v := ?_) (a' := ?_) laws_heldSoundS.z8 rfl rfl (any_of HT_.out (by kernel_rfl)) (fun _ _ _ h => h) (Or.inl ⟨by rfl, ?_⟩) ?_ ?_
        pv_
        refine done_ (done_of HT_.out (by kernel_rfl)) ?_
        have p140 : 0 ≤ (x5_1 : Int) := of_decide_eq_true (by first | (with_reducible assumption) | assumption)
        have q140 : x5_1 < (l0.length : Int) := of_decide_eq_true (by first | (with_reducible assumption) | assumption)
        obtain ⟨ad140, A140_1, c140_1, e140, hx140_0, hx140_1, hx140_2, hx140_3, hx140_4, hx140_5, hl140_1, hi140_1⟩ := at_T138 HR0.out x5_1 p140 q140
        obtain rfl : ad138 = ad140 := (by injection e140)
        try obtain ⟨rfl, rfl⟩ : A140_1 = A138_1 ∧ c140_1 = c138_1 := (by have e_ := Option.some.inj (hw138_1.symm.trans hx140_1); injection e_ with e1_ e2_ e3_; exact ⟨e1_.symm, e3_.symm⟩)
        replace hx140_0 := (HB.out.cell (World.block_lt_of_cell? w _ hx140_0)).trans hx140_0
        replace hx140_1 := (HB.out.cell (World.block_lt_of_cell? w _ hx140_1)).trans hx140_1
        replace hx140_2 := (HB.out.cell (World.block_lt_of_cell? w _ hx140_2)).trans hx140_2
        replace hx140_3 := (HB.out.cell (World.block_lt_of_cell? w _ hx140_3)).trans hx140_3
        replace hx140_4 := (HB.out.cell (World.block_lt_of_cell? w _ hx140_4)).trans hx140_4
        replace hx140_5 := (HB.out.cell (World.block_lt_of_cell? w _ hx140_5)).trans hx140_5
        have HR140_1 := Aside0.mk hi140_1
        have HC140_1 := Aside0.mk hl140_1
        clear hi140_1 hl140_1
        replace p140 := eq_true p140
        replace q140 := eq_true q140
        try go_wp2_with (first | ((with_reducible refine gate_callee (f := 27) rfl ?_); refine goesL_ (some 28) rfl rfl Try.func27 (by kernel_rfl) rfl #[.slice A140_1 ((rd_T138 l0 x5_1).f1).length c140_1, .int .i64 (wrap64 (x1_1 + 1))] rfl (by (try simp only [List.map_toArray, List.map_cons, List.map_nil]); first | done | rfl | (simp only [List.length_drop, List.length_take]; rfl)) ?_; (with_reducible refine (laws_heldFloat32S.calls k1 _ _ ((rd_T138 l0 x5_1).f1) (wrap64 (x1_1 + 1)) t141 _ ?side1 ?side2 A7.out).mono ?_); (case side1 => repeat (first | exact (Kd.C_below HR140_1.out HB.out) | (with_reducible refine Kd.C_alloc ?_ _) | (with_reducible refine Kd.C_drewN ?_ _) | (with_reducible refine Kd.C_drew ?_))); (case side2 => exact HC140_1.out); rintro e w' ⟨rfl, ⟨nd, rfl⟩⟩; refine ⟨_, rfl, ?_⟩; have p142 : 0 ≤ (x5_1 : Int) := of_decide_eq_true (by first | (with_reducible assumption) | assumption); have q142 : x5_1 < (l0.length : Int) := of_decide_eq_true (by first | (with_reducible assumption) | assumption); obtain ⟨ad142, A142_1, c142_1, e142, hx142_0, hx142_1, hx142_2, hx142_3, hx142_4, hx142_5, hl142_1, hi142_1⟩ := at_T138 HR0.out x5_1 p142 q142; obtain rfl : ad138 = ad142 := (by injection e142); replace hx142_0 := (HB.out.cell (World.block_lt_of_cell? w _ hx142_0)).trans hx142_0; replace hx142_1 := (HB.out.cell (World.block_lt_of_cell? w _ hx142_1)).trans hx142_1; replace hx142_2 := (HB.out.cell (World.block_lt_of_cell? w _ hx142_2)).trans hx142_2; replace hx142_3 := (HB.out.cell (World.block_lt_of_cell? w _ hx142_3)).trans hx142_3; replace hx142_4 := (HB.out.cell (World.block_lt_of_cell? w _ hx142_4)).trans hx142_4; replace hx142_5 := (HB.out.cell (World.block_lt_of_cell? w _ hx142_5)).trans hx142_5; have HR142_1 := Aside0.mk hi142_1; have HC142_1 := Aside0.mk hl142_1; clear hi142_1 hl142_1; replace p142 := eq_true p142; replace q142 := eq_true q142; have ea_ := Option.some.inj (hx140_1.symm.trans hx142_1); injection ea_ with ea_ en_ ec_; subst ea_; subst ec_; clear en_))
        go_ret
        exact ⟨by first | rfl | (simp [errW_none, errW_some] <;> rfl) | (simp [*, errW_none, errW_some] <;> rfl), by repeat (first | (with_reducible first | exact HB.out | apply below_alloc | apply pw_below_drewN | apply below_drew1) | exact HB.out)⟩
       ·rw [if_neg c11] at H
        have c11b0 : (fne .f32 ((rd_T138 l0 x5_1).f2) (floatOfInt .f32 t141)) = false := by simpa using c11
        clear c11
        by_cases c14 : (fne .f32 ((rd_T138 l0 x5_1).f3) (floatOfInt .f32 (wrap64 (t141 + 1)))) = true
        ·rw [if_pos c14] at H
         have c14b0 : (fne .f32 ((rd_T138 l0 x5_1).f3) (floatOfInt .f32 (wrap64 (t141 + 1)))) = true := c14
         clear c14
         obtain rfl := Option.some.inj H
         try go_wp2
         have n0_ := Aside0.mk (below_drew1 HB.out)
         clear HB
         have HB := n0_
         clear n0_
         have p138 : 0 ≤ (x5_1 : Int) := of_decide_eq_true (by first | (with_reducible assumption) | assumption)
         have q138 : x5_1 < (l0.length : Int) := of_decide_eq_true (by first | (with_reducible assumption) | assumption)
         obtain ⟨ad138, A138_1, c138_1, e138, hx138_0, hx138_1, hx138_2, hx138_3, hx138_4, hx138_5, hl138_1, hi138_1⟩ := at_T138 HR0.out x5_1 p138 q138
         have hw138_5 := hx138_5
         have hw138_4 := hx138_4
         have hw138_3 := hx138_3
         have hw138_2 := hx138_2
         have hw138_1 := hx138_1
         have hw138_0 := hx138_0
         cases e138
         replace hx138_0 := (HB.out.cell (World.block_lt_of_cell? w _ hx138_0)).trans hx138_0
         replace hx138_1 := (HB.out.cell (World.block_lt_of_cell? w _ hx138_1)).trans hx138_1
         replace hx138_2 := (HB.out.cell (World.block_lt_of_cell? w _ hx138_2)).trans hx138_2
         replace hx138_3 := (HB.out.cell (World.block_lt_of_cell? w _ hx138_3)).trans hx138_3
         replace hx138_4 := (HB.out.cell (World.block_lt_of_cell? w _ hx138_4)).trans hx138_4
         replace hx138_5 := (HB.out.cell (World.block_lt_of_cell? w _ hx138_5)).trans hx138_5
         have HR138_1 := Aside0.mk hi138_1
         have HC138_1 := Aside0.mk hl138_1
         clear hi138_1 hl138_1
         replace p138 := eq_true p138
         replace q138 := eq_true q138
         refine start_ (n := 8) (S := fun w' => w'.cell? (ad138.add ((x5_1).toNat * 6)) = some (.string ((rd_T138 l0 x5_1).f0)) ∧ w'.cell? ⟨(ad138.add ((x5_1).toNat * 6)).block, (ad138.add ((x5_1).toNat * 6)).off + 1, none⟩ = some (.slice A138_1 ((rd_T138 l0 x5_1).f1).length c138_1) ∧ w'.cell? ⟨(ad138.add ((x5_1).toNat * 6)).block, (ad138.add ((x5_1).toNat * 6)).off + 2, none⟩ = some (.float .f32 ((rd_T138 l0 x5_1).f2)) ∧ w'.cell? ⟨(ad138.add ((x5_1).toNat * 6)).block, (ad138.add ((x5_1).toNat * 6)).off + 3, none⟩ = some (.float .f32 ((rd_T138 l0 x5_1).f3)) ∧ w'.cell? ⟨(ad138.add ((x5_1).toNat * 6)).block, (ad138.add ((x5_1).toNat * 6)).off + 4, none⟩ = some (.float .f32 ((rd_T138 l0 x5_1).f4)) ∧ w'.cell? ⟨(ad138.add ((x5_1).toNat * 6)).block, (ad138.add ((x5_1).toNat * 6)).off + 5, none⟩ = some (.float .f32 ((rd_T138 l0 x5_1).f5))) (ds := []) laws_heldSoundS.z0 (by kernel_rfl) rfl rfl ⟨(cu_ HB.out hw138_0), (cu_ HB.out hw138_1), (cu_ HB.out hw138_2), (cu_ HB.out hw138_3), (cu_ HB.out hw138_4), (cu_ HB.out hw138_5)⟩ (fun hHeld => ?_); refine with_tabW laws_heldSoundS.tab4 laws_heldSoundS.bits4 (fun HT_ HW_ => ?_)
         generalize wr.drew = w15 at HB HR138_1 hx138_0 hx138_1 hx138_2 hx138_3 hx138_4 hx138_5 hHeld ⊢
         refine pure_ (i := 0) (N := some 12) (v := ?_) (a' := ?_) laws_heldSoundS.z1 rfl rfl (any_of HT_.out (by kernel_rfl)) (fun _ _ _ h => h) (Or.inl ⟨by rfl, ?_⟩) ?_ ?_
         pv_
         refine pure_ (i := 1) (N := some 13) (v := ?_) (a' := ?_) laws_heldSoundS.z2 rfl rfl (any_of HT_.out (by kernel_rfl)) (fun _ _ _ h => h) (Or.inl ⟨by rfl, ?_⟩) ?_ ?_
         pv_
         refine pure_ (i := 2) (N := some 14) (v := ?_) (a' := ?_) laws_heldSoundS.z3 rfl rfl (any_of HT_.out (by kernel_rfl)) (fun _ _ _ h => h) (Or.inl ⟨by rfl, ?_⟩) ?_ ?_
         pv_
         refine pure_ (i := 3) (N := some 15) (v := ?_) (a' := ?_) laws_heldSoundS.z4 rfl rfl (any_of HT_.out (by kernel_rfl)) (fun _ _ _ h => h) (Or.inl ⟨by rfl, ?_⟩) ?_ ?_
         pv_
         refine pure_ (i := 5) (N := some 17) (v := ?_) (a' := ?_) laws_heldSoundS.z5 rfl rfl (any_of HT_.out (by kernel_rfl)) (fun _ _ _ h => h) (Or.inl ⟨by rfl, ?_⟩) ?_ ?_
         pv_
         refine take_ (i := 4) (N := some 16) (v := ?_) (a' := ?_) laws_heldSoundS.z6 rfl rfl (take_ofW HT_.out HW_.out (by kernel_rfl)) (fun _ _ _ h => h) (Or.inl ⟨by rfl, ?_⟩) hHeld ?_ ?_
         rotate_left
         ·rintro w' ⟨s0, s1, s2, s3, s4, s5⟩
          go_simp
          with_reducible rfl
         rotate_left
         ·pw_
         refine one_ (i := 6) (N := some 18) laws_heldSoundS.z7 rfl rfl (one_of HT_.out (by kernel_rfl)) (by decide) (fun K hK => ?_)
         refine goes_ Try.func105 (by kernel_rfl) rfl #[.int .i64 x1_1] (by rfl) rfl rfl (by (try simp only [List.map_toArray, List.map_cons, List.map_nil]); first | done | rfl | (simp only [List.length_drop, List.length_take]; rfl)) ?_
         with_reducible refine (laws_markText.calls k1 x1_1 t139 _ A5.out).mono ?_
         rintro e w16 ⟨rfl, hb⟩
         refine ⟨_, rfl, ?_⟩
         have n0_ := Aside0.mk (below_step (by repeat (first | (with_reducible first | exact HB.out | apply below_alloc | apply pw_below_drewN | apply below_drew1) | exact HB.out)) hb)
         clear HB
         have HB := n0_
         clear n0_
         (try clear hb)
         (try clear hb2)
         (try clear hk)
         (try clear hi)
         refine hK.out _ _ ⟨(cu_ HB.out hw138_0), (cu_ HB.out hw138_1), (cu_ HB.out hw138_2), (cu_ HB.out hw138_3), (cu_ HB.out hw138_4), (cu_ HB.out hw138_5)⟩ (fun hHeld => ?_)
         clear hK K
         refine norm_ (a' := ?_) ?_ ?_
         rotate_left
         ·show Act.put _ (some 18) _ = _
          pw_
         refine pure_ (i := 7) (N := some 19) (v := ?_) (a' := ?_) laws_heldSoundS.z8 rfl rfl (any_of HT_.out (by kernel_rfl)) (fun _ _ _ h => h) (Or.inl ⟨by rfl, ?_⟩) ?_ ?_
         pv_
         refine done_ (done_of HT_.out (by kernel_rfl)) ?_
         have p140 : 0 ≤ (x5_1 : Int) := of_decide_eq_true (by first | (with_reducible assumption) | assumption)
         have q140 : x5_1 < (l0.length : Int) := of_decide_eq_true (by first | (with_reducible assumption) | assumption)
         obtain ⟨ad140, A140_1, c140_1, e140, hx140_0, hx140_1, hx140_2, hx140_3, hx140_4, hx140_5, hl140_1, hi140_1⟩ := at_T138 HR0.out x5_1 p140 q140
         obtain rfl : ad138 = ad140 := (by injection e140)
         try obtain ⟨rfl, rfl⟩ : A140_1 = A138_1 ∧ c140_1 = c138_1 := (by have e_ := Option.some.inj (hw138_1.symm.trans hx140_1); injection e_ with e1_ e2_ e3_; exact ⟨e1_.symm, e3_.symm⟩)
         replace hx140_0 := (HB.out.cell (World.block_lt_of_cell? w _ hx140_0)).trans hx140_0
         replace hx140_1 := (HB.out.cell (World.block_lt_of_cell? w _ hx140_1)).trans hx140_1
         replace hx140_2 := (HB.out.cell (World.block_lt_of_cell? w _ hx140_2)).trans hx140_2
         replace hx140_3 := (HB.out.cell (World.block_lt_of_cell? w _ hx140_3)).trans hx140_3
         replace hx140_4 := (HB.out.cell (World.block_lt_of_cell? w _ hx140_4)).trans hx140_4
         replace hx140_5 := (HB.out.cell (World.block_lt_of_cell? w _ hx140_5)).trans hx140_5
         have HR140_1 := Aside0.mk hi140_1
         have HC140_1 := Aside0.mk hl140_1
         clear hi140_1 hl140_1
         replace p140 := eq_true p140
         replace q140 := eq_true q140
         try go_wp2_with (first | ((with_reducible refine gate_callee (f := 27) rfl ?_); refine goesL_ (some 28) rfl rfl Try.func27 (by kernel_rfl) rfl #[.slice A140_1 ((rd_T138 l0 x5_1).f1).length c140_1, .int .i64 (wrap64 (x1_1 + 1))] rfl (by (try simp only [List.map_toArray, List.map_cons, List.map_nil]); first | done | rfl | (simp only [List.length_drop, List.length_take]; rfl)) ?_; (with_reducible refine (laws_heldFloat32S.calls k1 _ _ ((rd_T138 l0 x5_1).f1) (wrap64 (x1_1 + 1)) t141 _ ?side1 ?side2 A7.out).mono ?_); (case side1 => repeat (first | exact (Kd.C_below HR140_1.out HB.out) | (with_reducible refine Kd.C_alloc ?_ _) | (with_reducible refine Kd.C_drewN ?_ _) | (with_reducible refine Kd.C_drew ?_))); (case side2 => exact HC140_1.out); rintro e w' ⟨rfl, ⟨nd, rfl⟩⟩; refine ⟨_, rfl, ?_⟩; have p142 : 0 ≤ (x5_1 : Int) := of_decide_eq_true (by first | (with_reducible assumption) | assumption); have q142 : x5_1 < (l0.length : Int) := of_decide_eq_true (by first | (with_reducible assumption) | assumption); obtain ⟨ad142, A142_1, c142_1, e142, hx142_0, hx142_1, hx142_2, hx142_3, hx142_4, hx142_5, hl142_1, hi142_1⟩ := at_T138 HR0.out x5_1 p142 q142; obtain rfl : ad138 = ad142 := (by injection e142); replace hx142_0 := (HB.out.cell (World.block_lt_of_cell? w _ hx142_0)).trans hx142_0; replace hx142_1 := (HB.out.cell (World.block_lt_of_cell? w _ hx142_1)).trans hx142_1; replace hx142_2 := (HB.out.cell (World.block_lt_of_cell? w _ hx142_2)).trans hx142_2; replace hx142_3 := (HB.out.cell (World.block_lt_of_cell? w _ hx142_3)).trans hx142_3; replace hx142_4 := (HB.out.cell (World.block_lt_of_cell? w _ hx142_4)).trans hx142_4; replace hx142_5 := (HB.out.cell (World.block_lt_of_cell? w _ hx142_5)).trans hx142_5; have HR142_1 := Aside0.mk hi142_1; have HC142_1 := Aside0.mk hl142_1; clear hi142_1 hl142_1; replace p142 := eq_true p142; replace q142 := eq_true q142; have ea_ := Option.some.inj (hx140_1.symm.trans hx142_1); injection ea_ with ea_ en_ ec_; subst ea_; subst ec_; clear en_; have p143 : 0 ≤ (x5_1 : Int) := of_decide_eq_true (by first | (with_reducible assumption) | assumption); have q143 : x5_1 < (l0.length : Int) := of_decide_eq_true (by first | (with_reducible assumption) | assumption); obtain ⟨ad143, A143_1, c143_1, e143, hx143_0, hx143_1, hx143_2, hx143_3, hx143_4, hx143_5, hl143_1, hi143_1⟩ := at_T138 HR0.out x5_1 p143 q143; obtain rfl : ad138 = ad143 := (by injection e143); replace hx143_0 := (HB.out.cell (World.block_lt_of_cell? w _ hx143_0)).trans hx143_0; replace hx143_1 := (HB.out.cell (World.block_lt_of_cell? w _ hx143_1)).trans hx143_1; replace hx143_2 := (HB.out.cell (World.block_lt_of_cell? w _ hx143_2)).trans hx143_2; replace hx143_3 := (HB.out.cell (World.block_lt_of_cell? w _ hx143_3)).trans hx143_3; replace hx143_4 := (HB.out.cell (World.block_lt_of_cell? w _ hx143_4)).trans hx143_4; replace hx143_5 := (HB.out.cell (World.block_lt_of_cell? w _ hx143_5)).trans hx143_5; have HR143_1 := Aside0.mk hi143_1; have HC143_1 := Aside0.mk hl143_1; clear hi143_1 hl143_1; replace p143 := eq_true p143; replace q143 := eq_true q143; have ea_ := Option.some.inj (hx140_1.symm.trans hx143_1); injection ea_ with ea_ en_ ec_; subst ea_; subst ec_; clear en_))
         go_ret
         exact ⟨by first | rfl | (simp [errW_none, errW_some] <;> rfl) | (simp [*, errW_none, errW_some] <;> rfl), by repeat (first | (with_reducible first | exact HB.out | apply below_alloc | apply pw_below_drewN | apply below_drew1) | exact HB.out)⟩
        ·rw [if_neg c14] at H
         have c14b0 : (fne .f32 ((rd_T138 l0 x5_1).f3) (floatOfInt .f32 (wrap64 (t141 + 1)))) = false := by simpa using c14
         clear c14
         by_cases c17 : (fne .f32 ((rd_T138 l0 x5_1).f4) (floatOfInt .f32 (wrap64 ((wrap64 (t141 + 1)) + 1)))) = true
         ·rw [if_pos c17] at H
          have c17b0 : (fne .f32 ((rd_T138 l0 x5_1).f4) (floatOfInt .f32 (wrap64 ((wrap64 (t141 + 1)) + 1)))) = true := c17
          clear c17
          obtain rfl := Option.some.inj H
          try go_wp2
          have n0_ := Aside0.mk (below_drew1 HB.out)
          clear HB
          have HB := n0_
          clear n0_
          have p138 : 0 ≤ (x5_1 : Int) := of_decide_eq_true (by first | (with_reducible assumption) | assumption)
          have q138 : x5_1 < (l0.length : Int) := of_decide_eq_true (by first | (with_reducible assumption) | assumption)
          obtain ⟨ad138, A138_1, c138_1, e138, hx138_0, hx138_1, hx138_2, hx138_3, hx138_4, hx138_5, hl138_1, hi138_1⟩ := at_T138 HR0.out x5_1 p138 q138
          have hw138_5 := hx138_5
          have hw138_4 := hx138_4
          have hw138_3 := hx138_3
          have hw138_2 := hx138_2
          have hw138_1 := hx138_1
          have hw138_0 := hx138_0
          cases e138
          replace hx138_0 := (HB.out.cell (World.block_lt_of_cell? w _ hx138_0)).trans hx138_0
          replace hx138_1 := (HB.out.cell (World.block_lt_of_cell? w _ hx138_1)).trans hx138_1
          replace hx138_2 := (HB.out.cell (World.block_lt_of_cell? w _ hx138_2)).trans hx138_2
          replace hx138_3 := (HB.out.cell (World.block_lt_of_cell? w _ hx138_3)).trans hx138_3
          replace hx138_4 := (HB.out.cell (World.block_lt_of_cell? w _ hx138_4)).trans hx138_4
          replace hx138_5 := (HB.out.cell (World.block_lt_of_cell? w _ hx138_5)).trans hx138_5
          have HR138_1 := Aside0.mk hi138_1
          have HC138_1 := Aside0.mk hl138_1
          clear hi138_1 hl138_1
          replace p138 := eq_true p138
          replace q138 := eq_true q138
          refine start_ (n := 8) (S := fun w' => w'.cell? (ad138.add ((x5_1).toNat * 6)) = some (.string ((rd_T138 l0 x5_1).f0)) ∧ w'.cell? ⟨(ad138.add ((x5_1).toNat * 6)).block, (ad138.add ((x5_1).toNat * 6)).off + 1, none⟩ = some (.slice A138_1 ((rd_T138 l0 x5_1).f1).length c138_1) ∧ w'.cell? ⟨(ad138.add ((x5_1).toNat * 6)).block, (ad138.add ((x5_1).toNat * 6)).off + 2, none⟩ = some (.float .f32 ((rd_T138 l0 x5_1).f2)) ∧ w'.cell? ⟨(ad138.add ((x5_1).toNat * 6)).block, (ad138.add ((x5_1).toNat * 6)).off + 3, none⟩ = some (.float .f32 ((rd_T138 l0 x5_1).f3)) ∧ w'.cell? ⟨(ad138.add ((x5_1).toNat * 6)).block, (ad138.add ((x5_1).toNat * 6)).off + 4, none⟩ = some (.float .f32 ((rd_T138 l0 x5_1).f4)) ∧ w'.cell? ⟨(ad138.add ((x5_1).toNat * 6)).block, (ad138.add ((x5_1).toNat * 6)).off + 5, none⟩ = some (.float .f32 ((rd_T138 l0 x5_1).f5))) (ds := []) laws_heldSoundS.z0 (by kernel_rfl) rfl rfl ⟨(cu_ HB.out hw138_0), (cu_ HB.out hw138_1), (cu_ HB.out hw138_2), (cu_ HB.out hw138_3), (cu_ HB.out hw138_4), (cu_ HB.out hw138_5)⟩ (fun hHeld => ?_); refine with_tabW laws_heldSoundS.tab4 laws_heldSoundS.bits4 (fun HT_ HW_ => ?_)
          generalize wr.drew = w18 at HB HR138_1 hx138_0 hx138_1 hx138_2 hx138_3 hx138_4 hx138_5 hHeld ⊢
          refine pure_ (i := 0) (N := some 12) (v := ?_) (a' := ?_) laws_heldSoundS.z1 rfl rfl (any_of HT_.out (by kernel_rfl)) (fun _ _ _ h => h) (Or.inl ⟨by rfl, ?_⟩) ?_ ?_
          pv_
          refine pure_ (i := 1) (N := some 13) (v := ?_) (a' := ?_) laws_heldSoundS.z2 rfl rfl (any_of HT_.out (by kernel_rfl)) (fun _ _ _ h => h) (Or.inl ⟨by rfl, ?_⟩) ?_ ?_
          pv_
          refine pure_ (i := 2) (N := some 14) (v := ?_) (a' := ?_) laws_heldSoundS.z3 rfl rfl (any_of HT_.out (by kernel_rfl)) (fun _ _ _ h => h) (Or.inl ⟨by rfl, ?_⟩) ?_ ?_
          pv_
          refine pure_ (i := 3) (N := some 15) (v := ?_) (a' := ?_) laws_heldSoundS.z4 rfl rfl (any_of HT_.out (by kernel_rfl)) (fun _ _ _ h => h) (Or.inl ⟨by rfl, ?_⟩) ?_ ?_
          pv_
          refine pure_ (i := 5) (N := some 17) (v := ?_) (a' := ?_) laws_heldSoundS.z5 rfl rfl (any_of HT_.out (by kernel_rfl)) (fun _ _ _ h => h) (Or.inl ⟨by rfl, ?_⟩) ?_ ?_
          pv_
          refine take_ (i := 4) (N := some 16) (v := ?_) (a' := ?_) laws_heldSoundS.z6 rfl rfl (take_ofW HT_.out HW_.out (by kernel_rfl)) (fun _ _ _ h => h) (Or.inl ⟨by rfl, ?_⟩) hHeld ?_ ?_
          rotate_left
          ·rintro w' ⟨s0, s1, s2, s3, s4, s5⟩
           go_simp
           with_reducible rfl
          rotate_left
          ·pw_
          refine one_ (i := 6) (N := some 18) laws_heldSoundS.z7 rfl rfl (one_of HT_.out (by kernel_rfl)) (by decide) (fun K hK => ?_)
          refine goes_ Try.func105 (by kernel_rfl) rfl #[.int .i64 x1_1] (by rfl) rfl rfl (by (try simp only [List.map_toArray, List.map_cons, List.map_nil]); first | done | rfl | (simp only [List.length_drop, List.length_take]; rfl)) ?_
          with_reducible refine (laws_markText.calls k1 x1_1 t139 _ A5.out).mono ?_
          rintro e w19 ⟨rfl, hb⟩
          refine ⟨_, rfl, ?_⟩
          have n0_ := Aside0.mk (below_step (by repeat (first | (with_reducible first | exact HB.out | apply below_alloc | apply pw_below_drewN | apply below_drew1) | exact HB.out)) hb)
          clear HB
          have HB := n0_
          clear n0_
          (try clear hb)
          (try clear hb2)
          (try clear hk)
          (try clear hi)
          refine hK.out _ _ ⟨(cu_ HB.out hw138_0), (cu_ HB.out hw138_1), (cu_ HB.out hw138_2), (cu_ HB.out hw138_3), (cu_ HB.out hw138_4), (cu_ HB.out hw138_5)⟩ (fun hHeld => ?_)
          clear hK K
          refine norm_ (a' := ?_) ?_ ?_
          rotate_left
          ·show Act.put _ (some 18) _ = _
           pw_
          refine pure_ (i := 7) (N := some 19) (v := ?_) (a' := ?_) laws_heldSoundS.z8 rfl rfl (any_of HT_.out (by kernel_rfl)) (fun _ _ _ h => h) (Or.inl ⟨by rfl, ?_⟩) ?_ ?_
          pv_
          refine done_ (done_of HT_.out (by kernel_rfl)) ?_
          have p140 : 0 ≤ (x5_1 : Int) := of_decide_eq_true (by first | (with_reducible assumption) | assumption)
          have q140 : x5_1 < (l0.length : Int) := of_decide_eq_true (by first | (with_reducible assumption) | assumption)
          obtain ⟨ad140, A140_1, c140_1, e140, hx140_0, hx140_1, hx140_2, hx140_3, hx140_4, hx140_5, hl140_1, hi140_1⟩ := at_T138 HR0.out x5_1 p140 q140
          obtain rfl : ad138 = ad140 := (by injection e140)
          try obtain ⟨rfl, rfl⟩ : A140_1 = A138_1 ∧ c140_1 = c138_1 := (by have e_ := Option.some.inj (hw138_1.symm.trans hx140_1); injection e_ with e1_ e2_ e3_; exact ⟨e1_.symm, e3_.symm⟩)
          replace hx140_0 := (HB.out.cell (World.block_lt_of_cell? w _ hx140_0)).trans hx140_0
          replace hx140_1 := (HB.out.cell (World.block_lt_of_cell? w _ hx140_1)).trans hx140_1
          replace hx140_2 := (HB.out.cell (World.block_lt_of_cell? w _ hx140_2)).trans hx140_2
          replace hx140_3 := (HB.out.cell (World.block_lt_of_cell? w _ hx140_3)).trans hx140_3
          replace hx140_4 := (HB.out.cell (World.block_lt_of_cell? w _ hx140_4)).trans hx140_4
          replace hx140_5 := (HB.out.cell (World.block_lt_of_cell? w _ hx140_5)).trans hx140_5
          have HR140_1 := Aside0.mk hi140_1
          have HC140_1 := Aside0.mk hl140_1
          clear hi140_1 hl140_1
          replace p140 := eq_true p140
          replace q140 := eq_true q140
          try go_wp2_with (first | ((with_reducible refine gate_callee (f := 27) rfl ?_); refine goesL_ (some 28) rfl rfl Try.func27 (by kernel_rfl) rfl #[.slice A140_1 ((rd_T138 l0 x5_1).f1).length c140_1, .int .i64 (wrap64 (x1_1 + 1))] rfl (by (try simp only [List.map_toArray, List.map_cons, List.map_nil]); first | done | rfl | (simp only [List.length_drop, List.length_take]; rfl)) ?_; (with_reducible refine (laws_heldFloat32S.calls k1 _ _ ((rd_T138 l0 x5_1).f1) (wrap64 (x1_1 + 1)) t141 _ ?side1 ?side2 A7.out).mono ?_); (case side1 => repeat (first | exact (Kd.C_below HR140_1.out HB.out) | (with_reducible refine Kd.C_alloc ?_ _) | (with_reducible refine Kd.C_drewN ?_ _) | (with_reducible refine Kd.C_drew ?_))); (case side2 => exact HC140_1.out); rintro e w' ⟨rfl, ⟨nd, rfl⟩⟩; refine ⟨_, rfl, ?_⟩; have p142 : 0 ≤ (x5_1 : Int) := of_decide_eq_true (by first | (with_reducible assumption) | assumption); have q142 : x5_1 < (l0.length : Int) := of_decide_eq_true (by first | (with_reducible assumption) | assumption); obtain ⟨ad142, A142_1, c142_1, e142, hx142_0, hx142_1, hx142_2, hx142_3, hx142_4, hx142_5, hl142_1, hi142_1⟩ := at_T138 HR0.out x5_1 p142 q142; obtain rfl : ad138 = ad142 := (by injection e142); replace hx142_0 := (HB.out.cell (World.block_lt_of_cell? w _ hx142_0)).trans hx142_0; replace hx142_1 := (HB.out.cell (World.block_lt_of_cell? w _ hx142_1)).trans hx142_1; replace hx142_2 := (HB.out.cell (World.block_lt_of_cell? w _ hx142_2)).trans hx142_2; replace hx142_3 := (HB.out.cell (World.block_lt_of_cell? w _ hx142_3)).trans hx142_3; replace hx142_4 := (HB.out.cell (World.block_lt_of_cell? w _ hx142_4)).trans hx142_4; replace hx142_5 := (HB.out.cell (World.block_lt_of_cell? w _ hx142_5)).trans hx142_5; have HR142_1 := Aside0.mk hi142_1; have HC142_1 := Aside0.mk hl142_1; clear hi142_1 hl142_1; replace p142 := eq_true p142; replace q142 := eq_true q142; have ea_ := Option.some.inj (hx140_1.symm.trans hx142_1); injection ea_ with ea_ en_ ec_; subst ea_; subst ec_; clear en_; have p143 : 0 ≤ (x5_1 : Int) := of_decide_eq_true (by first | (with_reducible assumption) | assumption); have q143 : x5_1 < (l0.length : Int) := of_decide_eq_true (by first | (with_reducible assumption) | assumption); obtain ⟨ad143, A143_1, c143_1, e143, hx143_0, hx143_1, hx143_2, hx143_3, hx143_4, hx143_5, hl143_1, hi143_1⟩ := at_T138 HR0.out x5_1 p143 q143; obtain rfl : ad138 = ad143 := (by injection e143); replace hx143_0 := (HB.out.cell (World.block_lt_of_cell? w _ hx143_0)).trans hx143_0; replace hx143_1 := (HB.out.cell (World.block_lt_of_cell? w _ hx143_1)).trans hx143_1; replace hx143_2 := (HB.out.cell (World.block_lt_of_cell? w _ hx143_2)).trans hx143_2; replace hx143_3 := (HB.out.cell (World.block_lt_of_cell? w _ hx143_3)).trans hx143_3; replace hx143_4 := (HB.out.cell (World.block_lt_of_cell? w _ hx143_4)).trans hx143_4; replace hx143_5 := (HB.out.cell (World.block_lt_of_cell? w _ hx143_5)).trans hx143_5; have HR143_1 := Aside0.mk hi143_1; have HC143_1 := Aside0.mk hl143_1; clear hi143_1 hl143_1; replace p143 := eq_true p143; replace q143 := eq_true q143; have ea_ := Option.some.inj (hx140_1.symm.trans hx143_1); injection ea_ with ea_ en_ ec_; subst ea_; subst ec_; clear en_; have p144 : 0 ≤ (x5_1 : Int) := of_decide_eq_true (by first | (with_reducible assumption) | assumption); have q144 : x5_1 < (l0.length : Int) := of_decide_eq_true (by first | (with_reducible assumption) | assumption); obtain ⟨ad144, A144_1, c144_1, e144, hx144_0, hx144_1, hx144_2, hx144_3, hx144_4, hx144_5, hl144_1, hi144_1⟩ := at_T138 HR0.out x5_1 p144 q144; obtain rfl : ad138 = ad144 := (by injection e144); replace hx144_0 := (HB.out.cell (World.block_lt_of_cell? w _ hx144_0)).trans hx144_0; replace hx144_1 := (HB.out.cell (World.block_lt_of_cell? w _ hx144_1)).trans hx144_1; replace hx144_2 := (HB.out.cell (World.block_lt_of_cell? w _ hx144_2)).trans hx144_2; replace hx144_3 := (HB.out.cell (World.block_lt_of_cell? w _ hx144_3)).trans hx144_3; replace hx144_4 := (HB.out.cell (World.block_lt_of_cell? w _ hx144_4)).trans hx144_4; replace hx144_5 := (HB.out.cell (World.block_lt_of_cell? w _ hx144_5)).trans hx144_5; have HR144_1 := Aside0.mk hi144_1; have HC144_1 := Aside0.mk hl144_1; clear hi144_1 hl144_1; replace p144 := eq_true p144; replace q144 := eq_true q144; have ea_ := Option.some.inj (hx140_1.symm.trans hx144_1); injection ea_ with ea_ en_ ec_; subst ea_; subst ec_; clear en_))
          go_ret
          exact ⟨by first | rfl | (simp [errW_none, errW_some] <;> rfl) | (simp [*, errW_none, errW_some] <;> rfl), by repeat (first | (with_reducible first | exact HB.out | apply below_alloc | apply pw_below_drewN | apply below_drew1) | exact HB.out)⟩
         ·rw [if_neg c17] at H
          have c17b0 : (fne .f32 ((rd_T138 l0 x5_1).f4) (floatOfInt .f32 (wrap64 ((wrap64 (t141 + 1)) + 1)))) = false := by simpa using c17
          clear c17
          by_cases c20 : (fne .f32 ((rd_T138 l0 x5_1).f5) (floatOfInt .f32 (wrap64 ((wrap64 ((wrap64 (t141 + 1)) + 1)) + 1)))) = true
          ·rw [if_pos c20] at H
           have c20b0 : (fne .f32 ((rd_T138 l0 x5_1).f5) (floatOfInt .f32 (wrap64 ((wrap64 ((wrap64 (t141 + 1)) + 1)) + 1)))) = true := c20
           clear c20
           obtain rfl := Option.some.inj H
           try go_wp2
           have n0_ := Aside0.mk (below_drew1 HB.out)
           clear HB
           have HB := n0_
           clear n0_
           have p138 : 0 ≤ (x5_1 : Int) := of_decide_eq_true (by first | (with_reducible assumption) | assumption)
           have q138 : x5_1 < (l0.length : Int) := of_decide_eq_true (by first | (with_reducible assumption) | assumption)
           obtain ⟨ad138, A138_1, c138_1, e138, hx138_0, hx138_1, hx138_2, hx138_3, hx138_4, hx138_5, hl138_1, hi138_1⟩ := at_T138 HR0.out x5_1 p138 q138
           have hw138_5 := hx138_5
           have hw138_4 := hx138_4
           have hw138_3 := hx138_3
           have hw138_2 := hx138_2
           have hw138_1 := hx138_1
           have hw138_0 := hx138_0
           cases e138
           replace hx138_0 := (HB.out.cell (World.block_lt_of_cell? w _ hx138_0)).trans hx138_0
           replace hx138_1 := (HB.out.cell (World.block_lt_of_cell? w _ hx138_1)).trans hx138_1
           replace hx138_2 := (HB.out.cell (World.block_lt_of_cell? w _ hx138_2)).trans hx138_2
           replace hx138_3 := (HB.out.cell (World.block_lt_of_cell? w _ hx138_3)).trans hx138_3
           replace hx138_4 := (HB.out.cell (World.block_lt_of_cell? w _ hx138_4)).trans hx138_4
           replace hx138_5 := (HB.out.cell (World.block_lt_of_cell? w _ hx138_5)).trans hx138_5
           have HR138_1 := Aside0.mk hi138_1
           have HC138_1 := Aside0.mk hl138_1
           clear hi138_1 hl138_1
           replace p138 := eq_true p138
           replace q138 := eq_true q138
           refine start_ (n := 8) (S := fun w' => w'.cell? (ad138.add ((x5_1).toNat * 6)) = some (.string ((rd_T138 l0 x5_1).f0)) ∧ w'.cell? ⟨(ad138.add ((x5_1).toNat * 6)).block, (ad138.add ((x5_1).toNat * 6)).off + 1, none⟩ = some (.slice A138_1 ((rd_T138 l0 x5_1).f1).length c138_1) ∧ w'.cell? ⟨(ad138.add ((x5_1).toNat * 6)).block, (ad138.add ((x5_1).toNat * 6)).off + 2, none⟩ = some (.float .f32 ((rd_T138 l0 x5_1).f2)) ∧ w'.cell? ⟨(ad138.add ((x5_1).toNat * 6)).block, (ad138.add ((x5_1).toNat * 6)).off + 3, none⟩ = some (.float .f32 ((rd_T138 l0 x5_1).f3)) ∧ w'.cell? ⟨(ad138.add ((x5_1).toNat * 6)).block, (ad138.add ((x5_1).toNat * 6)).off + 4, none⟩ = some (.float .f32 ((rd_T138 l0 x5_1).f4)) ∧ w'.cell? ⟨(ad138.add ((x5_1).toNat * 6)).block, (ad138.add ((x5_1).toNat * 6)).off + 5, none⟩ = some (.float .f32 ((rd_T138 l0 x5_1).f5))) (ds := []) laws_heldSoundS.z0 (by kernel_rfl) rfl rfl ⟨(cu_ HB.out hw138_0), (cu_ HB.out hw138_1), (cu_ HB.out hw138_2), (cu_ HB.out hw138_3), (cu_ HB.out hw138_4), (cu_ HB.out hw138_5)⟩ (fun hHeld => ?_); refine with_tabW laws_heldSoundS.tab4 laws_heldSoundS.bits4 (fun HT_ HW_ => ?_)
           generalize wr.drew = w21 at HB HR138_1 hx138_0 hx138_1 hx138_2 hx138_3 hx138_4 hx138_5 hHeld ⊢
           refine pure_ (i := 0) (N := some 12) (v := ?_) (a' := ?_) laws_heldSoundS.z1 rfl rfl (any_of HT_.out (by kernel_rfl)) (fun _ _ _ h => h) (Or.inl ⟨by rfl, ?_⟩) ?_ ?_
           pv_
           refine pure_ (i := 1) (N := some 13) (v := ?_) (a' := ?_) laws_heldSoundS.z2 rfl rfl (any_of HT_.out (by kernel_rfl)) (fun _ _ _ h => h) (Or.inl ⟨by rfl, ?_⟩) ?_ ?_
           pv_
           refine pure_ (i := 2) (N := some 14) (v := ?_) (a' := ?_) laws_heldSoundS.z3 rfl rfl (any_of HT_.out (by kernel_rfl)) (fun _ _ _ h => h) (Or.inl ⟨by rfl, ?_⟩) ?_ ?_
           pv_
           refine pure_ (i := 3) (N := some 15) (v := ?_) (a' := ?_) laws_heldSoundS.z4 rfl rfl (any_of HT_.out (by kernel_rfl)) (fun _ _ _ h => h) (Or.inl ⟨by rfl, ?_⟩) ?_ ?_
           pv_
           refine pure_ (i := 5) (N := some 17) (v := ?_) (a' := ?_) laws_heldSoundS.z5 rfl rfl (any_of HT_.out (by kernel_rfl)) (fun _ _ _ h => h) (Or.inl ⟨by rfl, ?_⟩) ?_ ?_
           pv_
           refine take_ (i := 4) (N := some 16) (v := ?_) (a' := ?_) laws_heldSoundS.z6 rfl rfl (take_ofW HT_.out HW_.out (by kernel_rfl)) (fun _ _ _ h => h) (Or.inl ⟨by rfl, ?_⟩) hHeld ?_ ?_
           rotate_left
           ·rintro w' ⟨s0, s1, s2, s3, s4, s5⟩
            go_simp
            with_reducible rfl
           rotate_left
           ·pw_
           refine one_ (i := 6) (N := some 18) laws_heldSoundS.z7 rfl rfl (one_of HT_.out (by kernel_rfl)) (by decide) (fun K hK => ?_)
           refine goes_ Try.func105 (by kernel_rfl) rfl #[.int .i64 x1_1] (by rfl) rfl rfl (by (try simp only [List.map_toArray, List.map_cons, List.map_nil]); first | done | rfl | (simp only [List.length_drop, List.length_take]; rfl)) ?_
           with_reducible refine (laws_markText.calls k1 x1_1 t139 _ A5.out).mono ?_
           rintro e w22 ⟨rfl, hb⟩
           refine ⟨_, rfl, ?_⟩
           have n0_ := Aside0.mk (below_step (by repeat (first | (with_reducible first | exact HB.out | apply below_alloc | apply pw_below_drewN | apply below_drew1) | exact HB.out)) hb)
           clear HB
           have HB := n0_
           clear n0_
           (try clear hb)
           (try clear hb2)
           (try clear hk)
           (try clear hi)
           refine hK.out _ _ ⟨(cu_ HB.out hw138_0), (cu_ HB.out hw138_1), (cu_ HB.out hw138_2), (cu_ HB.out hw138_3), (cu_ HB.out hw138_4), (cu_ HB.out hw138_5)⟩ (fun hHeld => ?_)
           clear hK K
           refine norm_ (a' := ?_) ?_ ?_
           rotate_left
           ·show Act.put _ (some 18) _ = _
            pw_
           refine pure_ (i := 7) (N := some 19) (v := ?_) (a' := ?_) laws_heldSoundS.z8 rfl rfl (any_of HT_.out (by kernel_rfl)) (fun _ _ _ h => h) (Or.inl ⟨by rfl, ?_⟩) ?_ ?_
           pv_
           refine done_ (done_of HT_.out (by kernel_rfl)) ?_
           have p140 : 0 ≤ (x5_1 : Int) := of_decide_eq_true (by first | (with_reducible assumption) | assumption)
           have q140 : x5_1 < (l0.length : Int) := of_decide_eq_true (by first | (with_reducible assumption) | assumption)
           obtain ⟨ad140, A140_1, c140_1, e140, hx140_0, hx140_1, hx140_2, hx140_3, hx140_4, hx140_5, hl140_1, hi140_1⟩ := at_T138 HR0.out x5_1 p140 q140
           obtain rfl : ad138 = ad140 := (by injection e140)
           try obtain ⟨rfl, rfl⟩ : A140_1 = A138_1 ∧ c140_1 = c138_1 := (by have e_ := Option.some.inj (hw138_1.symm.trans hx140_1); injection e_ with e1_ e2_ e3_; exact ⟨e1_.symm, e3_.symm⟩)
           replace hx140_0 := (HB.out.cell (World.block_lt_of_cell? w _ hx140_0)).trans hx140_0
           replace hx140_1 := (HB.out.cell (World.block_lt_of_cell? w _ hx140_1)).trans hx140_1
           replace hx140_2 := (HB.out.cell (World.block_lt_of_cell? w _ hx140_2)).trans hx140_2
           replace hx140_3 := (HB.out.cell (World.block_lt_of_cell? w _ hx140_3)).trans hx140_3
           replace hx140_4 := (HB.out.cell (World.block_lt_of_cell? w _ hx140_4)).trans hx140_4
           replace hx140_5 := (HB.out.cell (World.block_lt_of_cell? w _ hx140_5)).trans hx140_5
           have HR140_1 := Aside0.mk hi140_1
           have HC140_1 := Aside0.mk hl140_1
           clear hi140_1 hl140_1
           replace p140 := eq_true p140
           replace q140 := eq_true q140
           try go_wp2_with (first | ((with_reducible refine gate_callee (f := 27) rfl ?_); refine goesL_ (some 28) rfl rfl Try.func27 (by kernel_rfl) rfl #[.slice A140_1 ((rd_T138 l0 x5_1).f1).length c140_1, .int .i64 (wrap64 (x1_1 + 1))] rfl (by (try simp only [List.map_toArray, List.map_cons, List.map_nil]); first | done | rfl | (simp only [List.length_drop, List.length_take]; rfl)) ?_; (with_reducible refine (laws_heldFloat32S.calls k1 _ _ ((rd_T138 l0 x5_1).f1) (wrap64 (x1_1 + 1)) t141 _ ?side1 ?side2 A7.out).mono ?_); (case side1 => repeat (first | exact (Kd.C_below HR140_1.out HB.out) | (with_reducible refine Kd.C_alloc ?_ _) | (with_reducible refine Kd.C_drewN ?_ _) | (with_reducible refine Kd.C_drew ?_))); (case side2 => exact HC140_1.out); rintro e w' ⟨rfl, ⟨nd, rfl⟩⟩; refine ⟨_, rfl, ?_⟩; have p142 : 0 ≤ (x5_1 : Int) := of_decide_eq_true (by first | (with_reducible assumption) | assumption); have q142 : x5_1 < (l0.length : Int) := of_decide_eq_true (by first | (with_reducible assumption) | assumption); obtain ⟨ad142, A142_1, c142_1, e142, hx142_0, hx142_1, hx142_2, hx142_3, hx142_4, hx142_5, hl142_1, hi142_1⟩ := at_T138 HR0.out x5_1 p142 q142; obtain rfl : ad138 = ad142 := (by injection e142); replace hx142_0 := (HB.out.cell (World.block_lt_of_cell? w _ hx142_0)).trans hx142_0; replace hx142_1 := (HB.out.cell (World.block_lt_of_cell? w _ hx142_1)).trans hx142_1; replace hx142_2 := (HB.out.cell (World.block_lt_of_cell? w _ hx142_2)).trans hx142_2; replace hx142_3 := (HB.out.cell (World.block_lt_of_cell? w _ hx142_3)).trans hx142_3; replace hx142_4 := (HB.out.cell (World.block_lt_of_cell? w _ hx142_4)).trans hx142_4; replace hx142_5 := (HB.out.cell (World.block_lt_of_cell? w _ hx142_5)).trans hx142_5; have HR142_1 := Aside0.mk hi142_1; have HC142_1 := Aside0.mk hl142_1; clear hi142_1 hl142_1; replace p142 := eq_true p142; replace q142 := eq_true q142; have ea_ := Option.some.inj (hx140_1.symm.trans hx142_1); injection ea_ with ea_ en_ ec_; subst ea_; subst ec_; clear en_; have p143 : 0 ≤ (x5_1 : Int) := of_decide_eq_true (by first | (with_reducible assumption) | assumption); have q143 : x5_1 < (l0.length : Int) := of_decide_eq_true (by first | (with_reducible assumption) | assumption); obtain ⟨ad143, A143_1, c143_1, e143, hx143_0, hx143_1, hx143_2, hx143_3, hx143_4, hx143_5, hl143_1, hi143_1⟩ := at_T138 HR0.out x5_1 p143 q143; obtain rfl : ad138 = ad143 := (by injection e143); replace hx143_0 := (HB.out.cell (World.block_lt_of_cell? w _ hx143_0)).trans hx143_0; replace hx143_1 := (HB.out.cell (World.block_lt_of_cell? w _ hx143_1)).trans hx143_1; replace hx143_2 := (HB.out.cell (World.block_lt_of_cell? w _ hx143_2)).trans hx143_2; replace hx143_3 := (HB.out.cell (World.block_lt_of_cell? w _ hx143_3)).trans hx143_3; replace hx143_4 := (HB.out.cell (World.block_lt_of_cell? w _ hx143_4)).trans hx143_4; replace hx143_5 := (HB.out.cell (World.block_lt_of_cell? w _ hx143_5)).trans hx143_5; have HR143_1 := Aside0.mk hi143_1; have HC143_1 := Aside0.mk hl143_1; clear hi143_1 hl143_1; replace p143 := eq_true p143; replace q143 := eq_true q143; have ea_ := Option.some.inj (hx140_1.symm.trans hx143_1); injection ea_ with ea_ en_ ec_; subst ea_; subst ec_; clear en_; have p144 : 0 ≤ (x5_1 : Int) := of_decide_eq_true (by first | (with_reducible assumption) | assumption); have q144 : x5_1 < (l0.length : Int) := of_decide_eq_true (by first | (with_reducible assumption) | assumption); obtain ⟨ad144, A144_1, c144_1, e144, hx144_0, hx144_1, hx144_2, hx144_3, hx144_4, hx144_5, hl144_1, hi144_1⟩ := at_T138 HR0.out x5_1 p144 q144; obtain rfl : ad138 = ad144 := (by injection e144); replace hx144_0 := (HB.out.cell (World.block_lt_of_cell? w _ hx144_0)).trans hx144_0; replace hx144_1 := (HB.out.cell (World.block_lt_of_cell? w _ hx144_1)).trans hx144_1; replace hx144_2 := (HB.out.cell (World.block_lt_of_cell? w _ hx144_2)).trans hx144_2; replace hx144_3 := (HB.out.cell (World.block_lt_of_cell? w _ hx144_3)).trans hx144_3; replace hx144_4 := (HB.out.cell (World.block_lt_of_cell? w _ hx144_4)).trans hx144_4; replace hx144_5 := (HB.out.cell (World.block_lt_of_cell? w _ hx144_5)).trans hx144_5; have HR144_1 := Aside0.mk hi144_1; have HC144_1 := Aside0.mk hl144_1; clear hi144_1 hl144_1; replace p144 := eq_true p144; replace q144 := eq_true q144; have ea_ := Option.some.inj (hx140_1.symm.trans hx144_1); injection ea_ with ea_ en_ ec_; subst ea_; subst ec_; clear en_; have p145 : 0 ≤ (x5_1 : Int) := of_decide_eq_true (by first | (with_reducible assumption) | assumption); have q145 : x5_1 < (l0.length : Int) := of_decide_eq_true (by first | (with_reducible assumption) | assumption); obtain ⟨ad145, A145_1, c145_1, e145, hx145_0, hx145_1, hx145_2, hx145_3, hx145_4, hx145_5, hl145_1, hi145_1⟩ := at_T138 HR0.out x5_1 p145 q145; obtain rfl : ad138 = ad145 := (by injection e145); replace hx145_0 := (HB.out.cell (World.block_lt_of_cell? w _ hx145_0)).trans hx145_0; replace hx145_1 := (HB.out.cell (World.block_lt_of_cell? w _ hx145_1)).trans hx145_1; replace hx145_2 := (HB.out.cell (World.block_lt_of_cell? w _ hx145_2)).trans hx145_2; replace hx145_3 := (HB.out.cell (World.block_lt_of_cell? w _ hx145_3)).trans hx145_3; replace hx145_4 := (HB.out.cell (World.block_lt_of_cell? w _ hx145_4)).trans hx145_4; replace hx145_5 := (HB.out.cell (World.block_lt_of_cell? w _ hx145_5)).trans hx145_5; have HR145_1 := Aside0.mk hi145_1; have HC145_1 := Aside0.mk hl145_1; clear hi145_1 hl145_1; replace p145 := eq_true p145; replace q145 := eq_true q145; have ea_ := Option.some.inj (hx140_1.symm.trans hx145_1); injection ea_ with ea_ en_ ec_; subst ea_; subst ec_; clear en_))
           go_ret
           exact ⟨by first | rfl | (simp [errW_none, errW_some] <;> rfl) | (simp [*, errW_none, errW_some] <;> rfl), by repeat (first | (with_reducible first | exact HB.out | apply below_alloc | apply pw_below_drewN | apply below_drew1) | exact HB.out)⟩
          ·rw [if_neg c20] at H
           have c20b0 : (fne .f32 ((rd_T138 l0 x5_1).f5) (floatOfInt .f32 (wrap64 ((wrap64 ((wrap64 (t141 + 1)) + 1)) + 1)))) = false := by simpa using c20
           clear c20
           have H' := Aside0.mk H
           clear H
           try go_wp2
           have n0_ := Aside0.mk (below_drew1 HB.out)
           clear HB
           have HB := n0_
           clear n0_
           have p138 : 0 ≤ (x5_1 : Int) := of_decide_eq_true (by first | (with_reducible assumption) | assumption)
           have q138 : x5_1 < (l0.length : Int) := of_decide_eq_true (by first | (with_reducible assumption) | assumption)
           obtain ⟨ad138, A138_1, c138_1, e138, hx138_0, hx138_1, hx138_2, hx138_3, hx138_4, hx138_5, hl138_1, hi138_1⟩ := at_T138 HR0.out x5_1 p138 q138
           have hw138_5 := hx138_5
           have hw138_4 := hx138_4
           have hw138_3 := hx138_3
           have hw138_2 := hx138_2
           have hw138_1 := hx138_1
           have hw138_0 := hx138_0
           cases e138
           replace hx138_0 := (HB.out.cell (World.block_lt_of_cell? w _ hx138_0)).trans hx138_0
           replace hx138_1 := (HB.out.cell (World.block_lt_of_cell? w _ hx138_1)).trans hx138_1
           replace hx138_2 := (HB.out.cell (World.block_lt_of_cell? w _ hx138_2)).trans hx138_2
           replace hx138_3 := (HB.out.cell (World.block_lt_of_cell? w _ hx138_3)).trans hx138_3
           replace hx138_4 := (HB.out.cell (World.block_lt_of_cell? w _ hx138_4)).trans hx138_4
           replace hx138_5 := (HB.out.cell (World.block_lt_of_cell? w _ hx138_5)).trans hx138_5
           have HR138_1 := Aside0.mk hi138_1
           have HC138_1 := Aside0.mk hl138_1
           clear hi138_1 hl138_1
           replace p138 := eq_true p138
           replace q138 := eq_true q138
           refine start_ (n := 8) (S := fun w' => w'.cell? (ad138.add ((x5_1).toNat * 6)) = some (.string ((rd_T138 l0 x5_1).f0)) ∧ w'.cell? ⟨(ad138.add ((x5_1).toNat * 6)).block, (ad138.add ((x5_1).toNat * 6)).off + 1, none⟩ = some (.slice A138_1 ((rd_T138 l0 x5_1).f1).length c138_1) ∧ w'.cell? ⟨(ad138.add ((x5_1).toNat * 6)).block, (ad138.add ((x5_1).toNat * 6)).off + 2, none⟩ = some (.float .f32 ((rd_T138 l0 x5_1).f2)) ∧ w'.cell? ⟨(ad138.add ((x5_1).toNat * 6)).block, (ad138.add ((x5_1).toNat * 6)).off + 3, none⟩ = some (.float .f32 ((rd_T138 l0 x5_1).f3)) ∧ w'.cell? ⟨(ad138.add ((x5_1).toNat * 6)).block, (ad138.add ((x5_1).toNat * 6)).off + 4, none⟩ = some (.float .f32 ((rd_T138 l0 x5_1).f4)) ∧ w'.cell? ⟨(ad138.add ((x5_1).toNat * 6)).block, (ad138.add ((x5_1).toNat * 6)).off + 5, none⟩ = some (.float .f32 ((rd_T138 l0 x5_1).f5))) (ds := []) laws_heldSoundS.z0 (by kernel_rfl) rfl rfl ⟨(cu_ HB.out hw138_0), (cu_ HB.out hw138_1), (cu_ HB.out hw138_2), (cu_ HB.out hw138_3), (cu_ HB.out hw138_4), (cu_ HB.out hw138_5)⟩ (fun hHeld => ?_); refine with_tabW laws_heldSoundS.tab4 laws_heldSoundS.bits4 (fun HT_ HW_ => ?_)
           generalize wr.drew = w23 at HB HR138_1 hx138_0 hx138_1 hx138_2 hx138_3 hx138_4 hx138_5 hHeld ⊢
           refine pure_ (i := 0) (N := some 12) (v := ?_) (a' := ?_) laws_heldSoundS.z1 rfl rfl (any_of HT_.out (by kernel_rfl)) (fun _ _ _ h => h) (Or.inl ⟨by rfl, ?_⟩) ?_ ?_
           pv_
           refine pure_ (i := 1) (N := some 13) (v := ?_) (a' := ?_) laws_heldSoundS.z2 rfl rfl (any_of HT_.out (by kernel_rfl)) (fun _ _ _ h => h) (Or.inl ⟨by rfl, ?_⟩) ?_ ?_
           pv_
           refine pure_ (i := 2) (N := some 14) (v := ?_) (a' := ?_) laws_heldSoundS.z3 rfl rfl (any_of HT_.out (by kernel_rfl)) (fun _ _ _ h => h) (Or.inl ⟨by rfl, ?_⟩) ?_ ?_
           pv_
           refine pure_ (i := 3) (N := some 15) (v := ?_) (a' := ?_) laws_heldSoundS.z4 rfl rfl (any_of HT_.out (by kernel_rfl)) (fun _ _ _ h => h) (Or.inl ⟨by rfl, ?_⟩) ?_ ?_
           pv_
           refine pure_ (i := 5) (N := some 17) (v := ?_) (a' := ?_) laws_heldSoundS.z5 rfl rfl (any_of HT_.out (by kernel_rfl)) (fun _ _ _ h => h) (Or.inl ⟨by rfl, ?_⟩) ?_ ?_
           pv_
           refine take_ (i := 4) (N := some 16) (v := ?_) (a' := ?_) laws_heldSoundS.z6 rfl rfl (take_ofW HT_.out HW_.out (by kernel_rfl)) (fun _ _ _ h => h) (Or.inl ⟨by rfl, ?_⟩) hHeld ?_ ?_
           rotate_left
           ·rintro w' ⟨s0, s1, s2, s3, s4, s5⟩
            go_simp
            with_reducible rfl
           rotate_left
           ·pw_
           refine one_ (i := 6) (N := some 18) laws_heldSoundS.z7 rfl rfl (one_of HT_.out (by kernel_rfl)) (by decide) (fun K hK => ?_)
           refine goes_ Try.func105 (by kernel_rfl) rfl #[.int .i64 x1_1] (by rfl) rfl rfl (by (try simp only [List.map_toArray, List.map_cons, List.map_nil]); first | done | rfl | (simp only [List.length_drop, List.length_take]; rfl)) ?_
           with_reducible refine (laws_markText.calls k1 x1_1 t139 _ A5.out).mono ?_
           rintro e w24 ⟨rfl, hb⟩
           refine ⟨_, rfl, ?_⟩
           have n0_ := Aside0.mk (below_step (by repeat (first | (with_reducible first | exact HB.out | apply below_alloc | apply pw_below_drewN | apply below_drew1) | exact HB.out)) hb)
           clear HB
           have HB := n0_
           clear n0_
           (try clear hb)
           (try clear hb2)
           (try clear hk)
           (try clear hi)
           refine hK.out _ _ ⟨(cu_ HB.out hw138_0), (cu_ HB.out hw138_1), (cu_ HB.out hw138_2), (cu_ HB.out hw138_3), (cu_ HB.out hw138_4), (cu_ HB.out hw138_5)⟩ (fun hHeld => ?_)
           clear hK K
           refine norm_ (a' := ?_) ?_ ?_
           rotate_left
           ·show Act.put _ (some 18) _ = _
            pw_
           refine pure_ (i := 7) (N := some 19) (v := ?_) (a' := ?_) laws_heldSoundS.z8 rfl rfl (any_of HT_.out (by kernel_rfl)) (fun _ _ _ h => h) (Or.inl ⟨by rfl, ?_⟩) ?_ ?_
           pv_
           refine done_ (done_of HT_.out (by kernel_rfl)) ?_
           have p140 : 0 ≤ (x5_1 : Int) := of_decide_eq_true (by first | (with_reducible assumption) | assumption)
           have q140 : x5_1 < (l0.length : Int) := of_decide_eq_true (by first | (with_reducible assumption) | assumption)
           obtain ⟨ad140, A140_1, c140_1, e140, hx140_0, hx140_1, hx140_2, hx140_3, hx140_4, hx140_5, hl140_1, hi140_1⟩ := at_T138 HR0.out x5_1 p140 q140
           obtain rfl : ad138 = ad140 := (by injection e140)
           try obtain ⟨rfl, rfl⟩ : A140_1 = A138_1 ∧ c140_1 = c138_1 := (by have e_ := Option.some.inj (hw138_1.symm.trans hx140_1); injection e_ with e1_ e2_ e3_; exact ⟨e1_.symm, e3_.symm⟩)
           replace hx140_0 := (HB.out.cell (World.block_lt_of_cell? w _ hx140_0)).trans hx140_0
           replace hx140_1 := (HB.out.cell (World.block_lt_of_cell? w _ hx140_1)).trans hx140_1
           replace hx140_2 := (HB.out.cell (World.block_lt_of_cell? w _ hx140_2)).trans hx140_2
           replace hx140_3 := (HB.out.cell (World.block_lt_of_cell? w _ hx140_3)).trans hx140_3
           replace hx140_4 := (HB.out.cell (World.block_lt_of_cell? w _ hx140_4)).trans hx140_4
           replace hx140_5 := (HB.out.cell (World.block_lt_of_cell? w _ hx140_5)).trans hx140_5
           have HR140_1 := Aside0.mk hi140_1
           have HC140_1 := Aside0.mk hl140_1
           clear hi140_1 hl140_1
           replace p140 := eq_true p140
           replace q140 := eq_true q140
           try go_wp2_with (first | ((with_reducible refine gate_callee (f := 27) rfl ?_); refine goesL_ (some 28) rfl rfl Try.func27 (by kernel_rfl) rfl #[.slice A140_1 ((rd_T138 l0 x5_1).f1).length c140_1, .int .i64 (wrap64 (x1_1 + 1))] rfl (by (try simp only [List.map_toArray, List.map_cons, List.map_nil]); first | done | rfl | (simp only [List.length_drop, List.length_take]; rfl)) ?_; (with_reducible refine (laws_heldFloat32S.calls k1 _ _ ((rd_T138 l0 x5_1).f1) (wrap64 (x1_1 + 1)) t141 _ ?side1 ?side2 A7.out).mono ?_); (case side1 => repeat (first | exact (Kd.C_below HR140_1.out HB.out) | (with_reducible refine Kd.C_alloc ?_ _) | (with_reducible refine Kd.C_drewN ?_ _) | (with_reducible refine Kd.C_drew ?_))); (case side2 => exact HC140_1.out); rintro e w' ⟨rfl, ⟨nd, rfl⟩⟩; refine ⟨_, rfl, ?_⟩; have p142 : 0 ≤ (x5_1 : Int) := of_decide_eq_true (by first | (with_reducible assumption) | assumption); have q142 : x5_1 < (l0.length : Int) := of_decide_eq_true (by first | (with_reducible assumption) | assumption); obtain ⟨ad142, A142_1, c142_1, e142, hx142_0, hx142_1, hx142_2, hx142_3, hx142_4, hx142_5, hl142_1, hi142_1⟩ := at_T138 HR0.out x5_1 p142 q142; obtain rfl : ad138 = ad142 := (by injection e142); replace hx142_0 := (HB.out.cell (World.block_lt_of_cell? w _ hx142_0)).trans hx142_0; replace hx142_1 := (HB.out.cell (World.block_lt_of_cell? w _ hx142_1)).trans hx142_1; replace hx142_2 := (HB.out.cell (World.block_lt_of_cell? w _ hx142_2)).trans hx142_2; replace hx142_3 := (HB.out.cell (World.block_lt_of_cell? w _ hx142_3)).trans hx142_3; replace hx142_4 := (HB.out.cell (World.block_lt_of_cell? w _ hx142_4)).trans hx142_4; replace hx142_5 := (HB.out.cell (World.block_lt_of_cell? w _ hx142_5)).trans hx142_5; have HR142_1 := Aside0.mk hi142_1; have HC142_1 := Aside0.mk hl142_1; clear hi142_1 hl142_1; replace p142 := eq_true p142; replace q142 := eq_true q142; have ea_ := Option.some.inj (hx140_1.symm.trans hx142_1); injection ea_ with ea_ en_ ec_; subst ea_; subst ec_; clear en_; have p143 : 0 ≤ (x5_1 : Int) := of_decide_eq_true (by first | (with_reducible assumption) | assumption); have q143 : x5_1 < (l0.length : Int) := of_decide_eq_true (by first | (with_reducible assumption) | assumption); obtain ⟨ad143, A143_1, c143_1, e143, hx143_0, hx143_1, hx143_2, hx143_3, hx143_4, hx143_5, hl143_1, hi143_1⟩ := at_T138 HR0.out x5_1 p143 q143; obtain rfl : ad138 = ad143 := (by injection e143); replace hx143_0 := (HB.out.cell (World.block_lt_of_cell? w _ hx143_0)).trans hx143_0; replace hx143_1 := (HB.out.cell (World.block_lt_of_cell? w _ hx143_1)).trans hx143_1; replace hx143_2 := (HB.out.cell (World.block_lt_of_cell? w _ hx143_2)).trans hx143_2; replace hx143_3 := (HB.out.cell (World.block_lt_of_cell? w _ hx143_3)).trans hx143_3; replace hx143_4 := (HB.out.cell (World.block_lt_of_cell? w _ hx143_4)).trans hx143_4; replace hx143_5 := (HB.out.cell (World.block_lt_of_cell? w _ hx143_5)).trans hx143_5; have HR143_1 := Aside0.mk hi143_1; have HC143_1 := Aside0.mk hl143_1; clear hi143_1 hl143_1; replace p143 := eq_true p143; replace q143 := eq_true q143; have ea_ := Option.some.inj (hx140_1.symm.trans hx143_1); injection ea_ with ea_ en_ ec_; subst ea_; subst ec_; clear en_; have p144 : 0 ≤ (x5_1 : Int) := of_decide_eq_true (by first | (with_reducible assumption) | assumption); have q144 : x5_1 < (l0.length : Int) := of_decide_eq_true (by first | (with_reducible assumption) | assumption); obtain ⟨ad144, A144_1, c144_1, e144, hx144_0, hx144_1, hx144_2, hx144_3, hx144_4, hx144_5, hl144_1, hi144_1⟩ := at_T138 HR0.out x5_1 p144 q144; obtain rfl : ad138 = ad144 := (by injection e144); replace hx144_0 := (HB.out.cell (World.block_lt_of_cell? w _ hx144_0)).trans hx144_0; replace hx144_1 := (HB.out.cell (World.block_lt_of_cell? w _ hx144_1)).trans hx144_1; replace hx144_2 := (HB.out.cell (World.block_lt_of_cell? w _ hx144_2)).trans hx144_2; replace hx144_3 := (HB.out.cell (World.block_lt_of_cell? w _ hx144_3)).trans hx144_3; replace hx144_4 := (HB.out.cell (World.block_lt_of_cell? w _ hx144_4)).trans hx144_4; replace hx144_5 := (HB.out.cell (World.block_lt_of_cell? w _ hx144_5)).trans hx144_5; have HR144_1 := Aside0.mk hi144_1; have HC144_1 := Aside0.mk hl144_1; clear hi144_1 hl144_1; replace p144 := eq_true p144; replace q144 := eq_true q144; have ea_ := Option.some.inj (hx140_1.symm.trans hx144_1); injection ea_ with ea_ en_ ec_; subst ea_; subst ec_; clear en_; have p145 : 0 ≤ (x5_1 : Int) := of_decide_eq_true (by first | (with_reducible assumption) | assumption); have q145 : x5_1 < (l0.length : Int) := of_decide_eq_true (by first | (with_reducible assumption) | assumption); obtain ⟨ad145, A145_1, c145_1, e145, hx145_0, hx145_1, hx145_2, hx145_3, hx145_4, hx145_5, hl145_1, hi145_1⟩ := at_T138 HR0.out x5_1 p145 q145; obtain rfl : ad138 = ad145 := (by injection e145); replace hx145_0 := (HB.out.cell (World.block_lt_of_cell? w _ hx145_0)).trans hx145_0; replace hx145_1 := (HB.out.cell (World.block_lt_of_cell? w _ hx145_1)).trans hx145_1; replace hx145_2 := (HB.out.cell (World.block_lt_of_cell? w _ hx145_2)).trans hx145_2; replace hx145_3 := (HB.out.cell (World.block_lt_of_cell? w _ hx145_3)).trans hx145_3; replace hx145_4 := (HB.out.cell (World.block_lt_of_cell? w _ hx145_4)).trans hx145_4; replace hx145_5 := (HB.out.cell (World.block_lt_of_cell? w _ hx145_5)).trans hx145_5; have HR145_1 := Aside0.mk hi145_1; have HC145_1 := Aside0.mk hl145_1; clear hi145_1 hl145_1; replace p145 := eq_true p145; replace q145 := eq_true q145; have ea_ := Option.some.inj (hx140_1.symm.trans hx145_1); injection ea_ with ea_ en_ ec_; subst ea_; subst ec_; clear en_))
           go_roundg k1
           case measure => have := HK1.out; omega
           case rel => exact ⟨(wrap64 ((wrap64 ((wrap64 ((wrap64 (t141 + 1)) + 1)) + 1)) + 1)), (wrap64 (x5_1 + 1)), (by first | rfl | (simp; done) | (simp [*]; done)), (by first | rfl | (simp; done) | (simp [*]; done)), H', ⟨by have := HK1.out; omega⟩, ⟨by repeat (first | (with_reducible first | exact HB.out | apply below_alloc | apply pw_below_drewN | apply below_drew1) | exact HB.out)⟩⟩
     ·rw [if_neg c6] at H
      have c6b0 : (((rd_T138 l0 x5_1).f0).toList == t139.toList) = false := beq_eq_false_iff_ne.mpr c6
      have c6b1 : (((rd_T138 l0 x5_1).f0).toList != t139.toList) = true := bne_iff_ne.mpr c6
      obtain rfl := Option.some.inj H
      try go_wp2
      have n0_ := Aside0.mk (below_drew1 HB.out)
      clear HB
      have HB := n0_
      clear n0_
      have p138 : 0 ≤ (x5_1 : Int) := of_decide_eq_true (by first | (with_reducible assumption) | assumption)
      have q138 : x5_1 < (l0.length : Int) := of_decide_eq_true (by first | (with_reducible assumption) | assumption)
      obtain ⟨ad138, A138_1, c138_1, e138, hx138_0, hx138_1, hx138_2, hx138_3, hx138_4, hx138_5, hl138_1, hi138_1⟩ := at_T138 HR0.out x5_1 p138 q138
      have hw138_5 := hx138_5
      have hw138_4 := hx138_4
      have hw138_3 := hx138_3
      have hw138_2 := hx138_2
      have hw138_1 := hx138_1
      have hw138_0 := hx138_0
      cases e138
      replace hx138_0 := (HB.out.cell (World.block_lt_of_cell? w _ hx138_0)).trans hx138_0
      replace hx138_1 := (HB.out.cell (World.block_lt_of_cell? w _ hx138_1)).trans hx138_1
      replace hx138_2 := (HB.out.cell (World.block_lt_of_cell? w _ hx138_2)).trans hx138_2
      replace hx138_3 := (HB.out.cell (World.block_lt_of_cell? w _ hx138_3)).trans hx138_3
      replace hx138_4 := (HB.out.cell (World.block_lt_of_cell? w _ hx138_4)).trans hx138_4
      replace hx138_5 := (HB.out.cell (World.block_lt_of_cell? w _ hx138_5)).trans hx138_5
      have HR138_1 := Aside0.mk hi138_1
      have HC138_1 := Aside0.mk hl138_1
      clear hi138_1 hl138_1
      replace p138 := eq_true p138
      replace q138 := eq_true q138
      refine start_ (n := 8) (S := fun w' => w'.cell? (ad138.add ((x5_1).toNat * 6)) = some (.string ((rd_T138 l0 x5_1).f0)) ∧ w'.cell? ⟨(ad138.add ((x5_1).toNat * 6)).block, (ad138.add ((x5_1).toNat * 6)).off + 1, none⟩ = some (.slice A138_1 ((rd_T138 l0 x5_1).f1).length c138_1) ∧ w'.cell? ⟨(ad138.add ((x5_1).toNat * 6)).block, (ad138.add ((x5_1).toNat * 6)).off + 2, none⟩ = some (.float .f32 ((rd_T138 l0 x5_1).f2)) ∧ w'.cell? ⟨(ad138.add ((x5_1).toNat * 6)).block, (ad138.add ((x5_1).toNat * 6)).off + 3, none⟩ = some (.float .f32 ((rd_T138 l0 x5_1).f3)) ∧ w'.cell? ⟨(ad138.add ((x5_1).toNat * 6)).block, (ad138.add ((x5_1).toNat * 6)).off + 4, none⟩ = some (.float .f32 ((rd_T138 l0 x5_1).f4)) ∧ w'.cell? ⟨(ad138.add ((x5_1).toNat * 6)).block, (ad138.add ((x5_1).toNat * 6)).off + 5, none⟩ = some (.float .f32 ((rd_T138 l0 x5_1).f5))) (ds := []) laws_heldSoundS.z0 (by kernel_rfl) rfl rfl ⟨(cu_ HB.out hw138_0), (cu_ HB.out hw138_1), (cu_ HB.out hw138_2), (cu_ HB.out hw138_3), (cu_ HB.out hw138_4), (cu_ HB.out hw138_5)⟩ (fun hHeld => ?_); refine with_tabW laws_heldSoundS.tab4 laws_heldSoundS.bits4 (fun HT_ HW_ => ?_)
      generalize wr.drew = w25 at HB HR138_1 hx138_0 hx138_1 hx138_2 hx138_3 hx138_4 hx138_5 hHeld ⊢
      refine pure_ (i := 0) (N := some 12) (v := ?_) (a' := ?_) laws_heldSoundS.z1 rfl rfl (any_of HT_.out (by kernel_rfl)) (fun _ _ _ h => h) (Or.inl ⟨by rfl, ?_⟩) ?_ ?_
      pv_
      refine pure_ (i := 1) (N := some 13) (v := ?_) (a' := ?_) laws_heldSoundS.z2 rfl rfl (any_of HT_.out (by kernel_rfl)) (fun _ _ _ h => h) (Or.inl ⟨by rfl, ?_⟩) ?_ ?_
      pv_
      refine pure_ (i := 2) (N := some 14) (v := ?_) (a' := ?_) laws_heldSoundS.z3 rfl rfl (any_of HT_.out (by kernel_rfl)) (fun _ _ _ h => h) (Or.inl ⟨by rfl, ?_⟩) ?_ ?_
      pv_
      refine pure_ (i := 3) (N := some 15) (v := ?_) (a' := ?_) laws_heldSoundS.z4 rfl rfl (any_of HT_.out (by kernel_rfl)) (fun _ _ _ h => h) (Or.inl ⟨by rfl, ?_⟩) ?_ ?_
      pv_
      refine pure_ (i := 5) (N := some 17) (v := ?_) (a' := ?_) laws_heldSoundS.z5 rfl rfl (any_of HT_.out (by kernel_rfl)) (fun _ _ _ h => h) (Or.inl ⟨by rfl, ?_⟩) ?_ ?_
      pv_
      refine take_ (i := 4) (N := some 16) (v := ?_) (a' := ?_) laws_heldSoundS.z6 rfl rfl (take_ofW HT_.out HW_.out (by kernel_rfl)) (fun _ _ _ h => h) (Or.inl ⟨by rfl, ?_⟩) hHeld ?_ ?_
      rotate_left
      ·rintro w' ⟨s0, s1, s2, s3, s4, s5⟩
       go_simp
       with_reducible rfl
      rotate_left
      ·pw_
      refine one_ (i := 6) (N := some 18) laws_heldSoundS.z7 rfl rfl (one_of HT_.out (by kernel_rfl)) (by decide) (fun K hK => ?_)
      refine goes_ Try.func105 (by kernel_rfl) rfl #[.int .i64 x1_1] (by rfl) rfl rfl (by (try simp only [List.map_toArray, List.map_cons, List.map_nil]); first | done | rfl | (simp only [List.length_drop, List.length_take]; rfl)) ?_
      with_reducible refine (laws_markText.calls k1 x1_1 t139 _ A5.out).mono ?_
      rintro e w26 ⟨rfl, hb⟩
      refine ⟨_, rfl, ?_⟩
      have n0_ := Aside0.mk (below_step (by repeat (first | (with_reducible first | exact HB.out | apply below_alloc | apply pw_below_drewN | apply below_drew1) | exact HB.out)) hb)
      clear HB
      have HB := n0_
      clear n0_
      (try clear hb)
      (try clear hb2)
      (try clear hk)
      (try clear hi)
      refine hK.out _ _ ⟨(cu_ HB.out hw138_0), (cu_ HB.out hw138_1), (cu_ HB.out hw138_2), (cu_ HB.out hw138_3), (cu_ HB.out hw138_4), (cu_ HB.out hw138_5)⟩ (fun hHeld => ?_)
      clear hK K
      refine norm_ (a' := ?_) ?_ ?_
      rotate_left
      ·show Act.put _ (some 18) _ = _
       pw_
      refine pure_ (i := 7) (N := some 19) (v := ?_) (a' := ?_) laws_heldSoundS.z8 rfl rfl (any_of HT_.out (by kernel_rfl)) (fun _ _ _ h => h) (Or.inl ⟨by rfl, ?_⟩) ?_ ?_
      pv_
      refine done_ (done_of HT_.out (by kernel_rfl)) ?_
      try go_wp2
      go_ret
      exact ⟨by first | rfl | (simp [errW_none, errW_some] <;> rfl) | (simp [*, errW_none, errW_some] <;> rfl), by repeat (first | (with_reducible first | exact HB.out | apply below_alloc | apply pw_below_drewN | apply below_drew1) | exact HB.out)⟩
    ·rw [if_neg c4] at H
     exact absurd H (by simp)
   ·rw [if_neg c3] at H
    have c3b0 : decide (x5_1 < (l0.length : Int)) = false := decide_eq_false c3
    clear c3
    obtain rfl := Option.some.inj H
    go_wp2
    go_ret
    exact ⟨by first | rfl | (simp [errW_none, errW_some] <;> rfl) | (simp [*, errW_none, errW_some] <;> rfl), by repeat (first | (with_reducible first | exact HB.out | apply below_alloc | apply pw_below_drewN | apply below_drew1) | exact HB.out)⟩
def spec_l01Finite.f (a0 : Nat) : Option Bool := some (finB a0)
theorem spec_l01Finite.calls (a0 : Nat) (r : Bool) (w : World) (h : spec_l01Finite.f a0 = some r) :
    Calls Try.prog 77 #[.float .f32 a0] w fun e w' => e = .returned (.bool r) ∧ Drawn0 w w' := by
  obtain rfl := Option.some.inj h
  exact fin_spec a0 w
def spec_l02Above.f (a0 : Nat) : Option (Bool) := (spec_l01Finite.f a0).bind fun t146 => (if t146 = true then (some (fgr .f32 a0 0)) else (some false))
set_option maxHeartbeats 8000000 in
set_option maxRecDepth 100000 in
theorem spec_l02Above.calls (a0 : Nat) (r : Bool) (w : World) (h : spec_l02Above.f a0 = some r) :
    Calls Try.prog 146 #[.float .f32 a0] w fun e w' => e = .returned (.bool r) ∧ Drawn0 w w' := by
  have H : ((spec_l01Finite.f a0).bind fun t146 => (if t146 = true then (some (fgr .f32 a0 0)) else (some false))) = some r := h
  clear h
  replace H := Option.bind_eq_some_iff.mp H
  obtain ⟨t146, A20, H⟩ := H
  replace H : (if t146 = true then (some (fgr .f32 a0 0)) else (some false)) = some r := H
  have A2 := Aside0.mk A20
  clear A20
  by_cases c3 : t146 = true
  · subst c3
    have H1 : (some (fgr .f32 a0 0)) = some r := by rw [if_pos rfl] at H; exact H
    clear H
    have H := H1
    clear H1
    obtain rfl := Option.some.inj H
    go_enter Try.func146, Try.ntmps146
    go_wp2_with (first | ((with_reducible refine gate_callee (f := 77) rfl ?_); refine goesL_ (some 4) rfl rfl Try.func77 (by kernel_rfl) rfl #[.float .f32 a0] rfl (by (try simp only [List.map_toArray, List.map_cons, List.map_nil]); first | done | rfl | (simp only [List.length_drop, List.length_take]; rfl)) ?_; (with_reducible refine (spec_l01Finite.calls a0 true _ A2.out).mono ?_); rintro e w' ⟨rfl, ⟨nd, rfl⟩⟩; refine ⟨_, rfl, ?_⟩))
    go_ret
    exact ⟨by first | rfl | (simp; done) | (simp [*]; done), by repeat (first | exact Drawn0.refl _ | apply Drawn0.step)⟩
  · replace c3 := Bool.eq_false_iff.mpr c3
    subst c3
    have H1 : (some false) = some r := by rw [if_neg (show ¬ (false = true) by decide)] at H; exact H
    clear H
    have H := H1
    clear H1
    obtain rfl := Option.some.inj H
    go_enter Try.func146, Try.ntmps146
    go_wp2_with (first | ((with_reducible refine gate_callee (f := 77) rfl ?_); refine goesL_ (some 4) rfl rfl Try.func77 (by kernel_rfl) rfl #[.float .f32 a0] rfl (by (try simp only [List.map_toArray, List.map_cons, List.map_nil]); first | done | rfl | (simp only [List.length_drop, List.length_take]; rfl)) ?_; (with_reducible refine (spec_l01Finite.calls a0 false _ A2.out).mono ?_); rintro e w' ⟨rfl, ⟨nd, rfl⟩⟩; refine ⟨_, rfl, ?_⟩))
    go_ret
    exact ⟨by first | rfl | (simp; done) | (simp [*]; done), by repeat (first | exact Drawn0.refl _ | apply Drawn0.step)⟩
def spec_l02Share.f (a0 : Nat) : Option (Bool) := if (fge .f32 a0 0) = true then (some (fle .f32 a0 1065353216)) else (some false)
set_option maxHeartbeats 8000000 in
set_option maxRecDepth 100000 in
theorem spec_l02Share.calls (a0 : Nat) (r : Bool) (w : World) (h : spec_l02Share.f a0 = some r) :
    Calls Try.prog 188 #[.float .f32 a0] w fun e w' => e = .returned (.bool r) ∧ Drawn0 w w' := by
  have H : (if (fge .f32 a0 0) = true then (some (fle .f32 a0 1065353216)) else (some false)) = some r := h
  clear h
  by_cases c2 : (fge .f32 a0 0) = true
  · rw [if_pos c2] at H
    have c2b0 : (fge .f32 a0 0) = true := c2
    clear c2
    obtain rfl := Option.some.inj H
    go_enter Try.func188, Try.ntmps188
    go_wp2
    go_ret
    exact ⟨by first | rfl | (simp; done) | (simp [*]; done), by repeat (first | exact Drawn0.refl _ | apply Drawn0.step)⟩
  · rw [if_neg c2] at H
    have c2b0 : (fge .f32 a0 0) = false := by simpa using c2
    clear c2
    obtain rfl := Option.some.inj H
    go_enter Try.func188, Try.ntmps188
    go_wp2
    go_ret
    exact ⟨by first | rfl | (simp; done) | (simp [*]; done), by repeat (first | exact Drawn0.refl _ | apply Drawn0.step)⟩
end Go.Proofs.Ytoiaojdkgagblaa.PFnExactDropSound
