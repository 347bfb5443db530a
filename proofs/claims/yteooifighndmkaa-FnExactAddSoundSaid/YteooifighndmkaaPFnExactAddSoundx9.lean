import Derived.Test.YteooifighndmkaaPFnExactAddSoundx0
import Derived.Test.YteooifighndmkaaPFnExactAddSoundx2
import Derived.Test.YteooifighndmkaaPFnExactAddSoundx8
namespace Go.Proofs.Yteooifighndmkaa.PFnExactAddSound
open Go.RowKit Go.Proofs.YteooifighndmkaaW.PrintWords Go.Proofs.YteooifighndmkaaW.PrintLast Go.Proofs.YteooifighndmkaaW.PrintMore
open Go.Proofs.YteooifighndmkaaW.PrintFl
attribute [local go_sem high] binOp_feq binOp_fne binOp_fls binOp_fle binOp_fgr binOp_fge binOp_sle binOp_sgt
attribute [local go_sem] run_fopr run_fconv run_fint run_stf run_stc
attribute [local go_sem] max2_int min2_int max_two min_two max_three min_three max_four min_four
set_option linter.unusedVariables false
set_option linter.unusedSimpArgs false
abbrev laws_heldSoundS.z0 : Array Bool := #[false, false, false, false, false, false, false, false]
abbrev laws_heldSoundS.z1 : Array Bool := #[true, false, false, false, false, false, false, false]
abbrev laws_heldSoundS.z2 : Array Bool := #[true, true, false, false, false, false, false, false]
abbrev laws_heldSoundS.z3 : Array Bool := #[true, true, true, false, false, false, false, false]
abbrev laws_heldSoundS.z4 : Array Bool := #[true, true, true, true, false, false, false, false]
abbrev laws_heldSoundS.z5 : Array Bool := #[true, true, true, true, false, true, false, false]
abbrev laws_heldSoundS.z6 : Array Bool := #[true, true, true, true, true, true, false, false]
abbrev laws_heldSoundS.z7 : Array Bool := #[true, true, true, true, true, true, true, false]
abbrev laws_heldSoundS.z8 : Array Bool := #[true, true, true, true, true, true, true, true]
def laws_heldSoundS.l0 : Nat → List (S49) → Int → Int → Option (Int)
 | 0, _, _, _ => none
 | k + 1, x0, x1, x5 => if x5 < (x0.length : Int) then (if 0 ≤ x5 then ((laws_markText.f k x1).bind fun t273 => (if ((rd_T49 x0 x5).f0).toList = t273.toList then ((laws_heldFloat32S.f k ((rd_T49 x0 x5).f1) (wrap64 (x1 + 1))).bind fun t275 => (if t275 < 0 then (some (-1)) else (if (fne .f32 ((rd_T49 x0 x5).f2) (floatOfInt .f32 t275)) = true then (some (-1)) else (if (fne .f32 ((rd_T49 x0 x5).f3) (floatOfInt .f32 (wrap64 (t275 + 1)))) = true then (some (-1)) else (if (fne .f32 ((rd_T49 x0 x5).f4) (floatOfInt .f32 (wrap64 ((wrap64 (t275 + 1)) + 1)))) = true then (some (-1)) else (if (fne .f32 ((rd_T49 x0 x5).f5) (floatOfInt .f32 (wrap64 ((wrap64 ((wrap64 (t275 + 1)) + 1)) + 1)))) = true then (some (-1)) else (laws_heldSoundS.l0 k x0 (wrap64 ((wrap64 ((wrap64 ((wrap64 (t275 + 1)) + 1)) + 1)) + 1)) (wrap64 (x5 + 1))))))))) else (some (-1)))) else (none)) else (some x1)
def laws_heldSoundS.f (k : Nat) (l0 : List (S49)) (a1 : Int) : Option (Int) := laws_heldSoundS.l0 k l0 a1 0
theorem laws_heldSoundS.mono_l : ∀ k, (∀ y0 y1 y2, LeO (laws_heldSoundS.l0 k y0 y1 y2) (laws_heldSoundS.l0 (k + 1) y0 y1 y2))
 | 0 => fun _ _ _ r h => by simp [laws_heldSoundS.l0] at h
 | k + 1 => by
  have ih0 := laws_heldSoundS.mono_l k
  ·intro y0 y1 y2
   unfold laws_heldSoundS.l0
   repeat' first
   | (with_reducible exact ih0 _ _ _)
   | (with_reducible exact laws_heldFloat32S.mono _ _ _)
   | (with_reducible exact laws_markText.mono _ _)
   | (with_reducible exact LeO.refl _)
   | (with_reducible exact LeO.none _)
   | (with_reducible refine LeO.ite ?_ ?_)
   | (with_reducible refine LeO.bind ?_ (fun _ => ?_))
   | exact ih0 _ _ _
   | exact laws_heldFloat32S.mono _ _ _
   | exact laws_markText.mono _ _
   | exact LeO.none _
   | refine LeO.ite ?_ ?_
   | refine LeO.bind ?_ (fun _ => ?_)
theorem laws_heldSoundS.mono : ∀ a0 a1 k, LeO (laws_heldSoundS.f k a0 a1) (laws_heldSoundS.f (k + 1) a0 a1) := by
 intro a0 a1 k
 have ih0 := laws_heldSoundS.mono_l k
 unfold laws_heldSoundS.f
 repeat' first
   | (with_reducible exact ih0 _ _ _)
   | (with_reducible exact laws_heldFloat32S.mono _ _ _)
   | (with_reducible exact laws_markText.mono _ _)
   | (with_reducible exact LeO.refl _)
   | (with_reducible exact LeO.none _)
   | (with_reducible refine LeO.ite ?_ ?_)
   | (with_reducible refine LeO.bind ?_ (fun _ => ?_))
   | exact ih0 _ _ _
   | exact laws_heldFloat32S.mono _ _ _
   | exact laws_markText.mono _ _
   | exact LeO.none _
   | refine LeO.ite ?_ ?_
   | refine LeO.bind ?_ (fun _ => ?_)
def laws_heldSoundS.T4 : Bool × List (List Nat × List Nat) := (true, [([], []), ([], []), ([0, 1], [0, 1]), ([2], [2]), ([3], [3]), ([], []), ([5], [5]), ([4, 6], [4, 6])])
def laws_heldSoundS.B4 : List Nat := [0, 0, 3, 7, 15, 0, 32, 127]
theorem laws_heldSoundS.tab4 : rtab .any (opsOf Try.f28 4) = laws_heldSoundS.T4 := by kernel_rfl
theorem laws_heldSoundS.bits4 : waitsOk laws_heldSoundS.T4.2 laws_heldSoundS.B4 = true := by kernel_rfl
set_option maxHeartbeats 8000000 in
set_option maxRecDepth 100000 in
theorem laws_heldSoundS.calls (k : Nat) (A0 : Option Addr) (c0 : Nat) (l0 : List (S49)) (a1 : Int) (r : Int) (w : World) (hr0 : Kd.C k49 w A0 l0.length l0) (hc0 : l0.length ≤ c0) (h : laws_heldSoundS.f k l0 a1 = some r) :
  Calls Try.prog 28 #[.slice A0 l0.length c0, .int .i64 a1] w fun e w' => e = .returned (.int .i64 r) ∧ Below w.heap.size w w' := by
 have hu9 := Try.underlying9
 have hu24 := Try.underlying24
 have hu25 := Try.underlying25
 have HR0 := Aside0.mk hr0
 have HC0 := Aside0.mk hc0
 clear hr0 hc0
 have HB := Aside0.mk (Below.refl w.heap.size w)
 have H : (laws_heldSoundS.l0 k l0 a1 0) = some r := h
 clear h
 have H' := Aside0.mk H
 clear H
 go_enter Try.func28, Try.ntmps28
 go_wp2
 go_loopg [1, 5] k (fun kq v1 v5 w' => ∃ (x1_1 : Int) (x5_1 : Int), v1 = .int .i64 x1_1 ∧ v5 = .int .i64 x5_1 ∧ Aside0 (laws_heldSoundS.l0 kq l0 x1_1 x5_1 = some r) ∧ Aside0 (kq ≤ k) ∧ Aside0 (Below w.heap.size w w'))
 case atStart => exact ⟨(a1), (0), (by first | rfl | (simp; done) | (simp [*]; done)), (by first | rfl | (simp; done) | (simp [*]; done)), H', ⟨Nat.le_refl _⟩, ⟨by repeat (first | (with_reducible first | exact HB.out | apply below_alloc | apply pw_below_drewN | apply below_drew1) | exact HB.out)⟩⟩
 case round =>
  clear H'
  try clear c2
  try clear p2
  obtain ⟨x1_1, x5_1, rfl, rfl, HA, HK1, HB⟩ := hrel
  cases gk with
  | zero => exact absurd HA.out (by simp [laws_heldSoundS.l0])
  | succ k1 =>
   have H := HA.out
   clear HA
   simp only [laws_heldSoundS.l0] at H
   by_cases c3 : x5_1 < (l0.length : Int)
   ·rw [if_pos c3] at H
    have c3b0 : decide (x5_1 < (l0.length : Int)) = true := decide_eq_true c3
    clear c3
    by_cases c4 : 0 ≤ x5_1
    ·rw [if_pos c4] at H
     have c4b0 : decide (0 ≤ x5_1) = true := decide_eq_true c4
     clear c4
     replace H := Option.bind_eq_some_iff.mp H
     obtain ⟨t273, A50, H⟩ := H
     replace H : (if ((rd_T49 l0 x5_1).f0).toList = t273.toList then ((laws_heldFloat32S.f k1 ((rd_T49 l0 x5_1).f1) (wrap64 (x1_1 + 1))).bind fun t275 => (if t275 < 0 then (some (-1)) else (if (fne .f32 ((rd_T49 l0 x5_1).f2) (floatOfInt .f32 t275)) = true then (some (-1)) else (if (fne .f32 ((rd_T49 l0 x5_1).f3) (floatOfInt .f32 (wrap64 (t275 + 1)))) = true then (some (-1)) else (if (fne .f32 ((rd_T49 l0 x5_1).f4) (floatOfInt .f32 (wrap64 ((wrap64 (t275 + 1)) + 1)))) = true then (some (-1)) else (if (fne .f32 ((rd_T49 l0 x5_1).f5) (floatOfInt .f32 (wrap64 ((wrap64 ((wrap64 (t275 + 1)) + 1)) + 1)))) = true then (some (-1)) else (laws_heldSoundS.l0 k1 l0 (wrap64 ((wrap64 ((wrap64 ((wrap64 (t275 + 1)) + 1)) + 1)) + 1)) (wrap64 (x5_1 + 1))))))))) else (some (-1))) = some r := H
     have A5 := Aside0.mk A50
     clear A50
     by_cases c6 : ((rd_T49 l0 x5_1).f0).toList = t273.toList
     ·rw [if_pos c6] at H
      have c6b0 : (((rd_T49 l0 x5_1).f0).toList == t273.toList) = true := beq_iff_eq.mpr c6
      have c6b1 : (((rd_T49 l0 x5_1).f0).toList != t273.toList) = false := bne_eq_false_iff_eq.mpr c6
      clear c6
      replace H := Option.bind_eq_some_iff.mp H
      obtain ⟨t275, A70, H⟩ := H
      replace H : (if t275 < 0 then (some (-1)) else (if (fne .f32 ((rd_T49 l0 x5_1).f2) (floatOfInt .f32 t275)) = true then (some (-1)) else (if (fne .f32 ((rd_T49 l0 x5_1).f3) (floatOfInt .f32 (wrap64 (t275 + 1)))) = true then (some (-1)) else (if (fne .f32 ((rd_T49 l0 x5_1).f4) (floatOfInt .f32 (wrap64 ((wrap64 (t275 + 1)) + 1)))) = true then (some (-1)) else (if (fne .f32 ((rd_T49 l0 x5_1).f5) (floatOfInt .f32 (wrap64 ((wrap64 ((wrap64 (t275 + 1)) + 1)) + 1)))) = true then (some (-1)) else (laws_heldSoundS.l0 k1 l0 (wrap64 ((wrap64 ((wrap64 ((wrap64 (t275 + 1)) + 1)) + 1)) + 1)) (wrap64 (x5_1 + 1)))))))) = some r := H
      have A7 := Aside0.mk A70
      clear A70
      by_cases c8 : t275 < 0
      ·rw [if_pos c8] at H
       have c8b0 : decide (t275 < 0) = true := decide_eq_true c8
       clear c8
       obtain rfl := Option.some.inj H
       try go_wp2
       have n0_ := Aside0.mk (below_drew1 HB.out)
       clear HB
       have HB := n0_
       clear n0_
       have p272 : 0 ≤ (x5_1 : Int) := of_decide_eq_true (by first | (with_reducible assumption) | assumption)
       have q272 : x5_1 < (l0.length : Int) := of_decide_eq_true (by first | (with_reducible assumption) | assumption)
       obtain ⟨ad272, A272_1, c272_1, e272, hx272_0, hx272_1, hx272_2, hx272_3, hx272_4, hx272_5, hl272_1, hi272_1⟩ := at_T49 HR0.out x5_1 p272 q272
       have hw272_5 := hx272_5
       have hw272_4 := hx272_4
       have hw272_3 := hx272_3
       have hw272_2 := hx272_2
       have hw272_1 := hx272_1
       have hw272_0 := hx272_0
       cases e272
       replace hx272_0 := (HB.out.cell (World.block_lt_of_cell? w _ hx272_0)).trans hx272_0
       replace hx272_1 := (HB.out.cell (World.block_lt_of_cell? w _ hx272_1)).trans hx272_1
       replace hx272_2 := (HB.out.cell (World.block_lt_of_cell? w _ hx272_2)).trans hx272_2
       replace hx272_3 := (HB.out.cell (World.block_lt_of_cell? w _ hx272_3)).trans hx272_3
       replace hx272_4 := (HB.out.cell (World.block_lt_of_cell? w _ hx272_4)).trans hx272_4
       replace hx272_5 := (HB.out.cell (World.block_lt_of_cell? w _ hx272_5)).trans hx272_5
       have HR272_1 := Aside0.mk hi272_1
       have HC272_1 := Aside0.mk hl272_1
       clear hi272_1 hl272_1
       replace p272 := eq_true p272
       replace q272 := eq_true q272
       refine start_ (n := 8) (S := fun w' => w'.cell? (ad272.add ((x5_1).toNat * 6)) = some (.string ((rd_T49 l0 x5_1).f0)) ∧ w'.cell? ⟨(ad272.add ((x5_1).toNat * 6)).block, (ad272.add ((x5_1).toNat * 6)).off + 1, none⟩ = some (.slice A272_1 ((rd_T49 l0 x5_1).f1).length c272_1) ∧ w'.cell? ⟨(ad272.add ((x5_1).toNat * 6)).block, (ad272.add ((x5_1).toNat * 6)).off + 2, none⟩ = some (.float .f32 ((rd_T49 l0 x5_1).f2)) ∧ w'.cell? ⟨(ad272.add ((x5_1).toNat * 6)).block, (ad272.add ((x5_1).toNat * 6)).off + 3, none⟩ = some (.float .f32 ((rd_T49 l0 x5_1).f3)) ∧ w'.cell? ⟨(ad272.add ((x5_1).toNat * 6)).block, (ad272.add ((x5_1).toNat * 6)).off + 4, none⟩ = some (.float .f32 ((rd_T49 l0 x5_1).f4)) ∧ w'.cell? ⟨(ad272.add ((x5_1).toNat * 6)).block, (ad272.add ((x5_1).toNat * 6)).off + 5, none⟩ = some (.float .f32 ((rd_T49 l0 x5_1).f5))) (ds := []) laws_heldSoundS.z0 (by kernel_rfl) rfl rfl ⟨(cu_ HB.out hw272_0), (cu_ HB.out hw272_1), (cu_ HB.out hw272_2), (cu_ HB.out hw272_3), (cu_ HB.out hw272_4), (cu_ HB.out hw272_5)⟩ (fun hHeld => ?_); refine with_tabW laws_heldSoundS.tab4 laws_heldSoundS.bits4 (fun HT_ HW_ => ?_)
       generalize wr.drew = w9 at HB HR272_1 hx272_0 hx272_1 hx272_2 hx272_3 hx272_4 hx272_5 hHeld ⊢
       refine pure_ (i := 0) (N := some 12) (v := ?_) (a' := ?_) laws_heldSoundS.z1 rfl rfl (any_of HT_.out (by kernel_rfl)) (fun _ _ _ h => h) (Or.inl ⟨by rfl, ?_⟩) ?_ ?_
       pv_
       refine pure_ (i := 1) (N := some 13) (v := ?_) (a' := ?_) laws_heldSoundS.z2 rfl rfl (any_of HT_.out (by kernel_rfl)) (fun _ _ _ h => h) (Or.inl ⟨by rfl, ?_⟩) ?_ ?_
       pv_
       refine pure_ (i := 2) (N := some 14) (v := ?_) (a' := ?_) laws_heldSoundS.z3 rfl rfl (any_of HT_.out (by kernel_rfl)) (fun _ _ _ h => h) (Or.inl ⟨by rfl, ?_⟩) ?_ ?_
       pv_
       refine pure_ (i := 3) (N := some 15) (v := ?_) (a' := ?_) laws_heldSoundS.z4 rfl rfl (any_of HT_.out (by kernel_rfl)) (fun _ _ _ h => h) (Or.inl ⟨by rfl, ?_⟩) ?_ ?_
       pv_
       refine pure_ (i := 5) (N := some 17) (v := ?_) (a' := ?_) laws_heldSoundS.z5 rfl rfl (any_of HT_.out (by kernel_rfl)) (fun _ _ _ h => h) (Or.inl ⟨by rfl, ?_⟩) ?_ ?_
       pv_
       refine take_ (i := 4) (N := some 16) (v := ?_) (a' := ?_) laws_heldSoundS.z6 rfl rfl (take_ofW HT_.out HW_.out (by kernel_rfl)) (fun _ _ _ h => h) (Or.inl ⟨by rfl, ?_⟩) hHeld ?_ ?_
       rotate_left
       ·rintro w' ⟨s0, s1, s2, s3, s4, s5⟩
        go_simp
        with_reducible rfl
       rotate_left
       ·pw_
       refine one_ (i := 6) (N := some 18) laws_heldSoundS.z7 rfl rfl (one_of HT_.out (by kernel_rfl)) (by decide) (fun K hK => ?_)
       refine goes_ Try.func51 (by kernel_rfl) rfl #[.int .i64 x1_1] (by rfl) rfl rfl (by (try simp only [List.map_toArray, List.map_cons, List.map_nil]); first | done | rfl | (simp only [List.length_drop, List.length_take]; rfl)) ?_
       with_reducible refine (laws_markText.calls k1 x1_1 t273 _ A5.out).mono ?_
       rintro e w10 ⟨rfl, hb⟩
       refine ⟨_, rfl, ?_⟩
       have n0_ := Aside0.mk (below_step (by repeat (first | (with_reducible first | exact HB.out | apply below_alloc | apply pw_below_drewN | apply below_drew1) | exact HB.out)) hb)
       clear HB
       have HB := n0_
       clear n0_
       (try clear hb)
       (try clear hb2)
       (try clear hk)
       (try clear hi)
       refine hK.out _ _ ⟨(cu_ HB.out hw272_0), (cu_ HB.out hw272_1), (cu_ HB.out hw272_2), (cu_ HB.out hw272_3), (cu_ HB.out hw272_4), (cu_ HB.out hw272_5)⟩ (fun hHeld => ?_)
       clear hK K
       refine norm_ (a' := ?_) ?_ ?_
       rotate_left
       ·show Act.put _ (some 18) _ = _
        pw_
       refine pure_ (i := 7) (N := some 19) (v := ?_) (a' := ?_) laws_heldSoundS.z8 rfl rfl (any_of HT_.out (by kernel_rfl)) (fun _ _ _ h => h) (Or.inl ⟨by rfl, ?_⟩) ?_ ?_
       pv_
       refine done_ (done_of HT_.out (by kernel_rfl)) ?_
       have p274 : 0 ≤ (x5_1 : Int) := of_decide_eq_true (by first | (with_reducible assumption) | assumption)
       have q274 : x5_1 < (l0.length : Int) := of_decide_eq_true (by first | (with_reducible assumption) | assumption)
       obtain ⟨ad274, A274_1, c274_1, e274, hx274_0, hx274_1, hx274_2, hx274_3, hx274_4, hx274_5, hl274_1, hi274_1⟩ := at_T49 HR0.out x5_1 p274 q274
       obtain rfl : ad272 = ad274 := (by injection e274)
       try obtain ⟨rfl, rfl⟩ : A274_1 = A272_1 ∧ c274_1 = c272_1 := (by have e_ := Option.some.inj (hw272_1.symm.trans hx274_1); injection e_ with e1_ e2_ e3_; exact ⟨e1_.symm, e3_.symm⟩)
       replace hx274_0 := (HB.out.cell (World.block_lt_of_cell? w _ hx274_0)).trans hx274_0
       replace hx274_1 := (HB.out.cell (World.block_lt_of_cell? w _ hx274_1)).trans hx274_1
       replace hx274_2 := (HB.out.cell (World.block_lt_of_cell? w _ hx274_2)).trans hx274_2
       replace hx274_3 := (HB.out.cell (World.block_lt_of_cell? w _ hx274_3)).trans hx274_3
       replace hx274_4 := (HB.out.cell (World.block_lt_of_cell? w _ hx274_4)).trans hx274_4
       replace hx274_5 := (HB.out.cell (World.block_lt_of_cell? w _ hx274_5)).trans hx274_5
       have HR274_1 := Aside0.mk hi274_1
       have HC274_1 := Aside0.mk hl274_1
       clear hi274_1 hl274_1
       replace p274 := eq_true p274
       replace q274 := eq_true q274
       try go_wp2_with (first | ((with_reducible refine gate_callee (f := 52) rfl ?_); refine goesL_ (some 28) rfl rfl Try.func52 (by kernel_rfl) rfl #[.slice A274_1 ((rd_T49 l0 x5_1).f1).length c274_1, .int .i64 (wrap64 (x1_1 + 1))] rfl (by (try simp only [List.map_toArray, List.map_cons, List.map_nil]); first | done | rfl | (simp only [List.length_drop, List.length_take]; rfl)) ?_; (with_reducible refine (laws_heldFloat32S.calls k1 _ _ ((rd_T49 l0 x5_1).f1) (wrap64 (x1_1 + 1)) t275 _ ?side1 ?side2 A7.out).mono ?_); (case side1 => repeat (first | exact (Kd.C_below HR274_1.out HB.out) | (with_reducible refine Kd.C_alloc ?_ _) | (with_reducible refine Kd.C_drewN ?_ _) | (with_reducible refine Kd.C_drew ?_))); (case side2 => exact HC274_1.out); rintro e w' ⟨rfl, ⟨nd, rfl⟩⟩; refine ⟨_, rfl, ?_⟩))
       go_ret
       exact ⟨by first | rfl | (simp [errW_none, errW_some] <;> rfl) | (simp [*, errW_none, errW_some] <;> rfl), by repeat (first | (with_reducible first | exact HB.out | apply below_alloc | apply pw_below_drewN | apply below_drew1) | exact HB.out)⟩
      ·rw [if_neg c8] at H
       have c8b0 : decide (t275 < 0) = false := decide_eq_false c8
       clear c8
       by_cases c11 : (fne .f32 ((rd_T49 l0 x5_1).f2) (floatOfInt .f32 t275)) = true
       ·rw [if_pos c11] at H
        have c11b0 : (fne .f32 ((rd_T49 l0 x5_1).f2) (floatOfInt .f32 t275)) = true := c11
        clear c11
        obtain rfl := Option.some.inj H
        try go_wp2
        have n0_ := Aside0.mk (below_drew1 HB.out)
        clear HB
        have HB := n0_
        clear n0_
        have p272 : 0 ≤ (x5_1 : Int) := of_decide_eq_true (by first | (with_reducible assumption) | assumption)
        have q272 : x5_1 < (l0.length : Int) := of_decide_eq_true (by first | (with_reducible assumption) | assumption)
        obtain ⟨ad272, A272_1, c272_1, e272, hx272_0, hx272_1, hx272_2, hx272_3, hx272_4, hx272_5, hl272_1, hi272_1⟩ := at_T49 HR0.out x5_1 p272 q272
        have hw272_5 := hx272_5
        have hw272_4 := hx272_4
        have hw272_3 := hx272_3
        have hw272_2 := hx272_2
        have hw272_1 := hx272_1
        have hw272_0 := hx272_0
        cases e272
        replace hx272_0 := (HB.out.cell (World.block_lt_of_cell? w _ hx272_0)).trans hx272_0
        replace hx272_1 := (HB.out.cell (World.block_lt_of_cell? w _ hx272_1)).trans hx272_1
        replace hx272_2 := (HB.out.cell (World.block_lt_of_cell? w _ hx272_2)).trans hx272_2
        replace hx272_3 := (HB.out.cell (World.block_lt_of_cell? w _ hx272_3)).trans hx272_3
        replace hx272_4 := (HB.out.cell (World.block_lt_of_cell? w _ hx272_4)).trans hx272_4
        replace hx272_5 := (HB.out.cell (World.block_lt_of_cell? w _ hx272_5)).trans hx272_5
        have HR272_1 := Aside0.mk hi272_1
        have HC272_1 := Aside0.mk hl272_1
        clear hi272_1 hl272_1
        replace p272 := eq_true p272
        replace q272 := eq_true q272
        refine start_ (n := 8) (S := fun w' => w'.cell? (ad272.add ((x5_1).toNat * 6)) = some (.string ((rd_T49 l0 x5_1).f0)) ∧ w'.cell? ⟨(ad272.add ((x5_1).toNat * 6)).block, (ad272.add ((x5_1).toNat * 6)).off + 1, none⟩ = some (.slice A272_1 ((rd_T49 l0 x5_1).f1).length c272_1) ∧ w'.cell? ⟨(ad272.add ((x5_1).toNat * 6)).block, (ad272.add ((x5_1).toNat * 6)).off + 2, none⟩ = some (.float .f32 ((rd_T49 l0 x5_1).f2)) ∧ w'.cell? ⟨(ad272.add ((x5_1).toNat * 6)).block, (ad272.add ((x5_1).toNat * 6)).off + 3, none⟩ = some (.float .f32 ((rd_T49 l0 x5_1).f3)) ∧ w'.cell? ⟨(ad272.add ((x5_1).toNat * 6)).block, (ad272.add ((x5_1).toNat * 6)).off + 4, none⟩ = some (.float .f32 ((rd_T49 l0 x5_1).f4)) ∧ w'.cell? ⟨(ad272.add ((x5_1).toNat * 6)).block, (ad272.add ((x5_1).toNat * 6)).off + 5, none⟩ = some (.float .f32 ((rd_T49 l0 x5_1).f5))) (ds := []) laws_heldSoundS.z0 (by kernel_rfl) rfl rfl ⟨(cu_ HB.out hw272_0), (cu_ HB.out hw272_1), (cu_ HB.out hw272_2), (cu_ HB.out hw272_3), (cu_ HB.out hw272_4), (cu_ HB.out hw272_5)⟩ (fun hHeld => ?_); refine with_tabW laws_heldSoundS.tab4 laws_heldSoundS.bits4 (fun HT_ HW_ => ?_)
        generalize wr.drew = w12 at HB HR272_1 hx272_0 hx272_1 hx272_2 hx272_3 hx272_4 hx272_5 hHeld ⊢
        refine pure_ (i := 0) (N := some 12) (v := ?_) (a' := ?_) laws_heldSoundS.z1 rfl rfl (any_of HT_.out (by kernel_rfl)) (fun _ _ _ h => h) (Or.inl ⟨by rfl, ?_⟩) ?_ ?_
        pv_
        refine pure_ (i := 1) (N := some 13) (v := ?_) (a' := ?_) laws_heldSoundS.z2 rfl rfl (any_of HT_.out (by kernel_rfl)) (fun _ _ _ h => h) (Or.inl ⟨by rfl, ?_⟩) ?_ ?_
        pv_
        refine pure_ (i := 2) (N := some 14) (v := ?_) (a' := ?_) laws_heldSoundS.z3 rfl rfl (any_of HT_.out (by kernel_rfl)) (fun _ _ _ h => h) (Or.inl ⟨by rfl, ?_⟩) ?_ ?_
        pv_
        refine pure_ (i := 3) (N := some 15) (v := ?_) (a' := ?_) laws_heldSoundS.z4 rfl rfl (any_of HT_.out (by kernel_rfl)) (fun _ _ _ h => h) (Or.inl ⟨by rfl, ?_⟩) ?_ ?_
        pv_
        refine pure_ (i := 5) (N := some 17) (v := ?_) (a' := ?_) laws_heldSoundS.z5 rfl rfl (any_of HT_.out (by kernel_rfl)) (fun _ _ _ h => h) (Or.inl ⟨by rfl, ?_⟩) ?_ ?_
        pv_
        refine take_ (i := 4) (N := some 16) (v := ?_) (a' := ?_) laws_heldSoundS.z6 rfl rfl (take_ofW HT_.out HW_.out (by kernel_rfl)) (fun _ _ _ h => h) (Or.inl ⟨by rfl, ?_⟩) hHeld ?_ ?_
        rotate_left
        ·rintro w' ⟨s0, s1, s2, s3, s4, s5⟩
         go_simp
         with_reducible rfl
        rotate_left
        ·pw_
        refine one_ (i := 6) (N := some 18) laws_heldSoundS.z7 rfl rfl (one_of HT_.out (by kernel_rfl)) (by decide) (fun K hK => ?_)
        refine goes_ Try.func51 (by kernel_rfl) rfl #[.int .i64 x1_1] (by rfl) rfl rfl (by (try simp only [List.map_toArray, List.map_cons, List.map_nil]); first | done | rfl | (simp only [List.length_drop, List.length_take]; rfl)) ?_
        with_reducible refine (laws_markText.calls k1 x1_1 t273 _ A5.out).mono ?_
        rintro e w13 ⟨rfl, hb⟩
        refine ⟨_, rfl, ?_⟩
        have n0_ := Aside0.mk (below_step (by repeat (first | (with_reducible first | exact HB.out | apply below_alloc | apply pw_below_drewN | apply below_drew1) | exact HB.out)) hb)
        clear HB
        have HB := n0_
        clear n0_
        (try clear hb)
        (try clear hb2)
        (try clear hk)
        (try clear hi)
        refine hK.out _ _ ⟨(cu_ HB.out hw272_0), (cu_ HB.out hw272_1), (cu_ HB.out hw272_2), (cu_ HB.out hw272_3), (cu_ HB.out hw272_4), (cu_ HB.out hw272_5)⟩ (fun hHeld => ?_)
        clear hK K
        refine norm_ (a' := ?_) ?_ ?_
        rotate_left
        ·show Act.put _ (some 18) _ = _
         pw_
        refine pure_ (i := 7) (N := some 19) (v := ?_) (a' := ?_) laws_heldSoundS.z8 rfl rfl (any_of HT_.out (by kernel_rfl)) (fun _ _ _ h => h) (Or.inl ⟨by rfl, ?_⟩) ?_ ?_
        pv_
        refine done_ (done_of HT_.out (by kernel_rfl)) ?_
        have p274 : 0 ≤ (x5_1 : Int) := of_decide_eq_true (by first | (with_reducible assumption) | assumption)
        have q274 : x5_1 < (l0.length : Int) := of_decide_eq_true (by first | (with_reducible assumption) | assumption)
        obtain ⟨ad274, A274_1, c274_1, e274, hx274_0, hx274_1, hx274_2, hx274_3, hx274_4, hx274_5, hl274_1, hi274_1⟩ := at_T49 HR0.out x5_1 p274 q274
        obtain rfl : ad272 = ad274 := (by injection e274)
        try obtain ⟨rfl, rfl⟩ : A274_1 = A272_1 ∧ c274_1 = c272_1 := (by have e_ := Option.some.inj (hw272_1.symm.trans hx274_1); injection e_ with e1_ e2_ e3_; exact ⟨e1_.symm, e3_.symm⟩)
        replace hx274_0 := (HB.out.cell (World.block_lt_of_cell? w _ hx274_0)).trans hx274_0
        replace hx274_1 := (HB.out.cell (World.block_lt_of_cell? w _ hx274_1)).trans hx274_1
        replace hx274_2 := (HB.out.cell (World.block_lt_of_cell? w _ hx274_2)).trans hx274_2
        replace hx274_3 := (HB.out.cell (World.block_lt_of_cell? w _ hx274_3)).trans hx274_3
        replace hx274_4 := (HB.out.cell (World.block_lt_of_cell? w _ hx274_4)).trans hx274_4
        replace hx274_5 := (HB.out.cell (World.block_lt_of_cell? w _ hx274_5)).trans hx274_5
        have HR274_1 := Aside0.mk hi274_1
        have HC274_1 := Aside0.mk hl274_1
        clear hi274_1 hl274_1
        replace p274 := eq_true p274
        replace q274 := eq_true q274
        try go_wp2_with (first | ((with_reducible refine gate_callee (f := 52) rfl ?_); refine goesL_ (some 28) rfl rfl Try.func52 (by kernel_rfl) rfl #[.slice A274_1 ((rd_T49 l0 x5_1).f1).length c274_1, .int .i64 (wrap64 (x1_1 + 1))] rfl (by (try simp only [List.map_toArray, List.map_cons, List.map_nil]); first | done | rfl | (simp only [List.length_drop, List.length_take]; rfl)) ?_; (with_reducible refine (laws_heldFloat32S.calls k1 _ _ ((rd_T49 l0 x5_1).f1) (wrap64 (x1_1 + 1)) t275 _ ?side1 ?side2 A7.out).mono ?_); (case side1 => repeat (first | exact (Kd.C_below HR274_1.out HB.out) | (with_reducible refine Kd.C_alloc ?_ _) | (with_reducible refine Kd.C_drewN ?_ _) | (with_reducible refine Kd.C_drew ?_))); (case side2 => exact HC274_1.out); rintro e w' ⟨rfl, ⟨nd, rfl⟩⟩; refine ⟨_, rfl, ?_⟩; have p276 : 0 ≤ (x5_1 : Int) := of_decide_eq_true (by first | (with_reducible assumption) | assumption); have q276 : x5_1 < (l0.length : Int) := of_decide_eq_true (by first | (with_reducible assumption) | assumption); obtain ⟨ad276, A276_1, c276_1, e276, hx276_0, hx276_1, hx276_2, hx276_3, hx276_4, hx276_5, hl276_1, hi276_1⟩ := at_T49 HR0.out x5_1 p276 q276; obtain rfl : ad272 = ad276 := (by injection e276); replace hx276_0 := (HB.out.cell (World.block_lt_of_cell? w _ hx276_0)).trans hx276_0; replace hx276_1 := (HB.out.cell (World.block_lt_of_cell? w _ hx276_1)).trans hx276_1; replace hx276_2 := (HB.out.cell (World.block_lt_of_cell? w _ hx276_2)).trans hx276_2; replace hx276_3 := (HB.out.cell (World.block_lt_of_cell? w _ hx276_3)).trans hx276_3; replace hx276_4 := (HB.out.cell (World.block_lt_of_cell? w _ hx276_4)).trans hx276_4; replace hx276_5 := (HB.out.cell (World.block_lt_of_cell? w _ hx276_5)).trans hx276_5; have HR276_1 := Aside0.mk hi276_1; have HC276_1 := Aside0.mk hl276_1; clear hi276_1 hl276_1; replace p276 := eq_true p276; replace q276 := eq_true q276; have ea_ := Option.some.inj (hx274_1.symm.trans hx276_1); injection ea_ with ea_ en_ ec_; subst ea_; subst ec_; clear en_))
        go_ret
        exact ⟨by first | rfl | (simp [errW_none, errW_some] <;> rfl) | (simp [*, errW_none, errW_some] <;> rfl), by repeat (first | (with_reducible first | exact HB.out | apply below_alloc | apply pw_below_drewN | apply below_drew1) | exact HB.out)⟩
       ·rw [if_neg c11] at H
        have c11b0 : (fne .f32 ((rd_T49 l0 x5_1).f2) (floatOfInt .f32 t275)) = false := by simpa using c11
        clear c11
        by_cases c14 : (fne .f32 ((rd_T49 l0 x5_1).f3) (floatOfInt .f32 (wrap64 (t275 + 1)))) = true
        ·rw [if_pos c14] at H
         have c14b0 : (fne .f32 ((rd_T49 l0 x5_1).f3) (floatOfInt .f32 (wrap64 (t275 + 1)))) = true := c14
         clear c14
         obtain rfl := Option.some.inj H
         try go_wp2
         have n0_ := Aside0.mk (below_drew1 HB.out)
         clear HB
         have HB := n0_
         clear n0_
         have p272 : 0 ≤ (x5_1 : Int) := of_decide_eq_true (by first | (with_reducible assumption) | assumption)
         have q272 : x5_1 < (l0.length : Int) := of_decide_eq_true (by first | (with_reducible assumption) | assumption)
         obtain ⟨ad272, A272_1, c272_1, e272, hx272_0, hx272_1, hx272_2, hx272_3, hx272_4, hx272_5, hl272_1, hi272_1⟩ := at_T49 HR0.out x5_1 p272 q272
         have hw272_5 := hx272_5
         have hw272_4 := hx272_4
         have hw272_3 := hx272_3
         have hw272_2 := hx272_2
         have hw272_1 := hx272_1
         have hw272_0 := hx272_0
         cases e272
         replace hx272_0 := (HB.out.cell (World.block_lt_of_cell? w _ hx272_0)).trans hx272_0
         replace hx272_1 := (HB.out.cell (World.block_lt_of_cell? w _ hx272_1)).trans hx272_1
         replace hx272_2 := (HB.out.cell (World.block_lt_of_cell? w _ hx272_2)).trans hx272_2
         replace hx272_3 := (HB.out.cell (World.block_lt_of_cell? w _ hx272_3)).trans hx272_3
         replace hx272_4 := (HB.out.cell (World.block_lt_of_cell? w _ hx272_4)).trans hx272_4
         replace hx272_5 := (HB.out.cell (World.block_lt_of_cell? w _ hx272_5)).trans hx272_5
         have HR272_1 := Aside0.mk hi272_1
         have HC272_1 := Aside0.mk hl272_1
         clear hi272_1 hl272_1
         replace p272 := eq_true p272
         replace q272 := eq_true q272
         refine start_ (n := 8) (S := fun w' => w'.cell? (ad272.add ((x5_1).toNat * 6)) = some (.string ((rd_T49 l0 x5_1).f0)) ∧ w'.cell? ⟨(ad272.add ((x5_1).toNat * 6)).block, (ad272.add ((x5_1).toNat * 6)).off + 1, none⟩ = some (.slice A272_1 ((rd_T49 l0 x5_1).f1).length c272_1) ∧ w'.cell? ⟨(ad272.add ((x5_1).toNat * 6)).block, (ad272.add ((x5_1).toNat * 6)).off + 2, none⟩ = some (.float .f32 ((rd_T49 l0 x5_1).f2)) ∧ w'.cell? ⟨(ad272.add ((x5_1).toNat * 6)).block, (ad272.add ((x5_1).toNat * 6)).off + 3, none⟩ = some (.float .f32 ((rd_T49 l0 x5_1).f3)) ∧ w'.cell? ⟨(ad272.add ((x5_1).toNat * 6)).block, (ad272.add ((x5_1).toNat * 6)).off + 4, none⟩ = some (.float .f32 ((rd_T49 l0 x5_1).f4)) ∧ w'.cell? ⟨(ad272.add ((x5_1).toNat * 6)).block, (ad272.add ((x5_1).toNat * 6)).off + 5, none⟩ = some (.float .f32 ((rd_T49 l0 x5_1).f5))) (ds := []) laws_heldSoundS.z0 (by kernel_rfl) rfl rfl ⟨(cu_ HB.out hw272_0), (cu_ HB.out hw272_1), (cu_ HB.out hw272_2), (cu_ HB.out hw272_3), (cu_ HB.out hw272_4), (cu_ HB.out hw272_5)⟩ (fun hHeld => ?_); refine with_tabW laws_heldSoundS.tab4 laws_heldSoundS.bits4 (fun HT_ HW_ => ?_)
         generalize wr.drew = w15 at HB HR272_1 hx272_0 hx272_1 hx272_2 hx272_3 hx272_4 hx272_5 hHeld ⊢
         refine pure_ (i := 0) (N := some 12) (v := ?_) (a' := ?_) laws_heldSoundS.z1 rfl rfl (any_of HT_.out (by kernel_rfl)) (fun _ _ _ h => h) (Or.inl ⟨by rfl, ?_⟩) ?_ ?_
         pv_
         refine pure_ (i := 1) (N := some 13) (v := ?_) (a' := ?_) laws_heldSoundS.z2 rfl rfl (any_of HT_.out (by kernel_rfl)) (fun _ _ _ h => h) (Or.inl ⟨by rfl, ?_⟩) ?_ ?_
         pv_
         refine pure_ (i := 2) (N := some 14) (v := ?_) (a' := ?_) laws_heldSoundS.z3 rfl rfl (any_of HT_.out (by kernel_rfl)) (fun _ _ _ h => h) (Or.inl ⟨by rfl, ?_⟩) ?_ ?_
         pv_
         refine pure_ (i := 3) (N := some 15) (v := ?_) (a' := ?_) laws_heldSoundS.z4 rfl rfl (any_of HT_.out (by kernel_rfl)) (fun _ _ _ h => h) (Or.inl ⟨by rfl, ?_⟩) ?_ ?_
         pv_
         refine pure_ (i := 5) (N := some 17) (v := ?_) (a' := ?_) laws_heldSoundS.z5 rfl rfl (any_of HT_.out (by kernel_rfl)) (fun _ _ _ h => h) (Or.inl ⟨by rfl, ?_⟩) ?_ ?_
         pv_
         refine take_ (i := 4) (N := some 16) (v := ?_) (a' := ?_) laws_heldSoundS.z6 rfl rfl (take_ofW HT_.out HW_.out (by kernel_rfl)) (fun _ _ _ h => h) (Or.inl ⟨by rfl, ?_⟩) hHeld ?_ ?_
         rotate_left
         ·rintro w' ⟨s0, s1, s2, s3, s4, s5⟩
          go_simp
          with_reducible rfl
         rotate_left
         ·pw_
         refine one_ (i := 6) (N := some 18) laws_heldSoundS.z7 rfl rfl (one_of HT_.out (by kernel_rfl)) (by decide) (fun K hK => ?_)
         refine goes_ Try.func51 (by kernel_rfl) rfl #[.int .i64 x1_1] (by rfl) rfl rfl (by (try simp only [List.map_toArray, List.map_cons, List.map_nil]); first | done | rfl | (simp only [List.length_drop, List.length_take]; rfl)) ?_
         with_reducible refine (laws_markText.calls k1 x1_1 t273 _ A5.out).mono ?_
         rintro e w16 ⟨rfl, hb⟩
         refine ⟨_, rfl, ?_⟩
         have n0_ := Aside0.mk (below_step (by repeat (first | (with_reducible first | exact HB.out | apply below_alloc | apply pw_below_drewN | apply below_drew1) | exact HB.out)) hb)
         clear HB
         have HB := n0_
         clear n0_
         (try clear hb)
         (try clear hb2)
         (try clear hk)
         (try clear hi)
         refine hK.out _ _ ⟨(cu_ HB.out hw272_0), (cu_ HB.out hw272_1), (cu_ HB.out hw272_2), (cu_ HB.out hw272_3), (cu_ HB.out hw272_4), (cu_ HB.out hw272_5)⟩ (fun hHeld => ?_)
         clear hK K
         refine norm_ (a' := ?_) ?_ ?_
         rotate_left
         ·show Act.put _ (some 18) _ = _
          pw_
         refine pure_ (i := 7) (N := some 19) (v := ?_) (a' := ?_) laws_heldSoundS.z8 rfl rfl (any_of HT_.out (by kernel_rfl)) (fun _ _ _ h => h) (Or.inl ⟨by rfl, ?_⟩) ?_ ?_
         pv_
         refine done_ (done_of HT_.out (by kernel_rfl)) ?_
         have p274 : 0 ≤ (x5_1 : Int) := of_decide_eq_true (by first | (with_reducible assumption) | assumption)
         have q274 : x5_1 < (l0.length : Int) := of_decide_eq_true (by first | (with_reducible assumption) | assumption)
         obtain ⟨ad274, A274_1, c274_1, e274, hx274_0, hx274_1, hx274_2, hx274_3, hx274_4, hx274_5, hl274_1, hi274_1⟩ := at_T49 HR0.out x5_1 p274 q274
         obtain rfl : ad272 = ad274 := (by injection e274)
         try obtain ⟨rfl, rfl⟩ : A274_1 = A272_1 ∧ c274_1 = c272_1 := (by have e_ := Option.some.inj (hw272_1.symm.trans hx274_1); injection e_ with e1_ e2_ e3_; exact ⟨e1_.symm, e3_.symm⟩)
         replace hx274_0 := (HB.out.cell (World.block_lt_of_cell? w _ hx274_0)).trans hx274_0
         replace hx274_1 := (HB.out.cell (World.block_lt_of_cell? w _ hx274_1)).trans hx274_1
         replace hx274_2 := (HB.out.cell (World.block_lt_of_cell? w _ hx274_2)).trans hx274_2
         replace hx274_3 := (HB.out.cell (World.block_lt_of_cell? w _ hx274_3)).trans hx274_3
         replace hx274_4 := (HB.out.cell (World.block_lt_of_cell? w _ hx274_4)).trans hx274_4
         replace hx274_5 := (HB.out.cell (World.block_lt_of_cell? w _ hx274_5)).trans hx274_5
         have HR274_1 := Aside0.mk hi274_1
         have HC274_1 := Aside0.mk hl274_1
         clear hi274_1 hl274_1
         replace p274 := eq_true p274
         replace q274 := eq_true q274
         try go_wp2_with (first | ((with_reducible refine gate_callee (f := 52) rfl ?_); refine goesL_ (some 28) rfl rfl Try.func52 (by kernel_rfl) rfl #[.slice A274_1 ((rd_T49 l0 x5_1).f1).length c274_1, .int .i64 (wrap64 (x1_1 + 1))] rfl (by (try simp only [List.map_toArray, List.map_cons, List.map_nil]); first | done | rfl | (simp only [List.length_drop, List.length_take]; rfl)) ?_; (with_reducible refine (laws_heldFloat32S.calls k1 _ _ ((rd_T49 l0 x5_1).f1) (wrap64 (x1_1 + 1)) t275 _ ?side1 ?side2 A7.out).mono ?_); (case side1 => repeat (first | exact (Kd.C_below HR274_1.out HB.out) | (with_reducible refine Kd.C_alloc ?_ _) | (with_reducible refine Kd.C_drewN ?_ _) | (with_reducible refine Kd.C_drew ?_))); (case side2 => exact HC274_1.out); rintro e w' ⟨rfl, ⟨nd, rfl⟩⟩; refine ⟨_, rfl, ?_⟩; have p276 : 0 ≤ (x5_1 : Int) := of_decide_eq_true (by first | (with_reducible assumption) | assumption); have q276 : x5_1 < (l0.length : Int) := of_decide_eq_true (by first | (with_reducible assumption) | assumption); obtain ⟨ad276, A276_1, c276_1, e276, hx276_0, hx276_1, hx276_2, hx276_3, hx276_4, hx276_5, hl276_1, hi276_1⟩ := at_T49 HR0.out x5_1 p276 q276; obtain rfl : ad272 = ad276 := (by injection e276); replace hx276_0 := (HB.out.cell (World.block_lt_of_cell? w _ hx276_0)).trans hx276_0; replace hx276_1 := (HB.out.cell (World.block_lt_of_cell? w _ hx276_1)).trans hx276_1; replace hx276_2 := (HB.out.cell (World.block_lt_of_cell? w _ hx276_2)).trans hx276_2; replace hx276_3 := (HB.out.cell (World.block_lt_of_cell? w _ hx276_3)).trans hx276_3; replace hx276_4 := (HB.out.cell (World.block_lt_of_cell? w _ hx276_4)).trans hx276_4; replace hx276_5 := (HB.out.cell (World.block_lt_of_cell? w _ hx276_5)).trans hx276_5; have HR276_1 := Aside0.mk hi276_1; have HC276_1 := Aside0.mk hl276_1; clear hi276_1 hl276_1; replace p276 := eq_true p276; replace q276 := eq_true q276; have ea_ := Option.some.inj (hx274_1.symm.trans hx276_1); injection ea_ with ea_ en_ ec_; subst ea_; subst ec_; clear en_; have p277 : 0 ≤ (x5_1 : Int) := of_decide_eq_true (by first | (with_reducible assumption) | assumption); have q277 : x5_1 < (l0.length : Int) := of_decide_eq_true (by first | (with_reducible assumption) | assumption); obtain ⟨ad277, A277_1, c277_1, e277, hx277_0, hx277_1, hx277_2, hx277_3, hx277_4, hx277_5, hl277_1, hi277_1⟩ := at_T49 HR0.out x5_1 p277 q277; obtain rfl : ad272 = ad277 := (by injection e277); replace hx277_0 := (HB.out.cell (World.block_lt_of_cell? w _ hx277_0)).trans hx277_0; replace hx277_1 := (HB.out.cell (World.block_lt_of_cell? w _ hx277_1)).trans hx277_1; replace hx277_2 := (HB.out.cell (World.block_lt_of_cell? w _ hx277_2)).trans hx277_2; replace hx277_3 := (HB.out.cell (World.block_lt_of_cell? w _ hx277_3)).trans hx277_3; replace hx277_4 := (HB.out.cell (World.block_lt_of_cell? w _ hx277_4)).trans hx277_4; replace hx277_5 := (HB.out.cell (World.block_lt_of_cell? w _ hx277_5)).trans hx277_5; have HR277_1 := Aside0.mk hi277_1; have HC277_1 := Aside0.mk hl277_1; clear hi277_1 hl277_1; replace p277 := eq_true p277; replace q277 := eq_true q277; have ea_ := Option.some.inj (hx274_1.symm.trans hx277_1); injection ea_ with ea_ en_ ec_; subst ea_; subst ec_; clear en_))
         go_ret
         exact ⟨by first | rfl | (simp [errW_none, errW_some] <;> rfl) | (simp [*, errW_none, errW_some] <;> rfl), by repeat (first | (with_reducible first | exact HB.out | apply below_alloc | apply pw_below_drewN | apply below_drew1) | exact HB.out)⟩
        ·rw [if_neg c14] at H
         have c14b0 : (fne .f32 ((rd_T49 l0 x5_1).f3) (floatOfInt .f32 (wrap64 (t275 + 1)))) = false := by simpa using c14
         clear c14
         by_cases c17 : (fne .f32 ((rd_T49 l0 x5_1).f4) (floatOfInt .f32 (wrap64 ((wrap64 (t275 + 1)) + 1)))) = true
         ·rw [if_pos c17] at H
          have c17b0 : (fne .f32 ((rd_T49 l0 x5_1).f4) (floatOfInt .f32 (wrap64 ((wrap64 (t275 + 1)) + 1)))) = true := c17
          clear c17
          obtain rfl := Option.some.inj H
          try go_wp2
          have n0_ := Aside0.mk (below_drew1 HB.out)
          clear HB
          have HB := n0_
          clear n0_
          have p272 : 0 ≤ (x5_1 : Int) := of_decide_eq_true (by first | (with_reducible assumption) | assumption)
          have q272 : x5_1 < (l0.length : Int) := of_decide_eq_true (by first | (with_reducible assumption) | assumption)
          obtain ⟨ad272, A272_1, c272_1, e272, hx272_0, hx272_1, hx272_2, hx272_3, hx272_4, hx272_5, hl272_1, hi272_1⟩ := at_T49 HR0.out x5_1 p272 q272
          have hw272_5 := hx272_5
          have hw272_4 := hx272_4
          have hw272_3 := hx272_3
          have hw272_2 := hx272_2
          have hw272_1 := hx272_1
          have hw272_0 := hx272_0
          cases e272
          replace hx272_0 := (HB.out.cell (World.block_lt_of_cell? w _ hx272_0)).trans hx272_0
          replace hx272_1 := (HB.out.cell (World.block_lt_of_cell? w _ hx272_1)).trans hx272_1
          replace hx272_2 := (HB.out.cell (World.block_lt_of_cell? w _ hx272_2)).trans hx272_2
          replace hx272_3 := (HB.out.cell (World.block_lt_of_cell? w _ hx272_3)).trans hx272_3
          replace hx272_4 := (HB.out.cell (World.block_lt_of_cell? w _ hx272_4)).trans hx272_4
          replace hx272_5 := (HB.out.cell (World.block_lt_of_cell? w _ hx272_5)).trans hx272_5
          have HR272_1 := Aside0.mk hi272_1
          have HC272_1 := Aside0.mk hl272_1
          clear hi272_1 hl272_1
          replace p272 := eq_true p272
          replace q272 := eq_true q272
          refine start_ (n := 8) (S := fun w' => w'.cell? (ad272.add ((x5_1).toNat * 6)) = some (.string ((rd_T49 l0 x5_1).f0)) ∧ w'.cell? ⟨(ad272.add ((x5_1).toNat * 6)).block, (ad272.add ((x5_1).toNat * 6)).off + 1, none⟩ = some (.slice A272_1 ((rd_T49 l0 x5_1).f1).length c272_1) ∧ w'.cell? ⟨(ad272.add ((x5_1).toNat * 6)).block, (ad272.add ((x5_1).toNat * 6)).off + 2, none⟩ = some (.float .f32 ((rd_T49 l0 x5_1).f2)) ∧ w'.cell? ⟨(ad272.add ((x5_1).toNat * 6)).block, (ad272.add ((x5_1).toNat * 6)).off + 3, none⟩ = some (.float .f32 ((rd_T49 l0 x5_1).f3)) ∧ w'.cell? ⟨(ad272.add ((x5_1).toNat * 6)).block, (ad272.add ((x5_1).toNat * 6)).off + 4, none⟩ = some (.float .f32 ((rd_T49 l0 x5_1).f4)) ∧ w'.cell? ⟨(ad272.add ((x5_1).toNat * 6)).block, (ad272.add ((x5_1).toNat * 6)).off + 5, none⟩ = some (.float .f32 ((rd_T49 l0 x5_1).f5))) (ds := []) laws_heldSoundS.z0 (by kernel_rfl) rfl rfl ⟨(cu_ HB.out hw272_0), (cu_ HB.out hw272_1), (cu_ HB.out hw272_2), (cu_ HB.out hw272_3), (cu_ HB.out hw272_4), (cu_ HB.out hw272_5)⟩ (fun hHeld => ?_); refine with_tabW laws_heldSoundS.tab4 laws_heldSoundS.bits4 (fun HT_ HW_ => ?_)
          generalize wr.drew = w18 at HB HR272_1 hx272_0 hx272_1 hx272_2 hx272_3 hx272_4 hx272_5 hHeld ⊢
          refine pure_ (i := 0) (N := some 12) (v := ?_) (a' := ?_) laws_heldSoundS.z1 rfl rfl (any_of HT_.out (by kernel_rfl)) (fun _ _ _ h => h) (Or.inl ⟨by rfl, ?_⟩) ?_ ?_
          pv_
          refine pure_ (i := 1) (N := some 13) (v := ?_) (a' := ?_) laws_heldSoundS.z2 rfl rfl (any_of HT_.out (by kernel_rfl)) (fun _ _ _ h => h) (Or.inl ⟨by rfl, ?_⟩) ?_ ?_
          pv_
          refine pure_ (i := 2) (N := some 14) (v := ?_) (a' := ?_) laws_heldSoundS.z3 rfl rfl (any_of HT_.out (by kernel_rfl)) (fun _ _ _ h => h) (Or.inl ⟨by rfl, ?_⟩) ?_ ?_
          pv_
          refine pure_ (i := 3) (N := some 15) (v := ?_) (a' := ?_) laws_heldSoundS.z4 rfl rfl (any_of HT_.out (by kernel_rfl)) (fun _ _ _ h => h) (Or.inl ⟨by rfl, ?_⟩) ?_ ?_
          pv_
          refine pure_ (i := 5) (N := some 17) (v := ?_) (a' := ?_) laws_heldSoundS.z5 rfl rfl (any_of HT_.out (by kernel_rfl)) (fun _ _ _ h => h) (Or.inl ⟨by rfl, ?_⟩) ?_ ?_
          pv_
          refine take_ (i := 4) (N := some 16) (v := ?_) (a' := ?_) laws_heldSoundS.z6 rfl rfl (take_ofW HT_.out HW_.out (by kernel_rfl)) (fun _ _ _ h => h) (Or.inl ⟨by rfl, ?_⟩) hHeld ?_ ?_
          rotate_left
          ·rintro w' ⟨s0, s1, s2, s3, s4, s5⟩
           go_simp
           with_reducible rfl
          rotate_left
          ·pw_
          refine one_ (i := 6) (N := some 18) laws_heldSoundS.z7 rfl rfl (one_of HT_.out (by kernel_rfl)) (by decide) (fun K hK => ?_)
          refine goes_ Try.func51 (by kernel_rfl) rfl #[.int .i64 x1_1] (by rfl) rfl rfl (by (try simp only [List.map_toArray, List.map_cons, List.map_nil]); first | done | rfl | (simp only [List.length_drop, List.length_take]; rfl)) ?_
          with_reducible refine (laws_markText.calls k1 x1_1 t273 _ A5.out).mono ?_
          rintro e w19 ⟨rfl, hb⟩
          refine ⟨_, rfl, ?_⟩
          have n0_ := Aside0.mk (below_step (by repeat (first | (with_reducible first | exact HB.out | apply below_alloc | apply pw_below_drewN | apply below_drew1) | exact HB.out)) hb)
          clear HB
          have HB := n0_
          clear n0_
          (try clear hb)
          (try clear hb2)
          (try clear hk)
          (try clear hi)
          refine hK.out _ _ ⟨(cu_ HB.out hw272_0), (cu_ HB.out hw272_1), (cu_ HB.out hw272_2), (cu_ HB.out hw272_3), (cu_ HB.out hw272_4), (cu_ HB.out hw272_5)⟩ (fun hHeld => ?_)
          clear hK K
          refine norm_ (a' := ?_) ?_ ?_
          rotate_left
          ·show Act.put _ (some 18) _ = _
           pw_
          refine pure_ (i := 7) (N := some 19) (v := ?_) (a' := ?_) laws_heldSoundS.z8 rfl rfl (any_of HT_.out (by kernel_rfl)) (fun _ _ _ h => h) (Or.inl ⟨by rfl, ?_⟩) ?_ ?_
          pv_
          refine done_ (done_of HT_.out (by kernel_rfl)) ?_
          have p274 : 0 ≤ (x5_1 : Int) := of_decide_eq_true (by first | (with_reducible assumption) | assumption)
          have q274 : x5_1 < (l0.length : Int) := of_decide_eq_true (by first | (with_reducible assumption) | assumption)
          obtain ⟨ad274, A274_1, c274_1, e274, hx274_0, hx274_1, hx274_2, hx274_3, hx274_4, hx274_5, hl274_1, hi274_1⟩ := at_T49 HR0.out x5_1 p274 q274
          obtain rfl : ad272 = ad274 := (by injection e274)
          try obtain ⟨rfl, rfl⟩ : A274_1 = A272_1 ∧ c274_1 = c272_1 := (by have e_ := Option.some.inj (hw272_1.symm.trans hx274_1); injection e_ with e1_ e2_ e3_; exact ⟨e1_.symm, e3_.symm⟩)
          replace hx274_0 := (HB.out.cell (World.block_lt_of_cell? w _ hx274_0)).trans hx274_0
          replace hx274_1 := (HB.out.cell (World.block_lt_of_cell? w _ hx274_1)).trans hx274_1
          replace hx274_2 := (HB.out.cell (World.block_lt_of_cell? w _ hx274_2)).trans hx274_2
          replace hx274_3 := (HB.out.cell (World.block_lt_of_cell? w _ hx274_3)).trans hx274_3
          replace hx274_4 := (HB.out.cell (World.block_lt_of_cell? w _ hx274_4)).trans hx274_4
          replace hx274_5 := (HB.out.cell (World.block_lt_of_cell? w _ hx274_5)).trans hx274_5
          have HR274_1 := Aside0.mk hi274_1
          have HC274_1 := Aside0.mk hl274_1
          clear hi274_1 hl274_1
          replace p274 := eq_true p274
          replace q274 := eq_true q274
          try go_wp2_with (first | ((with_reducible refine gate_callee (f := 52) rfl ?_); refine goesL_ (some 28) rfl rfl Try.func52 (by kernel_rfl) rfl #[.slice A274_1 ((rd_T49 l0 x5_1).f1).length c274_1, .int .i64 (wrap64 (x1_1 + 1))] rfl (by (try simp only [List.map_toArray, List.map_cons, List.map_nil]); first | done | rfl | (simp only [List.length_drop, List.length_take]; rfl)) ?_; (with_reducible refine (laws_heldFloat32S.calls k1 _ _ ((rd_T49 l0 x5_1).f1) (wrap64 (x1_1 + 1)) t275 _ ?side1 ?side2 A7.out).mono ?_); (case side1 => repeat (first | exact (Kd.C_below HR274_1.out HB.out) | (with_reducible refine Kd.C_alloc ?_ _) | (with_reducible refine Kd.C_drewN ?_ _) | (with_reducible refine Kd.C_drew ?_))); (case side2 => exact HC274_1.out); rintro e w' ⟨rfl, ⟨nd, rfl⟩⟩; refine ⟨_, rfl, ?_⟩; have p276 : 0 ≤ (x5_1 : Int) := of_decide_eq_true (by first | (with_reducible assumption) | assumption); have q276 : x5_1 < (l0.length : Int) := of_decide_eq_true (by first | (with_reducible assumption) | assumption); obtain ⟨ad276, A276_1, c276_1, e276, hx276_0, hx276_1, hx276_2, hx276_3, hx276_4, hx276_5, hl276_1, hi276_1⟩ := at_T49 HR0.out x5_1 p276 q276; obtain rfl : ad272 = ad276 := (by injection e276); replace hx276_0 := (HB.out.cell (World.block_lt_of_cell? w _ hx276_0)).trans hx276_0; replace hx276_1 := (HB.out.cell (World.block_lt_of_cell? w _ hx276_1)).trans hx276_1; replace hx276_2 := (HB.out.cell (World.block_lt_of_cell? w _ hx276_2)).trans hx276_2; replace hx276_3 := (HB.out.cell (World.block_lt_of_cell? w _ hx276_3)).trans hx276_3; replace hx276_4 := (HB.out.cell (World.block_lt_of_cell? w _ hx276_4)).trans hx276_4; replace hx276_5 := (HB.out.cell (World.block_lt_of_cell? w _ hx276_5)).trans hx276_5; have HR276_1 := Aside0.mk hi276_1; have HC276_1 := Aside0.mk hl276_1; clear hi276_1 hl276_1; replace p276 := eq_true p276; replace q276 := eq_true q276; have ea_ := Option.some.inj (hx274_1.symm.trans hx276_1); injection ea_ with ea_ en_ ec_; subst ea_; subst ec_; clear en_; have p277 : 0 ≤ (x5_1 : Int) := of_decide_eq_true (by first | (with_reducible assumption) | assumption); have q277 : x5_1 < (l0.length : Int) := of_decide_eq_true (by first | (with_reducible assumption) | assumption); obtain ⟨ad277, A277_1, c277_1, e277, hx277_0, hx277_1, hx277_2, hx277_3, hx277_4, hx277_5, hl277_1, hi277_1⟩ := at_T49 HR0.out x5_1 p277 q277; obtain rfl : ad272 = ad277 := (by injection e277); replace hx277_0 := (HB.out.cell (World.block_lt_of_cell? w _ hx277_0)).trans hx277_0; replace hx277_1 := (HB.out.cell (World.block_lt_of_cell? w _ hx277_1)).trans hx277_1; replace hx277_2 := (HB.out.cell (World.block_lt_of_cell? w _ hx277_2)).trans hx277_2; replace hx277_3 := (HB.out.cell (World.block_lt_of_cell? w _ hx277_3)).trans hx277_3; replace hx277_4 := (HB.out.cell (World.block_lt_of_cell? w _ hx277_4)).trans hx277_4; replace hx277_5 := (HB.out.cell (World.block_lt_of_cell? w _ hx277_5)).trans hx277_5; have HR277_1 := Aside0.mk hi277_1; have HC277_1 := Aside0.mk hl277_1; clear hi277_1 hl277_1; replace p277 := eq_true p277; replace q277 := eq_true q277; have ea_ := Option.some.inj (hx274_1.symm.trans hx277_1); injection ea_ with ea_ en_ ec_; subst ea_; subst ec_; clear en_; have p278 : 0 ≤ (x5_1 : Int) := of_decide_eq_true (by first | (with_reducible assumption) | assumption); have q278 : x5_1 < (l0.length : Int) := of_decide_eq_true (by first | (with_reducible assumption) | assumption); obtain ⟨ad278, A278_1, c278_1, e278, hx278_0, hx278_1, hx278_2, hx278_3, hx278_4, hx278_5, hl278_1, hi278_1⟩ := at_T49 HR0.out x5_1 p278 q278; obtain rfl : ad272 = ad278 := (by injection e278); replace hx278_0 := (HB.out.cell (World.block_lt_of_cell? w _ hx278_0)).trans hx278_0; replace hx278_1 := (HB.out.cell (World.block_lt_of_cell? w _ hx278_1)).trans hx278_1; replace hx278_2 := (HB.out.cell (World.block_lt_of_cell? w _ hx278_2)).trans hx278_2; replace hx278_3 := (HB.out.cell (World.block_lt_of_cell? w _ hx278_3)).trans hx278_3; replace hx278_4 := (HB.out.cell (World.block_lt_of_cell? w _ hx278_4)).trans hx278_4; replace hx278_5 := (HB.out.cell (World.block_lt_of_cell? w _ hx278_5)).trans hx278_5; have HR278_1 := Aside0.mk hi278_1; have HC278_1 := Aside0.mk hl278_1; clear hi278_1 hl278_1; replace p278 := eq_true p278; replace q278 := eq_true q278; have ea_ := Option.some.inj (hx274_1.symm.trans hx278_1); injection ea_ with ea_ en_ ec_; subst ea_; subst ec_; clear en_))
          go_ret
          exact ⟨by first | rfl | (simp [errW_none, errW_some] <;> rfl) | (simp [*, errW_none, errW_some] <;> rfl), by repeat (first | (with_reducible first | exact HB.out | apply below_alloc | apply pw_below_drewN | apply below_drew1) | exact HB.out)⟩
         ·rw [if_neg c17] at H
          have c17b0 : (fne .f32 ((rd_T49 l0 x5_1).f4) (floatOfInt .f32 (wrap64 ((wrap64 (t275 + 1)) + 1)))) = false := by simpa using c17
          clear c17
          by_cases c20 : (fne .f32 ((rd_T49 l0 x5_1).f5) (floatOfInt .f32 (wrap64 ((wrap64 ((wrap64 (t275 + 1)) + 1)) + 1)))) = true
          ·rw [if_pos c20] at H
           have c20b0 : (fne .f32 ((rd_T49 l0 x5_1).f5) (floatOfInt .f32 (wrap64 ((wrap64 ((wrap64 (t275 + 1)) + 1)) + 1)))) = true := c20
           clear c20
           obtain rfl := Option.some.inj H
           try go_wp2
           have n0_ := Aside0.mk (below_drew1 HB.out)
           clear HB
           have HB := n0_
           clear n0_
           have p272 : 0 ≤ (x5_1 : Int) := of_decide_eq_true (by first | (with_reducible assumption) | assumption)
           have q272 : x5_1 < (l0.length : Int) := of_decide_eq_true (by first | (with_reducible assumption) | assumption)
           obtain ⟨ad272, A272_1, c272_1, e272, hx272_0, hx272_1, hx272_2, hx272_3, hx272_4, hx272_5, hl272_1, hi272_1⟩ := at_T49 HR0.out x5_1 p272 q272
           have hw272_5 := hx272_5
           have hw272_4 := hx272_4
           have hw272_3 := hx272_3
           have hw272_2 := hx272_2
           have hw272_1 := hx272_1
           have hw272_0 := hx272_0
           cases e272
           replace hx272_0 := (HB.out.cell (World.block_lt_of_cell? w _ hx272_0)).trans hx272_0
           replace hx272_1 := (HB.out.cell (World.block_lt_of_cell? w _ hx272_1)).trans hx272_1
           replace hx272_2 := (HB.out.cell (World.block_lt_of_cell? w _ hx272_2)).trans hx272_2
           replace hx272_3 := (HB.out.cell (World.block_lt_of_cell? w _ hx272_3)).trans hx272_3
           replace hx272_4 := (HB.out.cell (World.block_lt_of_cell? w _ hx272_4)).trans hx272_4
           replace hx272_5 := (HB.out.cell (World.block_lt_of_cell? w _ hx272_5)).trans hx272_5
           have HR272_1 := Aside0.mk hi272_1
           have HC272_1 := Aside0.mk hl272_1
           clear hi272_1 hl272_1
           replace p272 := eq_true p272
           replace q272 := eq_true q272
           refine start_ (n := 8) (S := fun w' => w'.cell? (ad272.add ((x5_1).toNat * 6)) = some (.string ((rd_T49 l0 x5_1).f0)) ∧ w'.cell? ⟨(ad272.add ((x5_1).toNat * 6)).block, (ad272.add ((x5_1).toNat * 6)).off + 1, none⟩ = some (.slice A272_1 ((rd_T49 l0 x5_1).f1).length c272_1) ∧ w'.cell? ⟨(ad272.add ((x5_1).toNat * 6)).block, (ad272.add ((x5_1).toNat * 6)).off + 2, none⟩ = some (.float .f32 ((rd_T49 l0 x5_1).f2)) ∧ w'.cell? ⟨(ad272.add ((x5_1).toNat * 6)).block, (ad272.add ((x5_1).toNat * 6)).off + 3, none⟩ = some (.float .f32 ((rd_T49 l0 x5_1).f3)) ∧ w'.cell? ⟨(ad272.add ((x5_1).toNat * 6)).block, (ad272.add ((x5_1).toNat * 6)).off + 4, none⟩ = some (.float .f32 ((rd_T49 l0 x5_1).f4)) ∧ w'.cell? ⟨(ad272.add ((x5_1).toNat * 6)).block, (ad272.add ((x5_1).toNat * 6)).off + 5, none⟩ = some (.float .f32 ((rd_T49 l0 x5_1).f5))) (ds := []) laws_heldSoundS.z0 (by kernel_rfl) rfl rfl ⟨(cu_ HB.out hw272_0), (cu_ HB.out hw272_1), (cu_ HB.out hw272_2), (cu_ HB.out hw272_3), (cu_ HB.out hw272_4), (cu_ HB.out hw272_5)⟩ (fun hHeld => ?_); refine with_tabW laws_heldSoundS.tab4 laws_heldSoundS.bits4 (fun HT_ HW_ => ?_)
           generalize wr.drew = w21 at HB HR272_1 hx272_0 hx272_1 hx272_2 hx272_3 hx272_4 hx272_5 hHeld ⊢
           refine pure_ (i := 0) (N := some 12) (v := ?_) (a' := ?_) laws_heldSoundS.z1 rfl rfl (any_of HT_.out (by kernel_rfl)) (fun _ _ _ h => h) (Or.inl ⟨by rfl, ?_⟩) ?_ ?_
           pv_
           refine pure_ (i := 1) (N := some 13) (v := ?_) (a' := ?_) laws_heldSoundS.z2 rfl rfl (any_of HT_.out (by kernel_rfl)) (fun _ _ _ h => h) (Or.inl ⟨by rfl, ?_⟩) ?_ ?_
           pv_
           refine pure_ (i := 2) (N := some 14) (v := ?_) (a' := ?_) laws_heldSoundS.z3 rfl rfl (any_of HT_.out (by kernel_rfl)) (fun _ _ _ h => h) (Or.inl ⟨by rfl, ?_⟩) ?_ ?_
           pv_
           refine pure_ (i := 3) (N := some 15) (v := ?_) (a' := ?_) laws_heldSoundS.z4 rfl rfl (any_of HT_.out (by kernel_rfl)) (fun _ _ _ h => h) (Or.inl ⟨by rfl, ?_⟩) ?_ ?_
           pv_
           refine pure_ (i := 5) (N := some 17) (v := ?_) (a' := ?_) laws_heldSoundS.z5 rfl rfl (any_of HT_.out (by kernel_rfl)) (fun _ _ _ h => h) (Or.inl ⟨by rfl, ?_⟩) ?_ ?_
           pv_
           refine take_ (i := 4) (N := some 16) (v := ?_) (a' := ?_) laws_heldSoundS.z6 rfl rfl (take_ofW HT_.out HW_.out (by kernel_rfl)) (fun _ _ _ h => h) (Or.inl ⟨by rfl, ?_⟩) hHeld ?_ ?_
           rotate_left
           ·rintro w' ⟨s0, s1, s2, s3, s4, s5⟩
            go_simp
            with_reducible rfl
           rotate_left
           ·pw_
           refine one_ (i := 6) (N := some 18) laws_heldSoundS.z7 rfl rfl (one_of HT_.out (by kernel_rfl)) (by decide) (fun K hK => ?_)
           refine goes_ Try.func51 (by kernel_rfl) rfl #[.int .i64 x1_1] (by rfl) rfl rfl (by (try simp only [List.map_toArray, List.map_cons, List.map_nil]); first | done | rfl | (simp only [List.length_drop, List.length_take]; rfl)) ?_
           with_reducible refine (laws_markText.calls k1 x1_1 t273 _ A5.out).mono ?_
           rintro e w22 ⟨rfl, hb⟩
           refine ⟨_, rfl, ?_⟩
           have n0_ := Aside0.mk (below_step (by repeat (first | (with_reducible first | exact HB.out | apply below_alloc | apply pw_below_drewN | apply below_drew1) | exact HB.out)) hb)
           clear HB
           have HB := n0_
           clear n0_
           (try clear hb)
           (try clear hb2)
           (try clear hk)
           (try clear hi)
           refine hK.out _ _ ⟨(cu_ HB.out hw272_0), (cu_ HB.out hw272_1), (cu_ HB.out hw272_2), (cu_ HB.out hw272_3), (cu_ HB.out hw272_4), (cu_ HB.out hw272_5)⟩ (fun hHeld => ?_)
           clear hK K
           refine norm_ (a' := ?_) ?_ ?_
           rotate_left
           ·show Act.put _ (some 18) _ = _
            pw_
           refine pure_ (i := 7) (N := some 19) (v := ?_) (a' := ?_) laws_heldSoundS.z8 rfl rfl (any_of HT_.out (by kernel_rfl)) (fun _ _ _ h => h) (Or.inl ⟨by rfl, ?_⟩) ?_ ?_
           pv_
           refine done_ (done_of HT_.out (by kernel_rfl)) ?_
           have p274 : 0 ≤ (x5_1 : Int) := of_decide_eq_true (by first | (with_reducible assumption) | assumption)
           have q274 : x5_1 < (l0.length : Int) := of_decide_eq_true (by first | (with_reducible assumption) | assumption)
           obtain ⟨ad274, A274_1, c274_1, e274, hx274_0, hx274_1, hx274_2, hx274_3, hx274_4, hx274_5, hl274_1, hi274_1⟩ := at_T49 HR0.out x5_1 p274 q274
           obtain rfl : ad272 = ad274 := (by injection e274)
           try obtain ⟨rfl, rfl⟩ : A274_1 = A272_1 ∧ c274_1 = c272_1 := (by have e_ := Option.some.inj (hw272_1.symm.trans hx274_1); injection e_ with e1_ e2_ e3_; exact ⟨e1_.symm, e3_.symm⟩)
           replace hx274_0 := (HB.out.cell (World.block_lt_of_cell? w _ hx274_0)).trans hx274_0
           replace hx274_1 := (HB.out.cell (World.block_lt_of_cell? w _ hx274_1)).trans hx274_1
           replace hx274_2 := (HB.out.cell (World.block_lt_of_cell? w _ hx274_2)).trans hx274_2
           replace hx274_3 := (HB.out.cell (World.block_lt_of_cell? w _ hx274_3)).trans hx274_3
           replace hx274_4 := (HB.out.cell (World.block_lt_of_cell? w _ hx274_4)).trans hx274_4
           replace hx274_5 := (HB.out.cell (World.block_lt_of_cell? w _ hx274_5)).trans hx274_5
           have HR274_1 := Aside0.mk hi274_1
           have HC274_1 := Aside0.mk hl274_1
           clear hi274_1 hl274_1
           replace p274 := eq_true p274
           replace q274 := eq_true q274
           try go_wp2_with (first | ((with_reducible refine gate_callee (f := 52) rfl ?_); refine goesL_ (some 28) rfl rfl Try.func52 (by kernel_rfl) rfl #[.slice A274_1 ((rd_T49 l0 x5_1).f1).length c274_1, .int .i64 (wrap64 (x1_1 + 1))] rfl (by (try simp only [List.map_toArray, List.map_cons, List.map_nil]); first | done | rfl | (simp only [List.length_drop, List.length_take]; rfl)) ?_; (with_reducible refine (laws_heldFloat32S.calls k1 _ _ ((rd_T49 l0 x5_1).f1) (wrap64 (x1_1 + 1)) t275 _ ?side1 ?side2 A7.out).mono ?_); (case side1 => repeat (first | exact (Kd.C_below HR274_1.out HB.out) | (with_reducible refine Kd.C_alloc ?_ _) | (with_reducible refine Kd.C_drewN ?_ _) | (with_reducible refine Kd.C_drew ?_))); (case side2 => exact HC274_1.out); rintro e w' ⟨rfl, ⟨nd, rfl⟩⟩; refine ⟨_, rfl, ?_⟩; have p276 : 0 ≤ (x5_1 : Int) := of_decide_eq_true (by first | (with_reducible assumption) | assumption); have q276 : x5_1 < (l0.length : Int) := of_decide_eq_true (by first | (with_reducible assumption) | assumption); obtain ⟨ad276, A276_1, c276_1, e276, hx276_0, hx276_1, hx276_2, hx276_3, hx276_4, hx276_5, hl276_1, hi276_1⟩ := at_T49 HR0.out x5_1 p276 q276; obtain rfl : ad272 = ad276 := (by injection e276); replace hx276_0 := (HB.out.cell (World.block_lt_of_cell? w _ hx276_0)).trans hx276_0; replace hx276_1 := (HB.out.cell (World.block_lt_of_cell? w _ hx276_1)).trans hx276_1; replace hx276_2 := (HB.out.cell (World.block_lt_of_cell? w _ hx276_2)).trans hx276_2; replace hx276_3 := (HB.out.cell (World.block_lt_of_cell? w _ hx276_3)).trans hx276_3; replace hx276_4 := (HB.out.cell (World.block_lt_of_cell? w _ hx276_4)).trans hx276_4; replace hx276_5 := (HB.out.cell (World.block_lt_of_cell? w _ hx276_5)).trans hx276_5; have HR276_1 := Aside0.mk hi276_1; have HC276_1 := Aside0.mk hl276_1; clear hi276_1 hl276_1; replace p276 := eq_true p276; replace q276 := eq_true q276; have ea_ := Option.some.inj (hx274_1.symm.trans hx276_1); injection ea_ with ea_ en_ ec_; subst ea_; subst ec_; clear en_; have p277 : 0 ≤ (x5_1 : Int) := of_decide_eq_true (by first | (with_reducible assumption) | assumption); have q277 : x5_1 < (l0.length : Int) := of_decide_eq_true (by first | (with_reducible assumption) | assumption); obtain ⟨ad277, A277_1, c277_1, e277, hx277_0, hx277_1, hx277_2, hx277_3, hx277_4, hx277_5, hl277_1, hi277_1⟩ := at_T49 HR0.out x5_1 p277 q277; obtain rfl : ad272 = ad277 := (by injection e277); replace hx277_0 := (HB.out.cell (World.block_lt_of_cell? w _ hx277_0)).trans hx277_0; replace hx277_1 := (HB.out.cell (World.block_lt_of_cell? w _ hx277_1)).trans hx277_1; replace hx277_2 := (HB.out.cell (World.block_lt_of_cell? w _ hx277_2)).trans hx277_2; replace hx277_3 := (HB.out.cell (World.block_lt_of_cell? w _ hx277_3)).trans hx277_3; replace hx277_4 := (HB.out.cell (World.block_lt_of_cell? w _ hx277_4)).trans hx277_4; replace hx277_5 := (HB.out.cell (World.block_lt_of_cell? w _ hx277_5)).trans hx277_5; have HR277_1 := Aside0.mk hi277_1; have HC277_1 := Aside0.mk hl277_1; clear hi277_1 hl277_1; replace p277 := eq_true p277; replace q277 := eq_true q277; have ea_ := Option.some.inj (hx274_1.symm.trans hx277_1); injection ea_ with ea_ en_ ec_; subst ea_; subst ec_; clear en_; have p278 : 0 ≤ (x5_1 : Int) := of_decide_eq_true (by first | (with_reducible assumption) | assumption); have q278 : x5_1 < (l0.length : Int) := of_decide_eq_true (by first | (with_reducible assumption) | assumption); obtain ⟨ad278, A278_1, c278_1, e278, hx278_0, hx278_1, hx278_2, hx278_3, hx278_4, hx278_5, hl278_1, hi278_1⟩ := at_T49 HR0.out x5_1 p278 q278; obtain rfl : ad272 = ad278 := (by injection e278); replace hx278_0 := (HB.out.cell (World.block_lt_of_cell? w _ hx278_0)).trans hx278_0; replace hx278_1 := (HB.out.cell (World.block_lt_of_cell? w _ hx278_1)).trans hx278_1; replace hx278_2 := (HB.out.cell (World.block_lt_of_cell? w _ hx278_2)).trans hx278_2; replace hx278_3 := (HB.out.cell (World.block_lt_of_cell? w _ hx278_3)).trans hx278_3; replace hx278_4 := (HB.out.cell (World.block_lt_of_cell? w _ hx278_4)).trans hx278_4; replace hx278_5 := (HB.out.cell (World.block_lt_of_cell? w _ hx278_5)).trans hx278_5; have HR278_1 := Aside0.mk hi278_1; have HC278_1 := Aside0.mk hl278_1; clear hi278_1 hl278_1; replace p278 := eq_true p278; replace q278 := eq_true q278; have ea_ := Option.some.inj (hx274_1.symm.trans hx278_1); injection ea_ with ea_ en_ ec_; subst ea_; subst ec_; clear en_; have p279 : 0 ≤ (x5_1 : Int) := of_decide_eq_true (by first | (with_reducible assumption) | assumption); have q279 : x5_1 < (l0.length : Int) := of_decide_eq_true (by first | (with_reducible assumption) | assumption); obtain ⟨ad279, A279_1, c279_1, e279, hx279_0, hx279_1, hx279_2, hx279_3, hx279_4, hx279_5, hl279_1, hi279_1⟩ := at_T49 HR0.out x5_1 p279 q279; obtain rfl : ad272 = ad279 := (by injection e279); replace hx279_0 := (HB.out.cell (World.block_lt_of_cell? w _ hx279_0)).trans hx279_0; replace hx279_1 := (HB.out.cell (World.block_lt_of_cell? w _ hx279_1)).trans hx279_1; replace hx279_2 := (HB.out.cell (World.block_lt_of_cell? w _ hx279_2)).trans hx279_2; replace hx279_3 := (HB.out.cell (World.block_lt_of_cell? w _ hx279_3)).trans hx279_3; replace hx279_4 := (HB.out.cell (World.block_lt_of_cell? w _ hx279_4)).trans hx279_4; replace hx279_5 := (HB.out.cell (World.block_lt_of_cell? w _ hx279_5)).trans hx279_5; have HR279_1 := Aside0.mk hi279_1; have HC279_1 := Aside0.mk hl279_1; clear hi279_1 hl279_1; replace p279 := eq_true p279; replace q279 := eq_true q279; have ea_ := Option.some.inj (hx274_1.symm.trans hx279_1); injection ea_ with ea_ en_ ec_; subst ea_; subst ec_; clear en_))
           go_ret
           exact ⟨by first | rfl | (simp [errW_none, errW_some] <;> rfl) | (simp [*, errW_none, errW_some] <;> rfl), by repeat (first | (with_reducible first | exact HB.out | apply below_alloc | apply pw_below_drewN | apply below_drew1) | exact HB.out)⟩
          ·rw [if_neg c20] at H
           have c20b0 : (fne .f32 ((rd_T49 l0 x5_1).f5) (floatOfInt .f32 (wrap64 ((wrap64 ((wrap64 (t275 + 1)) + 1)) + 1)))) = false := by simpa using c20
           clear c20
           have H' := Aside0.mk H
           clear H
           try go_wp2
           have n0_ := Aside0.mk (below_drew1 HB.out)
           clear HB
           have HB := n0_
           clear n0_
           have p272 : 0 ≤ (x5_1 : Int) := of_decide_eq_true (by first | (with_reducible assumption) | assumption)
           have q272 : x5_1 < (l0.length : Int) := of_decide_eq_true (by first | (with_reducible assumption) | assumption)
           obtain ⟨ad272, A272_1, c272_1, e272, hx272_0, hx272_1, hx272_2, hx272_3, hx272_4, hx272_5, hl272_1, hi272_1⟩ := at_T49 HR0.out x5_1 p272 q272
           have hw272_5 := hx272_5
           have hw272_4 := hx272_4
           have hw272_3 := hx272_3
           have hw272_2 := hx272_2
           have hw272_1 := hx272_1
           have hw272_0 := hx272_0
           cases e272
           replace hx272_0 := (HB.out.cell (World.block_lt_of_cell? w _ hx272_0)).trans hx272_0
           replace hx272_1 := (HB.out.cell (World.block_lt_of_cell? w _ hx272_1)).trans hx272_1
           replace hx272_2 := (HB.out.cell (World.block_lt_of_cell? w _ hx272_2)).trans hx272_2
           replace hx272_3 := (HB.out.cell (World.block_lt_of_cell? w _ hx272_3)).trans hx272_3
           replace hx272_4 := (HB.out.cell (World.block_lt_of_cell? w _ hx272_4)).trans hx272_4
           replace hx272_5 := (HB.out.cell (World.block_lt_of_cell? w _ hx272_5)).trans hx272_5
           have HR272_1 := Aside0.mk hi272_1
           have HC272_1 := Aside0.mk hl272_1
           clear hi272_1 hl272_1
           replace p272 := eq_true p272
           replace q272 := eq_true q272
           refine start_ (n := 8) (S := fun w' => w'.cell? (ad272.add ((x5_1).toNat * 6)) = some (.string ((rd_T49 l0 x5_1).f0)) ∧ w'.cell? ⟨(ad272.add ((x5_1).toNat * 6)).block, (ad272.add ((x5_1).toNat * 6)).off + 1, none⟩ = some (.slice A272_1 ((rd_T49 l0 x5_1).f1).length c272_1) ∧ w'.cell? ⟨(ad272.add ((x5_1).toNat * 6)).block, (ad272.add ((x5_1).toNat * 6)).off + 2, none⟩ = some (.float .f32 ((rd_T49 l0 x5_1).f2)) ∧ w'.cell? ⟨(ad272.add ((x5_1).toNat * 6)).block, (ad272.add ((x5_1).toNat * 6)).off + 3, none⟩ = some (.float .f32 ((rd_T49 l0 x5_1).f3)) ∧ w'.cell? ⟨(ad272.add ((x5_1).toNat * 6)).block, (ad272.add ((x5_1).toNat * 6)).off + 4, none⟩ = some (.float .f32 ((rd_T49 l0 x5_1).f4)) ∧ w'.cell? ⟨(ad272.add ((x5_1).toNat * 6)).block, (ad272.add ((x5_1).toNat * 6)).off + 5, none⟩ = some (.float .f32 ((rd_T49 l0 x5_1).f5))) (ds := []) laws_heldSoundS.z0 (by kernel_rfl) rfl rfl ⟨(cu_ HB.out hw272_0), (cu_ HB.out hw272_1), (cu_ HB.out hw272_2), (cu_ HB.out hw272_3), (cu_ HB.out hw272_4), (cu_ HB.out hw272_5)⟩ (fun hHeld => ?_); refine with_tabW laws_heldSoundS.tab4 laws_heldSoundS.bits4 (fun HT_ HW_ => ?_)
           generalize wr.drew = w23 at HB HR272_1 hx272_0 hx272_1 hx272_2 hx272_3 hx272_4 hx272_5 hHeld ⊢
           refine pure_ (i := 0) (N := some 12) (v := ?_) (a' := ?_) laws_heldSoundS.z1 rfl rfl (any_of HT_.out (by kernel_rfl)) (fun _ _ _ h => h) (Or.inl ⟨by rfl, ?_⟩) ?_ ?_
           pv_
           refine pure_ (i := 1) (N := some 13) (v := ?_) (a' := ?_) laws_heldSoundS.z2 rfl rfl (any_of HT_.out (by kernel_rfl)) (fun _ _ _ h => h) (Or.inl ⟨by rfl, ?_⟩) ?_ ?_
           pv_
           refine pure_ (i := 2) (N := some 14) (v := ?_) (a' := ?_) laws_heldSoundS.z3 rfl rfl (any_of HT_.out (by kernel_rfl)) (fun _ _ _ h => h) (Or.inl ⟨by rfl, ?_⟩) ?_ ?_
           pv_
           refine pure_ (i := 3) (N := some 15) (v := ?_) (a' := ?_) laws_heldSoundS.z4 rfl rfl (any_of HT_.out (by kernel_rfl)) (fun _ _ _ h => h) (Or.inl ⟨by rfl, ?_⟩) ?_ ?_
           pv_
           refine pure_ (i := 5) (N := some 17) (v := ?_) (a' := ?_) laws_heldSoundS.z5 rfl rfl (any_of HT_.out (by kernel_rfl)) (fun _ _ _ h => h) (Or.inl ⟨by rfl, ?_⟩) ?_ ?_
           pv_
           refine take_ (i := 4) (N := some 16) (v := ?_) (a' := ?_) laws_heldSoundS.z6 rfl rfl (take_ofW HT_.out HW_.out (by kernel_rfl)) (fun _ _ _ h => h) (Or.inl ⟨by rfl, ?_⟩) hHeld ?_ ?_
           rotate_left
           ·rintro w' ⟨s0, s1, s2, s3, s4, s5⟩
            go_simp
            with_reducible rfl
           rotate_left
           ·pw_
           refine one_ (i := 6) (N := some 18) laws_heldSoundS.z7 rfl rfl (one_of HT_.out (by kernel_rfl)) (by decide) (fun K hK => ?_)
           refine goes_ Try.func51 (by kernel_rfl) rfl #[.int .i64 x1_1] (by rfl) rfl rfl (by (try simp only [List.map_toArray, List.map_cons, List.map_nil]); first | done | rfl | (simp only [List.length_drop, List.length_take]; rfl)) ?_
           with_reducible refine (laws_markText.calls k1 x1_1 t273 _ A5.out).mono ?_
           rintro e w24 ⟨rfl, hb⟩
           refine ⟨_, rfl, ?_⟩
           have n0_ := Aside0.mk (below_step (by repeat (first | (with_reducible first | exact HB.out | apply below_alloc | apply pw_below_drewN | apply below_drew1) | exact HB.out)) hb)
           clear HB
           have HB := n0_
           clear n0_
           (try clear hb)
           (try clear hb2)
           (try clear hk)
           (try clear hi)
           refine hK.out _ _ ⟨(cu_ HB.out hw272_0), (cu_ HB.out hw272_1), (cu_ HB.out hw272_2), (cu_ HB.out hw272_3), (cu_ HB.out hw272_4), (cu_ HB.out hw272_5)⟩ (fun hHeld => ?_)
           clear hK K
           refine norm_ (a' := ?_) ?_ ?_
           rotate_left
           ·show Act.put _ (some 18) _ = _
            pw_
           refine pure_ (i := 7) (N := some 19) (v := ?_) (a' := ?_) laws_heldSoundS.z8 rfl rfl (any_of HT_.out (by kernel_rfl)) (fun _ _ _ h => h) (Or.inl ⟨by rfl, ?_⟩) ?_ ?_
           pv_
           refine done_ (done_of HT_.out (by kernel_rfl)) ?_
           have p274 : 0 ≤ (x5_1 : Int) := of_decide_eq_true (by first | (with_reducible assumption) | assumption)
           have q274 : x5_1 < (l0.length : Int) := of_decide_eq_true (by first | (with_reducible assumption) | assumption)
           obtain ⟨ad274, A274_1, c274_1, e274, hx274_0, hx274_1, hx274_2, hx274_3, hx274_4, hx274_5, hl274_1, hi274_1⟩ := at_T49 HR0.out x5_1 p274 q274
           obtain rfl : ad272 = ad274 := (by injection e274)
           try obtain ⟨rfl, rfl⟩ : A274_1 = A272_1 ∧ c274_1 = c272_1 := (by have e_ := Option.some.inj (hw272_1.symm.trans hx274_1); injection e_ with e1_ e2_ e3_; exact ⟨e1_.symm, e3_.symm⟩)
           replace hx274_0 := (HB.out.cell (World.block_lt_of_cell? w _ hx274_0)).trans hx274_0
           replace hx274_1 := (HB.out.cell (World.block_lt_of_cell? w _ hx274_1)).trans hx274_1
           replace hx274_2 := (HB.out.cell (World.block_lt_of_cell? w _ hx274_2)).trans hx274_2
           replace hx274_3 := (HB.out.cell (World.block_lt_of_cell? w _ hx274_3)).trans hx274_3
           replace hx274_4 := (HB.out.cell (World.block_lt_of_cell? w _ hx274_4)).trans hx274_4
           replace hx274_5 := (HB.out.cell (World.block_lt_of_cell? w _ hx274_5)).trans hx274_5
           have HR274_1 := Aside0.mk hi274_1
           have HC274_1 := Aside0.mk hl274_1
           clear hi274_1 hl274_1
           replace p274 := eq_true p274
           replace q274 := eq_true q274
           try go_wp2_with (first | ((with_reducible refine gate_callee (f := 52) rfl ?_); refine goesL_ (some 28) rfl rfl Try.func52 (by kernel_rfl) rfl #[.slice A274_1 ((rd_T49 l0 x5_1).f1).length c274_1, .int .i64 (wrap64 (x1_1 + 1))] rfl (by (try simp only [List.map_toArray, List.map_cons, List.map_nil]); first | done | rfl | (simp only [List.length_drop, List.length_take]; rfl)) ?_; (with_reducible refine (laws_heldFloat32S.calls k1 _ _ ((rd_T49 l0 x5_1).f1) (wrap64 (x1_1 + 1)) t275 _ ?side1 ?side2 A7.out).mono ?_); (case side1 => repeat (first | exact (Kd.C_below HR274_1.out HB.out) | (with_reducible refine Kd.C_alloc ?_ _) | (with_reducible refine Kd.C_drewN ?_ _) | (with_reducible refine Kd.C_drew ?_))); (case side2 => exact HC274_1.out); rintro e w' ⟨rfl, ⟨nd, rfl⟩⟩; refine ⟨_, rfl, ?_⟩; have p276 : 0 ≤ (x5_1 : Int) := of_decide_eq_true (by first | (with_reducible assumption) | assumption); have q276 : x5_1 < (l0.length : Int) := of_decide_eq_true (by first | (with_reducible assumption) | assumption); obtain ⟨ad276, A276_1, c276_1, e276, hx276_0, hx276_1, hx276_2, hx276_3, hx276_4, hx276_5, hl276_1, hi276_1⟩ := at_T49 HR0.out x5_1 p276 q276; obtain rfl : ad272 = ad276 := (by injection e276); replace hx276_0 := (HB.out.cell (World.block_lt_of_cell? w _ hx276_0)).trans hx276_0; replace hx276_1 := (HB.out.cell (World.block_lt_of_cell? w _ hx276_1)).trans hx276_1; replace hx276_2 := (HB.out.cell (World.block_lt_of_cell? w _ hx276_2)).trans hx276_2; replace hx276_3 := (HB.out.cell (World.block_lt_of_cell? w _ hx276_3)).trans hx276_3; replace hx276_4 := (HB.out.cell (World.block_lt_of_cell? w _ hx276_4)).trans hx276_4; replace hx276_5 := (HB.out.cell (World.block_lt_of_cell? w _ hx276_5)).trans hx276_5; have HR276_1 := Aside0.mk hi276_1; have HC276_1 := Aside0.mk hl276_1; clear hi276_1 hl276_1; replace p276 := eq_true p276; replace q276 := eq_true q276; have ea_ := Option.some.inj (hx274_1.symm.trans hx276_1); injection ea_ with ea_ en_ ec_; subst ea_; subst ec_; clear en_; have p277 : 0 ≤ (x5_1 : Int) := of_decide_eq_true (by first | (with_reducible assumption) | assumption); have q277 : x5_1 < (l0.length : Int) := of_decide_eq_true (by first | (with_reducible assumption) | assumption); obtain ⟨ad277, A277_1, c277_1, e277, hx277_0, hx277_1, hx277_2, hx277_3, hx277_4, hx277_5, hl277_1, hi277_1⟩ := at_T49 HR0.out x5_1 p277 q277; obtain rfl : ad272 = ad277 := (by injection e277); replace hx277_0 := (HB.out.cell (World.block_lt_of_cell? w _ hx277_0)).trans hx277_0; replace hx277_1 := (HB.out.cell (World.block_lt_of_cell? w _ hx277_1)).trans hx277_1; replace hx277_2 := (HB.out.cell (World.block_lt_of_cell? w _ hx277_2)).trans hx277_2; replace hx277_3 := (HB.out.cell (World.block_lt_of_cell? w _ hx277_3)).trans hx277_3; replace hx277_4 := (HB.out.cell (World.block_lt_of_cell? w _ hx277_4)).trans hx277_4; replace hx277_5 := (HB.out.cell (World.block_lt_of_cell? w _ hx277_5)).trans hx277_5; have HR277_1 := Aside0.mk hi277_1; have HC277_1 := Aside0.mk hl277_1; clear hi277_1 hl277_1; replace p277 := eq_true p277; replace q277 := eq_true q277; have ea_ := Option.some.inj (hx274_1.symm.trans hx277_1); injection ea_ with ea_ en_ ec_; subst ea_; subst ec_; clear en_; have p278 : 0 ≤ (x5_1 : Int) := of_decide_eq_true (by first | (with_reducible assumption) | assumption); have q278 : x5_1 < (l0.length : Int) := of_decide_eq_true (by first | (with_reducible assumption) | assumption); obtain ⟨ad278, A278_1, c278_1, e278, hx278_0, hx278_1, hx278_2, hx278_3, hx278_4, hx278_5, hl278_1, hi278_1⟩ := at_T49 HR0.out x5_1 p278 q278; obtain rfl : ad272 = ad278 := (by injection e278); replace hx278_0 := (HB.out.cell (World.block_lt_of_cell? w _ hx278_0)).trans hx278_0; replace hx278_1 := (HB.out.cell (World.block_lt_of_cell? w _ hx278_1)).trans hx278_1; replace hx278_2 := (HB.out.cell (World.block_lt_of_cell? w _ hx278_2)).trans hx278_2; replace hx278_3 := (HB.out.cell (World.block_lt_of_cell? w _ hx278_3)).trans hx278_3; replace hx278_4 := (HB.out.cell (World.block_lt_of_cell? w _ hx278_4)).trans hx278_4; replace hx278_5 := (HB.out.cell (World.block_lt_of_cell? w _ hx278_5)).trans hx278_5; have HR278_1 := Aside0.mk hi278_1; have HC278_1 := Aside0.mk hl278_1; clear hi278_1 hl278_1; replace p278 := eq_true p278; replace q278 := eq_true q278; have ea_ := Option.some.inj (hx274_1.symm.trans hx278_1); injection ea_ with ea_ en_ ec_; subst ea_; subst ec_; clear en_; have p279 : 0 ≤ (x5_1 : Int) := of_decide_eq_true (by first | (with_reducible assumption) | assumption); have q279 : x5_1 < (l0.length : Int) := of_decide_eq_true (by first | (with_reducible assumption) | assumption); obtain ⟨ad279, A279_1, c279_1, e279, hx279_0, hx279_1, hx279_2, hx279_3, hx279_4, hx279_5, hl279_1, hi279_1⟩ := at_T49 HR0.out x5_1 p279 q279; obtain rfl : ad272 = ad279 := (by injection e279); replace hx279_0 := (HB.out.cell (World.block_lt_of_cell? w _ hx279_0)).trans hx279_0; replace hx279_1 := (HB.out.cell (World.block_lt_of_cell? w _ hx279_1)).trans hx279_1; replace hx279_2 := (HB.out.cell (World.block_lt_of_cell? w _ hx279_2)).trans hx279_2; replace hx279_3 := (HB.out.cell (World.block_lt_of_cell? w _ hx279_3)).trans hx279_3; replace hx279_4 := (HB.out.cell (World.block_lt_of_cell? w _ hx279_4)).trans hx279_4; replace hx279_5 := (HB.out.cell (World.block_lt_of_cell? w _ hx279_5)).trans hx279_5; have HR279_1 := Aside0.mk hi279_1; have HC279_1 := Aside0.mk hl279_1; clear hi279_1 hl279_1; replace p279 := eq_true p279; replace q279 := eq_true q279; have ea_ := Option.some.inj (hx274_1.symm.trans hx279_1); injection ea_ with ea_ en_ ec_; subst ea_; subst ec_; clear en_))
           go_roundg k1
           case measure => have := HK1.out; omega
           case rel => exact ⟨(wrap64 ((wrap64 ((wrap64 ((wrap64 (t275 + 1)) + 1)) + 1)) + 1)), (wrap64 (x5_1 + 1)), (by first | rfl | (simp; done) | (simp [*]; done)), (by first | rfl | (simp; done) | (simp [*]; done)), H', ⟨by have := HK1.out; omega⟩, ⟨by repeat (first | (with_reducible first | exact HB.out | apply below_alloc | apply pw_below_drewN | apply below_drew1) | exact HB.out)⟩⟩
     ·rw [if_neg c6] at H
      have c6b0 : (((rd_T49 l0 x5_1).f0).toList == t273.toList) = false := beq_eq_false_iff_ne.mpr c6
      have c6b1 : (((rd_T49 l0 x5_1).f0).toList != t273.toList) = true := bne_iff_ne.mpr c6
      obtain rfl := Option.some.inj H
      try go_wp2
      have n0_ := Aside0.mk (below_drew1 HB.out)
      clear HB
      have HB := n0_
      clear n0_
      have p272 : 0 ≤ (x5_1 : Int) := of_decide_eq_true (by first | (with_reducible assumption) | assumption)
      have q272 : x5_1 < (l0.length : Int) := of_decide_eq_true (by first | (with_reducible assumption) | assumption)
      obtain ⟨ad272, A272_1, c272_1, e272, hx272_0, hx272_1, hx272_2, hx272_3, hx272_4, hx272_5, hl272_1, hi272_1⟩ := at_T49 HR0.out x5_1 p272 q272
      have hw272_5 := hx272_5
      have hw272_4 := hx272_4
      have hw272_3 := hx272_3
      have hw272_2 := hx272_2
      have hw272_1 := hx272_1
      have hw272_0 := hx272_0
      cases e272
      replace hx272_0 := (HB.out.cell (World.block_lt_of_cell? w _ hx272_0)).trans hx272_0
      replace hx272_1 := (HB.out.cell (World.block_lt_of_cell? w _ hx272_1)).trans hx272_1
      replace hx272_2 := (HB.out.cell (World.block_lt_of_cell? w _ hx272_2)).trans hx272_2
      replace hx272_3 := (HB.out.cell (World.block_lt_of_cell? w _ hx272_3)).trans hx272_3
      replace hx272_4 := (HB.out.cell (World.block_lt_of_cell? w _ hx272_4)).trans hx272_4
      replace hx272_5 := (HB.out.cell (World.block_lt_of_cell? w _ hx272_5)).trans hx272_5
      have HR272_1 := Aside0.mk hi272_1
      have HC272_1 := Aside0.mk hl272_1
      clear hi272_1 hl272_1
      replace p272 := eq_true p272
      replace q272 := eq_true q272
      refine start_ (n := 8) (S := fun w' => w'.cell? (ad272.add ((x5_1).toNat * 6)) = some (.string ((rd_T49 l0 x5_1).f0)) ∧ w'.cell? ⟨(ad272.add ((x5_1).toNat * 6)).block, (ad272.add ((x5_1).toNat * 6)).off + 1, none⟩ = some (.slice A272_1 ((rd_T49 l0 x5_1).f1).length c272_1) ∧ w'.cell? ⟨(ad272.add ((x5_1).toNat * 6)).block, (ad272.add ((x5_1).toNat * 6)).off + 2, none⟩ = some (.float .f32 ((rd_T49 l0 x5_1).f2)) ∧ w'.cell? ⟨(ad272.add ((x5_1).toNat * 6)).block, (ad272.add ((x5_1).toNat * 6)).off + 3, none⟩ = some (.float .f32 ((rd_T49 l0 x5_1).f3)) ∧ w'.cell? ⟨(ad272.add ((x5_1).toNat * 6)).block, (ad272.add ((x5_1).toNat * 6)).off + 4, none⟩ = some (.float .f32 ((rd_T49 l0 x5_1).f4)) ∧ w'.cell? ⟨(ad272.add ((x5_1).toNat * 6)).block, (ad272.add ((x5_1).toNat * 6)).off + 5, none⟩ = some (.float .f32 ((rd_T49 l0 x5_1).f5))) (ds := []) laws_heldSoundS.z0 (by kernel_rfl) rfl rfl ⟨(cu_ HB.out hw272_0), (cu_ HB.out hw272_1), (cu_ HB.out hw272_2), (cu_ HB.out hw272_3), (cu_ HB.out hw272_4), (cu_ HB.out hw272_5)⟩ (fun hHeld => ?_); refine with_tabW laws_heldSoundS.tab4 laws_heldSoundS.bits4 (fun HT_ HW_ => ?_)
      generalize wr.drew = w25 at HB HR272_1 hx272_0 hx272_1 hx272_2 hx272_3 hx272_4 hx272_5 hHeld ⊢
      refine pure_ (i := 0) (N := some 12) (v := ?_) (a' := ?_) laws_heldSoundS.z1 rfl rfl (any_of HT_.out (by kernel_rfl)) (fun _ _ _ h => h) (Or.inl ⟨by rfl, ?_⟩) ?_ ?_
      pv_
      refine pure_ (i := 1) (N := some 13) (v := ?_) (a' := ?_) laws_heldSoundS.z2 rfl rfl (any_of HT_.out (by kernel_rfl)) (fun _ _ _ h => h) (Or.inl ⟨by rfl, ?_⟩) ?_ ?_
      pv_
      refine pure_ (i := 2) (N := some 14) (v := ?_) (a' := ?_) laws_heldSoundS.z3 rfl rfl (any_of HT_.out (by kernel_rfl)) (fun _ _ _ h => h) (Or.inl ⟨by rfl, ?_⟩) ?_ ?_
      pv_
      refine pure_ (i := 3) (N := some 15) (v := ?_) (a' := ?_) laws_heldSoundS.z4 rfl rfl (any_of HT_.out (by kernel_rfl)) (fun _ _ _ h => h) (Or.inl ⟨by rfl, ?_⟩) ?_ ?_
      pv_
      refine pure_ (i := 5) (N := some 17) (v := ?_) (a' := ?_) laws_heldSoundS.z5 rfl rfl (any_of HT_.out (by kernel_rfl)) (fun _ _ _ h => h) (Or.inl ⟨by rfl, ?_⟩) ?_ ?_
      pv_
      refine take_ (i := 4) (N := some 16) (v := ?_) (a' := ?_) laws_heldSoundS.z6 rfl rfl (take_ofW HT_.out HW_.out (by kernel_rfl)) (fun _ _ _ h => h) (Or.inl ⟨by rfl, ?_⟩) hHeld ?_ ?_
      rotate_left
      ·rintro w' ⟨s0, s1, s2, s3, s4, s5⟩
       go_simp
       with_reducible rfl
      rotate_left
      ·pw_
      refine one_ (i := 6) (N := some 18) laws_heldSoundS.z7 rfl rfl (one_of HT_.out (by kernel_rfl)) (by decide) (fun K hK => ?_)
      refine goes_ Try.func51 (by kernel_rfl) rfl #[.int .i64 x1_1] (by rfl) rfl rfl (by (try simp only [List.map_toArray, List.map_cons, List.map_nil]); first | done | rfl | (simp only [List.length_drop, List.length_take]; rfl)) ?_
      with_reducible refine (laws_markText.calls k1 x1_1 t273 _ A5.out).mono ?_
      rintro e w26 ⟨rfl, hb⟩
      refine ⟨_, rfl, ?_⟩
      have n0_ := Aside0.mk (below_step (by repeat (first | (with_reducible first | exact HB.out | apply below_alloc | apply pw_below_drewN | apply below_drew1) | exact HB.out)) hb)
      clear HB
      have HB := n0_
      clear n0_
      (try clear hb)
      (try clear hb2)
      (try clear hk)
      (try clear hi)
      refine hK.out _ _ ⟨(cu_ HB.out hw272_0), (cu_ HB.out hw272_1), (cu_ HB.out hw272_2), (cu_ HB.out hw272_3), (cu_ HB.out hw272_4), (cu_ HB.out hw272_5)⟩ (fun hHeld => ?_)
      clear hK K
      refine norm_ (a' := ?_) ?_ ?_
      rotate_left
      ·show Act.put _ (some 18) _ = _
       pw_
      refine pure_ (i := 7) (N := some 19) (v := ?_) (a' := ?_) laws_heldSoundS.z8 rfl rfl (any_of HT_.out (by kernel_rfl)) (fun _ _ _ h => h) (Or.inl ⟨by rfl, ?_⟩) ?_ ?_
      pv_
      refine done_ (done_of HT_.out (by kernel_rfl)) ?_
      try go_wp2
      go_ret
      exact ⟨by first | rfl | (simp [errW_none, errW_some] <;> rfl) | (simp [*, errW_none, errW_some] <;> rfl), by repeat (first | (with_reducible first | exact HB.out | apply below_alloc | apply pw_below_drewN | apply below_drew1) | exact HB.out)⟩
    ·rw [if_neg c4] at H
     exact absurd H (by simp)
   ·rw [if_neg c3] at H
    have c3b0 : decide (x5_1 < (l0.length : Int)) = false := decide_eq_false c3
    clear c3
    obtain rfl := Option.some.inj H
    go_wp2
    go_ret
    exact ⟨by first | rfl | (simp [errW_none, errW_some] <;> rfl) | (simp [*, errW_none, errW_some] <;> rfl), by repeat (first | (with_reducible first | exact HB.out | apply below_alloc | apply pw_below_drewN | apply below_drew1) | exact HB.out)⟩
end Go.Proofs.Yteooifighndmkaa.PFnExactAddSound
