import Derived.Test.YteooifighndmkaaCl
import Derived.Test.YteooifighndmkaaPFnExactFrameAtx0
import Derived.Test.YteooifighndmkaaPFnExactFrameAtx16
namespace Go.Proofs.Yteooifighndmkaa.PFnExactFrameAt
open Go.RowKit Go.Proofs.YteooifighndmkaaW.PrintWords Go.Proofs.YteooifighndmkaaW.PrintLast Go.Proofs.YteooifighndmkaaW.PrintMore
open Go.Proofs.YteooifighndmkaaW.PrintFl
attribute [local go_sem high] binOp_feq binOp_fne binOp_fls binOp_fle binOp_fgr binOp_fge binOp_sle binOp_sgt
attribute [local go_sem] run_fopr run_fconv run_fint run_stf run_stc
attribute [local go_sem] max2_int min2_int max_two min_two max_three min_three max_four min_four
set_option linter.unusedVariables false
set_option linter.unusedSimpArgs false
abbrev impl_mixFrames.z0 : Array Bool := #[false, false, false, false, false, false, false, false, false, false, false, false, false, false, false, false, false, false, false, false, false, false, false, false, false]
abbrev impl_mixFrames.z1 : Array Bool := #[true, false, false, false, false, false, false, false, false, false, false, false, false, false, false, false, false, false, false, false, false, false, false, false, false]
abbrev impl_mixFrames.z2 : Array Bool := #[true, false, false, false, true, false, false, false, false, false, false, false, false, false, false, false, false, false, false, false, false, false, false, false, false]
abbrev impl_mixFrames.z3 : Array Bool := #[true, false, false, false, true, true, false, false, false, false, false, false, false, false, false, false, false, false, false, false, false, false, false, false, false]
abbrev impl_mixFrames.z4 : Array Bool := #[true, false, false, false, true, true, false, true, false, false, false, false, false, false, false, false, false, false, false, false, false, false, false, false, false]
abbrev impl_mixFrames.z5 : Array Bool := #[true, false, false, false, true, true, false, true, false, false, true, false, false, false, false, false, false, false, false, false, false, false, false, false, false]
abbrev impl_mixFrames.z6 : Array Bool := #[true, false, false, false, true, true, false, true, false, false, true, true, false, false, false, false, false, false, false, false, false, false, false, false, false]
abbrev impl_mixFrames.z7 : Array Bool := #[true, false, false, false, true, true, false, true, false, false, true, true, false, true, false, false, false, false, false, false, false, false, false, false, false]
abbrev impl_mixFrames.z8 : Array Bool := #[true, false, false, false, true, true, false, true, false, false, true, true, false, true, false, false, true, false, false, false, false, false, false, false, false]
abbrev impl_mixFrames.z9 : Array Bool := #[true, false, false, false, true, true, false, true, false, false, true, true, false, true, false, false, true, true, false, false, false, false, false, false, false]
abbrev impl_mixFrames.z10 : Array Bool := #[true, false, false, false, true, true, false, true, false, false, true, true, false, true, false, false, true, true, false, true, false, false, false, false, false]
abbrev impl_mixFrames.z11 : Array Bool := #[true, true, false, false, true, true, false, true, false, false, true, true, false, true, false, false, true, true, false, true, false, false, false, false, false]
abbrev impl_mixFrames.z12 : Array Bool := #[true, true, true, false, true, true, false, true, false, false, true, true, false, true, false, false, true, true, false, true, false, false, false, false, false]
abbrev impl_mixFrames.z13 : Array Bool := #[true, true, true, false, true, true, true, true, false, false, true, true, false, true, false, false, true, true, false, true, false, false, false, false, false]
abbrev impl_mixFrames.z14 : Array Bool := #[true, true, true, false, true, true, true, true, true, false, true, true, false, true, false, false, true, true, false, true, false, false, false, false, false]
abbrev impl_mixFrames.z15 : Array Bool := #[true, true, true, false, true, true, true, true, true, false, true, true, true, true, false, false, true, true, false, true, false, false, false, false, false]
abbrev impl_mixFrames.z16 : Array Bool := #[true, true, true, false, true, true, true, true, true, false, true, true, true, true, true, false, true, true, false, true, false, false, false, false, false]
abbrev impl_mixFrames.z17 : Array Bool := #[true, true, true, false, true, true, true, true, true, false, true, true, true, true, true, false, true, true, true, true, false, false, false, false, false]
abbrev impl_mixFrames.z18 : Array Bool := #[true, true, true, false, true, true, true, true, true, false, true, true, true, true, true, false, true, true, true, true, true, false, false, false, false]
abbrev impl_mixFrames.z19 : Array Bool := #[true, true, true, true, true, true, true, true, true, true, true, true, true, true, true, true, true, true, true, true, true, true, true, true, false]
abbrev impl_mixFrames.z20 : Array Bool := #[true, true, true, true, true, true, true, true, true, true, true, true, true, true, true, true, true, true, true, true, true, true, true, false, false]
abbrev impl_mixFrames.z21 : Array Bool := #[true, true, true, true, true, true, true, true, true, true, true, true, true, true, true, true, true, true, true, true, true, false, false, true, false]
abbrev impl_mixFrames.z22 : Array Bool := #[true, true, true, false, true, true, true, true, true, true, true, true, true, true, true, true, true, true, true, true, true, true, false, true, false]
abbrev impl_mixFrames.z23 : Array Bool := #[true, true, true, true, true, true, true, true, true, true, true, true, true, true, true, true, true, true, true, true, true, false, false, false, false]
abbrev impl_mixFrames.z24 : Array Bool := #[true, true, true, true, true, true, true, true, true, true, true, true, true, true, true, false, true, true, true, true, true, false, false, true, false]
abbrev impl_mixFrames.z25 : Array Bool := #[true, true, true, false, true, true, true, true, true, true, true, true, true, true, true, true, true, true, true, true, true, true, false, false, false]
abbrev impl_mixFrames.z26 : Array Bool := #[true, true, true, false, true, true, true, true, true, true, true, true, true, true, true, true, true, true, true, true, true, false, false, true, false]
abbrev impl_mixFrames.z27 : Array Bool := #[true, true, true, true, true, true, true, true, true, true, true, true, true, true, true, false, true, true, true, true, true, false, false, false, false]
abbrev impl_mixFrames.z28 : Array Bool := #[true, true, true, true, true, true, true, true, true, false, true, true, true, true, true, false, true, true, true, true, true, false, false, true, false]
abbrev impl_mixFrames.z29 : Array Bool := #[true, true, true, false, true, true, true, true, true, true, true, true, true, true, true, true, true, true, true, true, true, false, false, false, false]
abbrev impl_mixFrames.z30 : Array Bool := #[true, true, true, false, true, true, true, true, true, true, true, true, true, true, true, false, true, true, true, true, true, false, false, true, false]
abbrev impl_mixFrames.z31 : Array Bool := #[true, true, true, true, true, true, true, true, true, false, true, true, true, true, true, false, true, true, true, true, true, false, false, false, false]
abbrev impl_mixFrames.z32 : Array Bool := #[true, true, true, false, true, true, true, true, true, true, true, true, true, true, true, false, true, true, true, true, true, false, false, false, false]
abbrev impl_mixFrames.z33 : Array Bool := #[true, true, true, false, true, true, true, true, true, false, true, true, true, true, true, false, true, true, true, true, true, false, false, true, false]
abbrev impl_mixFrames.z34 : Array Bool := #[true, true, true, true, true, true, true, true, true, true, true, true, true, true, true, true, true, true, true, true, true, true, false, false, false]
abbrev impl_mixFrames.z35 : Array Bool := #[true, true, true, true, true, true, true, true, true, true, true, true, true, true, true, true, true, true, true, true, true, true, false, true, false]
abbrev impl_mixFrames.z36 : Array Bool := #[true, true, true, true, true, true, true, true, true, true, true, true, true, true, true, true, true, true, true, true, true, true, true, true, true]
def impl_mixFrames.l0 : Nat → List Nat → Int → Int → List Nat → Nat → Nat → Nat → Nat → List Nat → Nat → Nat → Nat → Option (List Nat × Nat × Nat × Nat × Bool)
 | 0, _, _, _, _, _, _, _, _, _, _, _, _ => none
 | k + 1, x37, x38, x39, x310000, x310001, x310002, x310003, x311000, x319000, x319001, x319002, x319003 => if x39 < x38 then (if 0 ≤ x39 then (if x39 < (x37.length : Int) then (if x39 < (x310000.length : Int) then ((impl_mixFrames_1.f (rdOf (0 : Nat) x37 x39) (rdOf (0 : Nat) x310000 x39) [(⟨x311000⟩ : S25)]).bind fun t321 => (if x39 < (x319000.length : Int) then (impl_mixFrames.l0 k x37 x38 (wrap64 (x39 + 1)) x310000 x310001 x310002 x310003 x311000 (x319000.set (x39 : Int).toNat t321) x319001 x319002 x319003) else (none))) else (none)) else (none)) else (none)) else ((impl_checkedFrame.f k x319000 x319001 x319002 x319003).bind fun bt323 => (some (bt323.1, bt323.2.1, bt323.2.2.1, bt323.2.2.2.1, bt323.2.2.2.2)))
def impl_mixFrames.f (k : Nat) (l0_0 : List Nat) (a0_1 : Nat) (a0_2 : Nat) (a0_3 : Nat) (l1_0 : List Nat) (a1_1 : Nat) (a1_2 : Nat) (a1_3 : Nat) (a2 : Nat) : Option (List Nat × Nat × Nat × Nat × Bool) := if 0 ≤ (l0_0.length : Int) then (if ((l0_0.length : Int) : Int).toNat ≤ 70368744177664 then ((impl_mixFrames_1.f a0_1 a1_1 [(⟨a2⟩ : S25)]).bind fun t315 => ((impl_mixFrames_1.f a0_2 a1_2 [(⟨a2⟩ : S25)]).bind fun t316 => ((impl_mixFrames_1.f a0_3 a1_3 [(⟨a2⟩ : S25)]).bind fun t317 => (impl_mixFrames.l0 k l0_0 (l0_0.length : Int) 0 l1_0 a1_1 a1_2 a1_3 a2 (List.replicate ((l0_0.length : Int) : Int).toNat 0) t315 t316 t317)))) else (none)) else (none)
theorem impl_mixFrames.mono_l : ∀ k, (∀ y0 y1 y2 y3 y4 y5 y6 y7 y8 y9 y10 y11, LeO (impl_mixFrames.l0 k y0 y1 y2 y3 y4 y5 y6 y7 y8 y9 y10 y11) (impl_mixFrames.l0 (k + 1) y0 y1 y2 y3 y4 y5 y6 y7 y8 y9 y10 y11))
 | 0 => fun _ _ _ _ _ _ _ _ _ _ _ _ r h => by simp [impl_mixFrames.l0] at h
 | k + 1 => by
  have ih0 := impl_mixFrames.mono_l k
  ·intro y0 y1 y2 y3 y4 y5 y6 y7 y8 y9 y10 y11
   unfold impl_mixFrames.l0
   repeat' first
   | (with_reducible exact ih0 _ _ _ _ _ _ _ _ _ _ _ _)
   | (with_reducible exact impl_checkedFrame.mono _ _ _ _ _)
   | (with_reducible exact LeO.refl _)
   | (with_reducible exact LeO.none _)
   | (with_reducible refine LeO.ite ?_ ?_)
   | (with_reducible refine LeO.bind ?_ (fun _ => ?_))
   | exact ih0 _ _ _ _ _ _ _ _ _ _ _ _
   | exact impl_checkedFrame.mono _ _ _ _ _
   | exact LeO.none _
   | refine LeO.ite ?_ ?_
   | refine LeO.bind ?_ (fun _ => ?_)
theorem impl_mixFrames.mono : ∀ a0 a1 a2 a3 a4 a5 a6 a7 a8 k, LeO (impl_mixFrames.f k a0 a1 a2 a3 a4 a5 a6 a7 a8) (impl_mixFrames.f (k + 1) a0 a1 a2 a3 a4 a5 a6 a7 a8) := by
 intro a0 a1 a2 a3 a4 a5 a6 a7 a8 k
 have ih0 := impl_mixFrames.mono_l k
 unfold impl_mixFrames.f
 repeat' first
   | (with_reducible exact ih0 _ _ _ _ _ _ _ _ _ _ _ _)
   | (with_reducible exact impl_checkedFrame.mono _ _ _ _ _)
   | (with_reducible exact LeO.refl _)
   | (with_reducible exact LeO.none _)
   | (with_reducible refine LeO.ite ?_ ?_)
   | (with_reducible refine LeO.bind ?_ (fun _ => ?_))
   | exact ih0 _ _ _ _ _ _ _ _ _ _ _ _
   | exact impl_checkedFrame.mono _ _ _ _ _
   | exact LeO.none _
   | refine LeO.ite ?_ ?_
   | refine LeO.bind ?_ (fun _ => ?_)
def impl_mixFrames.T2 : Bool × List (List Nat × List Nat) := (true, [([], []), ([0], [0]), ([1], [1]), ([2, 2], [2]), ([], []), ([], []), ([5], [5]), ([], []), ([7], [7]), ([4, 6, 8], [4, 6, 8]), ([], []), ([], []), ([11], [11]), ([], []), ([13], [13]), ([10, 12, 14, 9], [10, 12, 14]), ([], []), ([], []), ([17], [17]), ([], []), ([19], [19]), ([16, 18, 20, 15], [16, 18, 20]), ([3, 9, 15, 21], [3, 9, 15, 21]), ([], []), ([23, 22, 21, 0, 1, 2, 3, 4, 5, 6, 7, 8, 9, 10, 11, 12, 13, 14, 15, 16, 17, 18, 19, 20, 21, 22, 23], [22, 23])])
def impl_mixFrames.B2 : List Nat := [0, 1, 3, 7, 0, 0, 32, 0, 128, 496, 0, 0, 2048, 0, 8192, 32752, 0, 0, 131072, 0, 524288, 2097136, 4194303, 0, 16777215]
theorem impl_mixFrames.tab2 : rtab .any (opsOf Try.f85 2) = impl_mixFrames.T2 := by kernel_rfl
theorem impl_mixFrames.bits2 : waitsOk impl_mixFrames.T2.2 impl_mixFrames.B2 = true := by kernel_rfl
def impl_mixFrames.T6 : Bool × List (List Nat × List Nat) := (true, [([], []), ([0], [0]), ([], []), ([], []), ([], []), ([], []), ([5], [5]), ([], []), ([6, 7], [6, 7]), ([8], [8]), ([3, 4, 9], [3, 4, 9]), ([1, 2, 0, 1, 2, 3, 4, 5, 6, 7, 8, 9, 10], [1, 2]), ([11, 10, 10, 0, 1, 2, 3, 4, 5, 6, 7, 8, 9, 10], [10, 11])])
def impl_mixFrames.B6 : List Nat := [0, 1, 0, 0, 0, 0, 32, 0, 224, 480, 1016, 2047, 4095]
theorem impl_mixFrames.tab6 : rtab .any (opsOf Try.f85 6) = impl_mixFrames.T6 := by kernel_rfl
theorem impl_mixFrames.bits6 : waitsOk impl_mixFrames.T6.2 impl_mixFrames.B6 = true := by kernel_rfl
set_option maxHeartbeats 8000000 in
set_option maxRecDepth 100000 in
theorem impl_mixFrames.calls (k : Nat) (A0_0 : Option Addr) (c0_0 : Nat) (l0_0 : List Nat) (a0_1 : Nat) (a0_2 : Nat) (a0_3 : Nat) (A1_0 : Option Addr) (c1_0 : Nat) (l1_0 : List Nat) (a1_1 : Nat) (a1_2 : Nat) (a1_3 : Nat) (a2 : Nat) (r1 : List Nat) (r2 : Nat) (r3 : Nat) (r4 : Nat) (r5 : Bool) (w : World) (hr0_0 : Kd.C (Kd.float .f32) w A0_0 l0_0.length l0_0) (hc0_0 : l0_0.length ≤ c0_0) (hr1_0 : Kd.C (Kd.float .f32) w A1_0 l1_0.length l1_0) (hc1_0 : l1_0.length ≤ c1_0) (h : impl_mixFrames.f k l0_0 a0_1 a0_2 a0_3 l1_0 a1_1 a1_2 a1_3 a2 = some (r1, r2, r3, r4, r5)) :
  Calls Try.prog 85 #[.agg #[.slice A0_0 l0_0.length c0_0, .float .f32 a0_1, .float .f32 a0_2, .float .f32 a0_3], .agg #[.slice A1_0 l1_0.length c1_0, .float .f32 a1_1, .float .f32 a1_2, .float .f32 a1_3], .float .f32 a2] w fun e w' => ∃ v0_ : Value, e = .returned (.tuple #[.agg #[v0_, .float .f32 r2, .float .f32 r3, .float .f32 r4], .bool r5]) ∧ Kd.R (Kd.float .f32) 25 w' w.heap.size (fun _ => True) v0_ r1 ∧ Below w.heap.size w w' := by
 have hu29 := Try.underlying29
 have eg113 := enters_of Try.func113 (by kernel_rfl) rfl
 have hu25 := Try.underlying25
 have hu24 := Try.underlying24
 have HR0_0 := Aside0.mk hr0_0
 have HC0_0 := Aside0.mk hc0_0
 clear hr0_0 hc0_0
 have HR1_0 := Aside0.mk hr1_0
 have HC1_0 := Aside0.mk hc1_0
 clear hr1_0 hc1_0
 have HB := Aside0.mk (Below.refl w.heap.size w)
 have H : (if 0 ≤ (l0_0.length : Int) then (if ((l0_0.length : Int) : Int).toNat ≤ 70368744177664 then ((impl_mixFrames_1.f a0_1 a1_1 [(⟨a2⟩ : S25)]).bind fun t315 => ((impl_mixFrames_1.f a0_2 a1_2 [(⟨a2⟩ : S25)]).bind fun t316 => ((impl_mixFrames_1.f a0_3 a1_3 [(⟨a2⟩ : S25)]).bind fun t317 => (impl_mixFrames.l0 k l0_0 (l0_0.length : Int) 0 l1_0 a1_1 a1_2 a1_3 a2 (List.replicate ((l0_0.length : Int) : Int).toNat 0) t315 t316 t317)))) else (none)) else (none)) = some (r1, r2, r3, r4, r5) := h
 clear h
 by_cases c4 : 0 ≤ (l0_0.length : Int)
 ·rw [if_pos c4] at H
  have c4b0 := eq_true c4
  have c4b1 : decide (0 ≤ (l0_0.length : Int)) = true := decide_eq_true c4
  clear c4
  by_cases c5 : ((l0_0.length : Int) : Int).toNat ≤ 70368744177664
  ·rw [if_pos c5] at H
   have c5b0 := eq_true c5
   have c5b1 : decide (((l0_0.length : Int) : Int).toNat ≤ 70368744177664) = true := decide_eq_true c5
   clear c5
   obtain ⟨y312, hy312⟩ : ∃ y_ : List Nat, y_ = (List.replicate ((l0_0.length : Int) : Int).toNat 0) := ⟨_, rfl⟩
   replace H : ((impl_mixFrames_1.f a0_1 a1_1 [(⟨a2⟩ : S25)]).bind fun t315 => ((impl_mixFrames_1.f a0_2 a1_2 [(⟨a2⟩ : S25)]).bind fun t316 => ((impl_mixFrames_1.f a0_3 a1_3 [(⟨a2⟩ : S25)]).bind fun t317 => (impl_mixFrames.l0 k l0_0 (l0_0.length : Int) 0 l1_0 a1_1 a1_2 a1_3 a2 y312 t315 t316 t317)))) = some (r1, r2, r3, r4, r5) := by first | (rw [hy312]; with_reducible exact H) | (have H2_ := (Option.bind_some _ _).symm.trans H; rw [hy312]; with_reducible exact H2_) | (have H2_ := (Option.bind_some _ _).symm.trans H; with_reducible exact H2_) | with_reducible exact H | (rw [hy312]; exact H) | exact H
   have Ny312 := Aside0.mk hy312
   clear hy312
   replace H := Option.bind_eq_some_iff.mp H
   obtain ⟨t315, A60, H⟩ := H
   replace H : ((impl_mixFrames_1.f a0_2 a1_2 [(⟨a2⟩ : S25)]).bind fun t316 => ((impl_mixFrames_1.f a0_3 a1_3 [(⟨a2⟩ : S25)]).bind fun t317 => (impl_mixFrames.l0 k l0_0 (l0_0.length : Int) 0 l1_0 a1_1 a1_2 a1_3 a2 y312 t315 t316 t317))) = some (r1, r2, r3, r4, r5) := H
   have A6 := Aside0.mk A60
   clear A60
   replace H := Option.bind_eq_some_iff.mp H
   obtain ⟨t316, A70, H⟩ := H
   replace H : ((impl_mixFrames_1.f a0_3 a1_3 [(⟨a2⟩ : S25)]).bind fun t317 => (impl_mixFrames.l0 k l0_0 (l0_0.length : Int) 0 l1_0 a1_1 a1_2 a1_3 a2 y312 t315 t316 t317)) = some (r1, r2, r3, r4, r5) := H
   have A7 := Aside0.mk A70
   clear A70
   replace H := Option.bind_eq_some_iff.mp H
   obtain ⟨t317, A80, H⟩ := H
   replace H : (impl_mixFrames.l0 k l0_0 (l0_0.length : Int) 0 l1_0 a1_1 a1_2 a1_3 a2 y312 t315 t316 t317) = some (r1, r2, r3, r4, r5) := H
   have A8 := Aside0.mk A80
   clear A80
   have H' := Aside0.mk H
   clear H
   go_enter Try.func85, Try.ntmps85
   try go_wp2_with (first | ((with_reducible refine gate_dst (N := 3) rfl ?_); refine box_event ?hg (N := 3) ?hd (cs := #[.slice A0_0 l0_0.length c0_0, .float .f32 a0_1, .float .f32 a0_2, .float .f32 a0_3]) (t := 29) ?hr ?_; (case hd => rfl); (case hg => rfl); (case hr => first | (go_simp; done) | (go_simp; rfl) | (simp (disch := omega) only [w64_id]; go_simp; done) | (go_simp; simp (disch := omega) only [w64_id]; done)); intro gb308 hg w9 hbox hb; have n0_ := Aside0.mk (below_step (by repeat (first | (with_reducible first | exact HB.out | apply below_alloc | apply pw_below_drewN | apply below_drew1) | exact HB.out)) hb); have n1_ := Aside0.mk (hbox); have n2_ := Aside0.mk ((by rw [hg]; exact (below_size (by repeat (first | (with_reducible first | exact HB.out | apply below_alloc | apply pw_below_drewN | apply below_drew1) | exact HB.out))) : w.heap.size ≤ gb308)); have n3_ := Aside0.mk ((by rw [hg]; exact (below_size (by repeat (first | (with_reducible first | exact HB.out | apply below_alloc | apply pw_below_drewN | apply below_drew1) | exact HB.out))) : w.heap.size ≤ gb308)); clear HB; have HB := n0_; have BK308 := n1_; have GW308 := n2_; have GE308 := n3_; clear n0_ n1_ n2_ n3_; clear hb hbox hg) | ((with_reducible refine gate_dst (N := 4) rfl ?_); refine box_event ?hg (N := 4) ?hd (cs := #[.slice A1_0 l1_0.length c1_0, .float .f32 a1_1, .float .f32 a1_2, .float .f32 a1_3]) (t := 29) ?hr ?_; (case hd => rfl); (case hg => rfl); (case hr => first | (go_simp; done) | (go_simp; rfl) | (simp (disch := omega) only [w64_id]; go_simp; done) | (go_simp; simp (disch := omega) only [w64_id]; done)); intro gb309 hg w10 hbox hb; have n0_ := Aside0.mk (blk_below (g := gb308) (o := .cells #[.slice A0_0 l0_0.length c0_0, .float .f32 a0_1, .float .f32 a0_2, .float .f32 a0_3] 29 (0, 0)) (by (with_reducible repeat (first | refine blk_drewN ?_ _ | refine blk_drew ?_ | refine blk_alloc ?_ _)); exact BK308.out) hb); have n1_ := Aside0.mk (below_step (by repeat (first | (with_reducible first | exact HB.out | apply below_alloc | apply pw_below_drewN | apply below_drew1 | refine below_set ?_ GE308.out) | exact HB.out)) hb); have n2_ := Aside0.mk (hbox); have n3_ := Aside0.mk ((by rw [hg]; exact (below_size (by repeat (first | (with_reducible first | exact HB.out | apply below_alloc | apply pw_below_drewN | apply below_drew1 | refine below_set ?_ GE308.out) | exact HB.out))) : w.heap.size ≤ gb309)); have n4_ := Aside0.mk ((by rw [hg]; exact (below_size (by repeat (first | (with_reducible first | exact HB.out | apply below_alloc | apply pw_below_drewN | apply below_drew1 | refine below_set ?_ GE308.out) | exact HB.out))) : w.heap.size ≤ gb309)); have n5_ := Aside0.mk ((by rw [hg]; exact Nat.ne_of_lt (blk_lt (g := gb308) (o := .cells #[.slice A0_0 l0_0.length c0_0, .float .f32 a0_1, .float .f32 a0_2, .float .f32 a0_3] 29 (0, 0)) (by (with_reducible repeat (first | refine blk_drewN ?_ _ | refine blk_drew ?_ | refine blk_alloc ?_ _)); exact BK308.out)) : gb308 ≠ gb309)); have n6_ := Aside0.mk ((by rw [hg]; exact Nat.ne_of_gt (blk_lt (g := gb308) (o := .cells #[.slice A0_0 l0_0.length c0_0, .float .f32 a0_1, .float .f32 a0_2, .float .f32 a0_3] 29 (0, 0)) (by (with_reducible repeat (first | refine blk_drewN ?_ _ | refine blk_drew ?_ | refine blk_alloc ?_ _)); exact BK308.out)) : gb309 ≠ gb308)); clear BK308; clear HB; have BK308 := n0_; have HB := n1_; have BK309 := n2_; have GW309 := n3_; have GE309 := n4_; have NB308_309 := n5_; have NB309_308 := n6_; clear n0_ n1_ n2_ n3_ n4_ n5_ n6_; clear hb hbox hg) | ((with_reducible refine gate_dst (N := 5) rfl ?_); refine box_event ?hg (N := 5) ?hd (cs := #[.float .f32 a2]) (t := 25) ?hr ?_; (case hd => rfl); (case hg => rfl); (case hr => first | (go_simp; done) | (go_simp; rfl) | (simp (disch := omega) only [w64_id]; go_simp; done) | (go_simp; simp (disch := omega) only [w64_id]; done)); intro gb310 hg w11 hbox hb; have n0_ := Aside0.mk (blk_below (g := gb308) (o := .cells #[.slice A0_0 l0_0.length c0_0, .float .f32 a0_1, .float .f32 a0_2, .float .f32 a0_3] 29 (0, 0)) (by (with_reducible repeat (first | refine blk_drewN ?_ _ | refine blk_drew ?_ | refine blk_alloc ?_ _)); exact BK308.out) hb); have n1_ := Aside0.mk (blk_below (g := gb309) (o := .cells #[.slice A1_0 l1_0.length c1_0, .float .f32 a1_1, .float .f32 a1_2, .float .f32 a1_3] 29 (0, 0)) (by (with_reducible repeat (first | refine blk_drewN ?_ _ | refine blk_drew ?_ | refine blk_alloc ?_ _)); exact BK309.out) hb); have n2_ := Aside0.mk (below_step (by repeat (first | (with_reducible first | exact HB.out | apply below_alloc | apply pw_below_drewN | apply below_drew1 | refine below_set ?_ GE308.out | refine below_set ?_ GE309.out) | exact HB.out)) hb); have n3_ := Aside0.mk (hbox); have n4_ := Aside0.mk ((by rw [hg]; exact (below_size (by repeat (first | (with_reducible first | exact HB.out | apply below_alloc | apply pw_below_drewN | apply below_drew1 | refine below_set ?_ GE308.out | refine below_set ?_ GE309.out) | exact HB.out))) : w.heap.size ≤ gb310)); have n5_ := Aside0.mk ((by rw [hg]; exact (below_size (by repeat (first | (with_reducible first | exact HB.out | apply below_alloc | apply pw_below_drewN | apply below_drew1 | refine below_set ?_ GE308.out | refine below_set ?_ GE309.out) | exact HB.out))) : w.heap.size ≤ gb310)); have n6_ := Aside0.mk ((by rw [hg]; exact Nat.ne_of_lt (blk_lt (g := gb308) (o := .cells #[.slice A0_0 l0_0.length c0_0, .float .f32 a0_1, .float .f32 a0_2, .float .f32 a0_3] 29 (0, 0)) (by (with_reducible repeat (first | refine blk_drewN ?_ _ | refine blk_drew ?_ | refine blk_alloc ?_ _)); exact BK308.out)) : gb308 ≠ gb310)); have n7_ := Aside0.mk ((by rw [hg]; exact Nat.ne_of_gt (blk_lt (g := gb308) (o := .cells #[.slice A0_0 l0_0.length c0_0, .float .f32 a0_1, .float .f32 a0_2, .float .f32 a0_3] 29 (0, 0)) (by (with_reducible repeat (first | refine blk_drewN ?_ _ | refine blk_drew ?_ | refine blk_alloc ?_ _)); exact BK308.out)) : gb310 ≠ gb308)); have n8_ := Aside0.mk ((by rw [hg]; exact Nat.ne_of_lt (blk_lt (g := gb309) (o := .cells #[.slice A1_0 l1_0.length c1_0, .float .f32 a1_1, .float .f32 a1_2, .float .f32 a1_3] 29 (0, 0)) (by (with_reducible repeat (first | refine blk_drewN ?_ _ | refine blk_drew ?_ | refine blk_alloc ?_ _)); exact BK309.out)) : gb309 ≠ gb310)); have n9_ := Aside0.mk ((by rw [hg]; exact Nat.ne_of_gt (blk_lt (g := gb309) (o := .cells #[.slice A1_0 l1_0.length c1_0, .float .f32 a1_1, .float .f32 a1_2, .float .f32 a1_3] 29 (0, 0)) (by (with_reducible repeat (first | refine blk_drewN ?_ _ | refine blk_drew ?_ | refine blk_alloc ?_ _)); exact BK309.out)) : gb310 ≠ gb309)); clear BK308; clear BK309; clear HB; have BK308 := n0_; have BK309 := n1_; have HB := n2_; have BK310 := n3_; have GW310 := n4_; have GE310 := n5_; have NB308_310 := n6_; have NB310_308 := n7_; have NB309_310 := n8_; have NB310_309 := n9_; clear n0_ n1_ n2_ n3_ n4_ n5_ n6_ n7_ n8_ n9_; clear hb hbox hg) | ((with_reducible refine gate_dst (N := 6) rfl ?_); refine box_event ?hg (N := 6) ?hd (cs := #[.slice none 0 0, .float .f32 0, .float .f32 0, .float .f32 0]) (t := 29) ?hr ?_; (case hd => rfl); (case hg => rfl); (case hr => first | (go_simp; done) | (go_simp; rfl) | (simp (disch := omega) only [w64_id]; go_simp; done) | (go_simp; simp (disch := omega) only [w64_id]; done)); intro gb311 hg w12 hbox hb; have n0_ := Aside0.mk (blk_below (g := gb308) (o := .cells #[.slice A0_0 l0_0.length c0_0, .float .f32 a0_1, .float .f32 a0_2, .float .f32 a0_3] 29 (0, 0)) (by (with_reducible repeat (first | refine blk_drewN ?_ _ | refine blk_drew ?_ | refine blk_alloc ?_ _)); exact BK308.out) hb); have n1_ := Aside0.mk (blk_below (g := gb309) (o := .cells #[.slice A1_0 l1_0.length c1_0, .float .f32 a1_1, .float .f32 a1_2, .float .f32 a1_3] 29 (0, 0)) (by (with_reducible repeat (first | refine blk_drewN ?_ _ | refine blk_drew ?_ | refine blk_alloc ?_ _)); exact BK309.out) hb); have n2_ := Aside0.mk (blk_below (g := gb310) (o := .cells #[.float .f32 a2] 25 (0, 0)) (by (with_reducible repeat (first | refine blk_drewN ?_ _ | refine blk_drew ?_ | refine blk_alloc ?_ _)); exact BK310.out) hb); have n3_ := Aside0.mk (below_step (by repeat (first | (with_reducible first | exact HB.out | apply below_alloc | apply pw_below_drewN | apply below_drew1 | refine below_set ?_ GE308.out | refine below_set ?_ GE309.out | refine below_set ?_ GE310.out) | exact HB.out)) hb); have n4_ := Aside0.mk (hbox); have n5_ := Aside0.mk ((by rw [hg]; exact (below_size (by repeat (first | (with_reducible first | exact HB.out | apply below_alloc | apply pw_below_drewN | apply below_drew1 | refine below_set ?_ GE308.out | refine below_set ?_ GE309.out | refine below_set ?_ GE310.out) | exact HB.out))) : w.heap.size ≤ gb311)); have n6_ := Aside0.mk ((by rw [hg]; exact (below_size (by repeat (first | (with_reducible first | exact HB.out | apply below_alloc | apply pw_below_drewN | apply below_drew1 | refine below_set ?_ GE308.out | refine below_set ?_ GE309.out | refine below_set ?_ GE310.out) | exact HB.out))) : w.heap.size ≤ gb311)); have n7_ := Aside0.mk ((by rw [hg]; exact Nat.ne_of_lt (blk_lt (g := gb308) (o := .cells #[.slice A0_0 l0_0.length c0_0, .float .f32 a0_1, .float .f32 a0_2, .float .f32 a0_3] 29 (0, 0)) (by (with_reducible repeat (first | refine blk_drewN ?_ _ | refine blk_drew ?_ | refine blk_alloc ?_ _)); exact BK308.out)) : gb308 ≠ gb311)); have n8_ := Aside0.mk ((by rw [hg]; exact Nat.ne_of_gt (blk_lt (g := gb308) (o := .cells #[.slice A0_0 l0_0.length c0_0, .float .f32 a0_1, .float .f32 a0_2, .float .f32 a0_3] 29 (0, 0)) (by (with_reducible repeat (first | refine blk_drewN ?_ _ | refine blk_drew ?_ | refine blk_alloc ?_ _)); exact BK308.out)) : gb311 ≠ gb308)); have n9_ := Aside0.mk ((by rw [hg]; exact Nat.ne_of_lt (blk_lt (g := gb309) (o := .cells #[.slice A1_0 l1_0.length c1_0, .float .f32 a1_1, .float .f32 a1_2, .float .f32 a1_3] 29 (0, 0)) (by (with_reducible repeat (first | refine blk_drewN ?_ _ | refine blk_drew ?_ | refine blk_alloc ?_ _)); exact BK309.out)) : gb309 ≠ gb311)); have n10_ := Aside0.mk ((by rw [hg]; exact Nat.ne_of_gt (blk_lt (g := gb309) (o := .cells #[.slice A1_0 l1_0.length c1_0, .float .f32 a1_1, .float .f32 a1_2, .float .f32 a1_3] 29 (0, 0)) (by (with_reducible repeat (first | refine blk_drewN ?_ _ | refine blk_drew ?_ | refine blk_alloc ?_ _)); exact BK309.out)) : gb311 ≠ gb309)); have n11_ := Aside0.mk ((by rw [hg]; exact Nat.ne_of_lt (blk_lt (g := gb310) (o := .cells #[.float .f32 a2] 25 (0, 0)) (by (with_reducible repeat (first | refine blk_drewN ?_ _ | refine blk_drew ?_ | refine blk_alloc ?_ _)); exact BK310.out)) : gb310 ≠ gb311)); have n12_ := Aside0.mk ((by rw [hg]; exact Nat.ne_of_gt (blk_lt (g := gb310) (o := .cells #[.float .f32 a2] 25 (0, 0)) (by (with_reducible repeat (first | refine blk_drewN ?_ _ | refine blk_drew ?_ | refine blk_alloc ?_ _)); exact BK310.out)) : gb311 ≠ gb310)); clear BK308; clear BK309; clear BK310; clear HB; have BK308 := n0_; have BK309 := n1_; have BK310 := n2_; have HB := n3_; have BK311 := n4_; have GW311 := n5_; have GE311 := n6_; have NB308_311 := n7_; have NB311_308 := n8_; have NB309_311 := n9_; have NB311_309 := n10_; have NB310_311 := n11_; have NB311_310 := n12_; clear n0_ n1_ n2_ n3_ n4_ n5_ n6_ n7_ n8_ n9_ n10_ n11_ n12_; clear hb hbox hg))
   have n0_ := Aside0.mk (blk_drew BK308.out)
   have n1_ := Aside0.mk (blk_drew BK309.out)
   have n2_ := Aside0.mk (blk_drew BK310.out)
   have n3_ := Aside0.mk (blk_drew BK311.out)
   have n4_ := Aside0.mk (below_drew1 HB.out)
   clear BK308
   clear BK309
   clear BK310
   clear BK311
   clear HB
   have BK308 := n0_
   have BK309 := n1_
   have BK310 := n2_
   have BK311 := n3_
   have HB := n4_
   clear n0_ n1_ n2_ n3_ n4_
   refine start_ (n := 25) (S := fun w' => w'.cell? ⟨gb308, 0, none⟩ = some (.slice A0_0 l0_0.length c0_0) ∧ w'.cell? ⟨gb308, 1, none⟩ = some (.float .f32 a0_1) ∧ w'.cell? ⟨gb308, 2, none⟩ = some (.float .f32 a0_2) ∧ w'.cell? ⟨gb308, 3, none⟩ = some (.float .f32 a0_3) ∧ w'.cell? ⟨gb309, 0, none⟩ = some (.slice A1_0 l1_0.length c1_0) ∧ w'.cell? ⟨gb309, 1, none⟩ = some (.float .f32 a1_1) ∧ w'.cell? ⟨gb309, 2, none⟩ = some (.float .f32 a1_2) ∧ w'.cell? ⟨gb309, 3, none⟩ = some (.float .f32 a1_3)) (ds := []) impl_mixFrames.z0 (by kernel_rfl) rfl rfl ⟨(blk_cell BK308.out 0).trans rfl, (blk_cell BK308.out 1).trans rfl, (blk_cell BK308.out 2).trans rfl, (blk_cell BK308.out 3).trans rfl, (blk_cell BK309.out 0).trans rfl, (blk_cell BK309.out 1).trans rfl, (blk_cell BK309.out 2).trans rfl, (blk_cell BK309.out 3).trans rfl⟩ (fun hHeld => ?_); refine with_tabW impl_mixFrames.tab2 impl_mixFrames.bits2 (fun HT_ HW_ => ?_)
   generalize w12.drew = w13 at BK308 BK309 BK310 BK311 HB hHeld ⊢
   refine pure_ (i := 0) (N := some 13) (v := ?_) (a' := ?_) impl_mixFrames.z1 rfl rfl (any_of HT_.out (by kernel_rfl)) (fun _ _ _ h => h) (Or.inl ⟨by rfl, ?_⟩) ?_ ?_
   pv_
   refine pure_ (i := 4) (N := some 17) (v := ?_) (a' := ?_) impl_mixFrames.z2 rfl rfl (any_of HT_.out (by kernel_rfl)) (fun _ _ _ h => h) (Or.inl ⟨by rfl, ?_⟩) ?_ ?_
   pv_
   refine pure_ (i := 5) (N := some 18) (v := ?_) (a' := ?_) impl_mixFrames.z3 rfl rfl (any_of HT_.out (by kernel_rfl)) (fun _ _ _ h => h) (Or.inl ⟨by rfl, ?_⟩) ?_ ?_
   pv_
   refine pure_ (i := 7) (N := some 20) (v := ?_) (a' := ?_) impl_mixFrames.z4 rfl rfl (any_of HT_.out (by kernel_rfl)) (fun _ _ _ h => h) (Or.inl ⟨by rfl, ?_⟩) ?_ ?_
   pv_
   refine pure_ (i := 10) (N := some 23) (v := ?_) (a' := ?_) impl_mixFrames.z5 rfl rfl (any_of HT_.out (by kernel_rfl)) (fun _ _ _ h => h) (Or.inl ⟨by rfl, ?_⟩) ?_ ?_
   pv_
   refine pure_ (i := 11) (N := some 24) (v := ?_) (a' := ?_) impl_mixFrames.z6 rfl rfl (any_of HT_.out (by kernel_rfl)) (fun _ _ _ h => h) (Or.inl ⟨by rfl, ?_⟩) ?_ ?_
   pv_
   refine pure_ (i := 13) (N := some 26) (v := ?_) (a' := ?_) impl_mixFrames.z7 rfl rfl (any_of HT_.out (by kernel_rfl)) (fun _ _ _ h => h) (Or.inl ⟨by rfl, ?_⟩) ?_ ?_
   pv_
   refine pure_ (i := 16) (N := some 29) (v := ?_) (a' := ?_) impl_mixFrames.z8 rfl rfl (any_of HT_.out (by kernel_rfl)) (fun _ _ _ h => h) (Or.inl ⟨by rfl, ?_⟩) ?_ ?_
   pv_
   refine pure_ (i := 17) (N := some 30) (v := ?_) (a' := ?_) impl_mixFrames.z9 rfl rfl (any_of HT_.out (by kernel_rfl)) (fun _ _ _ h => h) (Or.inl ⟨by rfl, ?_⟩) ?_ ?_
   pv_
   refine pure_ (i := 19) (N := some 32) (v := ?_) (a' := ?_) impl_mixFrames.z10 rfl rfl (any_of HT_.out (by kernel_rfl)) (fun _ _ _ h => h) (Or.inl ⟨by rfl, ?_⟩) ?_ ?_
   pv_
   refine take_ (i := 1) (N := some 14) (v := ?_) (a' := ?_) impl_mixFrames.z11 rfl rfl (take_ofW HT_.out HW_.out (by kernel_rfl)) (fun _ _ _ h => h) (Or.inl ⟨by rfl, ?_⟩) hHeld ?_ ?_
   rotate_left
   ·rintro w' ⟨s0, s1, s2, s3, s4, s5, s6, s7⟩
    go_simp
    with_reducible rfl
   rotate_left
   ·pw_
   refine pure_ (i := 2) (N := some 15) (v := ?_) (a' := ?_) impl_mixFrames.z12 rfl rfl (any_of HT_.out (by kernel_rfl)) (fun _ _ _ h => h) (Or.inl ⟨by rfl, ?_⟩) ?_ ?_
   pv_
   refine take_ (i := 6) (N := some 19) (v := ?_) (a' := ?_) impl_mixFrames.z13 rfl rfl (take_ofW HT_.out HW_.out (by kernel_rfl)) (fun _ _ _ h => h) (Or.inl ⟨by rfl, ?_⟩) hHeld ?_ ?_
   rotate_left
   ·rintro w' ⟨s0, s1, s2, s3, s4, s5, s6, s7⟩
    go_simp
    with_reducible rfl
   rotate_left
   ·pw_
   refine take_ (i := 8) (N := some 21) (v := ?_) (a' := ?_) impl_mixFrames.z14 rfl rfl (take_ofW HT_.out HW_.out (by kernel_rfl)) (fun _ _ _ h => h) (Or.inl ⟨by rfl, ?_⟩) hHeld ?_ ?_
   rotate_left
   ·rintro w' ⟨s0, s1, s2, s3, s4, s5, s6, s7⟩
    go_simp
    with_reducible rfl
   rotate_left
   ·pw_
   refine take_ (i := 12) (N := some 25) (v := ?_) (a' := ?_) impl_mixFrames.z15 rfl rfl (take_ofW HT_.out HW_.out (by kernel_rfl)) (fun _ _ _ h => h) (Or.inl ⟨by rfl, ?_⟩) hHeld ?_ ?_
   rotate_left
   ·rintro w' ⟨s0, s1, s2, s3, s4, s5, s6, s7⟩
    go_simp
    with_reducible rfl
   rotate_left
   ·pw_
   refine take_ (i := 14) (N := some 27) (v := ?_) (a' := ?_) impl_mixFrames.z16 rfl rfl (take_ofW HT_.out HW_.out (by kernel_rfl)) (fun _ _ _ h => h) (Or.inl ⟨by rfl, ?_⟩) hHeld ?_ ?_
   rotate_left
   ·rintro w' ⟨s0, s1, s2, s3, s4, s5, s6, s7⟩
    go_simp
    with_reducible rfl
   rotate_left
   ·pw_
   refine take_ (i := 18) (N := some 31) (v := ?_) (a' := ?_) impl_mixFrames.z17 rfl rfl (take_ofW HT_.out HW_.out (by kernel_rfl)) (fun _ _ _ h => h) (Or.inl ⟨by rfl, ?_⟩) hHeld ?_ ?_
   rotate_left
   ·rintro w' ⟨s0, s1, s2, s3, s4, s5, s6, s7⟩
    go_simp
    with_reducible rfl
   rotate_left
   ·pw_
   refine take_ (i := 20) (N := some 33) (v := ?_) (a' := ?_) impl_mixFrames.z18 rfl rfl (take_ofW HT_.out HW_.out (by kernel_rfl)) (fun _ _ _ h => h) (Or.inl ⟨by rfl, ?_⟩) hHeld ?_ ?_
   rotate_left
   ·rintro w' ⟨s0, s1, s2, s3, s4, s5, s6, s7⟩
    go_simp
    with_reducible rfl
   rotate_left
   ·pw_
   refine join_ (σ := Value × Nat) 1 impl_mixFrames.z19 (fun s_ => [(16, s_.1), (22, .float .f32 t315), (28, .float .f32 t316), (34, .float .f32 t317), (9, .pointer (some ⟨s_.2, 0, none⟩)), (35, .agg #[s_.1, .float .f32 t315, .float .f32 t316, .float .f32 t317])]) (fun s_ w' => (w'.cell? ⟨gb308, 0, none⟩ = some (.slice A0_0 l0_0.length c0_0) ∧ w'.cell? ⟨gb308, 1, none⟩ = some (.float .f32 a0_1) ∧ w'.cell? ⟨gb308, 2, none⟩ = some (.float .f32 a0_2) ∧ w'.cell? ⟨gb308, 3, none⟩ = some (.float .f32 a0_3) ∧ w'.cell? ⟨gb309, 0, none⟩ = some (.slice A1_0 l1_0.length c1_0) ∧ w'.cell? ⟨gb309, 1, none⟩ = some (.float .f32 a1_1) ∧ w'.cell? ⟨gb309, 2, none⟩ = some (.float .f32 a1_2) ∧ w'.cell? ⟨gb309, 3, none⟩ = some (.float .f32 a1_3)) ∧ (Kd.R (Kd.float .f32) 25 w' w.heap.size (fun k_ => k_ ≠ gb310) s_.1 y312) ∧ (w'.heap[gb308]? = some (.cells #[.slice A0_0 l0_0.length c0_0, .float .f32 a0_1, .float .f32 a0_2, .float .f32 a0_3] 29 (0, 0))) ∧ (w'.heap[gb309]? = some (.cells #[.slice A1_0 l1_0.length c1_0, .float .f32 a1_1, .float .f32 a1_2, .float .f32 a1_3] 29 (0, 0))) ∧ (w'.heap[gb310]? = some (.cells #[.float .f32 a2] 25 (0, 0))) ∧ (w'.heap[gb311]? = some (.cells #[.slice none 0 0, .float .f32 0, .float .f32 0, .float .f32 0] 29 (0, 0))) ∧ (w'.heap[s_.2]? = some (.cells #[.slice none 0 0, .float .f32 0, .float .f32 0, .float .f32 0] 29 (0, 0))) ∧ (w.heap.size ≤ s_.2) ∧ (w.heap.size ≤ s_.2) ∧ (gb308 ≠ s_.2) ∧ (s_.2 ≠ gb308) ∧ (gb309 ≠ s_.2) ∧ (s_.2 ≠ gb309) ∧ (gb310 ≠ s_.2) ∧ (s_.2 ≠ gb310) ∧ (gb311 ≠ s_.2) ∧ (s_.2 ≠ gb311) ∧ (Below w.heap.size w w')) ?_ ?_
   rotate_left
   ·intro hJ3_9_15_21_23
    refine join_ (σ := Value) 2 impl_mixFrames.z20 (fun s_ => [(16, s_), (22, .float .f32 t315), (28, .float .f32 t316), (34, .float .f32 t317), (35, .agg #[s_, .float .f32 t315, .float .f32 t316, .float .f32 t317])]) (fun s_ w' => (w'.cell? ⟨gb308, 0, none⟩ = some (.slice A0_0 l0_0.length c0_0) ∧ w'.cell? ⟨gb308, 1, none⟩ = some (.float .f32 a0_1) ∧ w'.cell? ⟨gb308, 2, none⟩ = some (.float .f32 a0_2) ∧ w'.cell? ⟨gb308, 3, none⟩ = some (.float .f32 a0_3) ∧ w'.cell? ⟨gb309, 0, none⟩ = some (.slice A1_0 l1_0.length c1_0) ∧ w'.cell? ⟨gb309, 1, none⟩ = some (.float .f32 a1_1) ∧ w'.cell? ⟨gb309, 2, none⟩ = some (.float .f32 a1_2) ∧ w'.cell? ⟨gb309, 3, none⟩ = some (.float .f32 a1_3)) ∧ (Kd.R (Kd.float .f32) 25 w' w.heap.size (fun k_ => k_ ≠ gb310) s_ y312) ∧ (w'.heap[gb308]? = some (.cells #[.slice A0_0 l0_0.length c0_0, .float .f32 a0_1, .float .f32 a0_2, .float .f32 a0_3] 29 (0, 0))) ∧ (w'.heap[gb309]? = some (.cells #[.slice A1_0 l1_0.length c1_0, .float .f32 a1_1, .float .f32 a1_2, .float .f32 a1_3] 29 (0, 0))) ∧ (w'.heap[gb310]? = some (.cells #[.float .f32 a2] 25 (0, 0))) ∧ (w'.heap[gb311]? = some (.cells #[.slice none 0 0, .float .f32 0, .float .f32 0, .float .f32 0] 29 (0, 0))) ∧ (Below w.heap.size w w')) ?_ ?_
    rotate_left
    ·intro hJ3_9_15_21
     refine join_ (σ := Value × Nat) 3 impl_mixFrames.z21 (fun s_ => [(16, s_.1), (22, .float .f32 t315), (28, .float .f32 t316), (9, .pointer (some ⟨s_.2, 0, none⟩))]) (fun s_ w' => (w'.cell? ⟨gb308, 0, none⟩ = some (.slice A0_0 l0_0.length c0_0) ∧ w'.cell? ⟨gb308, 1, none⟩ = some (.float .f32 a0_1) ∧ w'.cell? ⟨gb308, 2, none⟩ = some (.float .f32 a0_2) ∧ w'.cell? ⟨gb308, 3, none⟩ = some (.float .f32 a0_3) ∧ w'.cell? ⟨gb309, 0, none⟩ = some (.slice A1_0 l1_0.length c1_0) ∧ w'.cell? ⟨gb309, 1, none⟩ = some (.float .f32 a1_1) ∧ w'.cell? ⟨gb309, 2, none⟩ = some (.float .f32 a1_2) ∧ w'.cell? ⟨gb309, 3, none⟩ = some (.float .f32 a1_3)) ∧ (Kd.R (Kd.float .f32) 25 w' w.heap.size (fun k_ => k_ ≠ gb310) s_.1 y312) ∧ (w'.heap[gb308]? = some (.cells #[.slice A0_0 l0_0.length c0_0, .float .f32 a0_1, .float .f32 a0_2, .float .f32 a0_3] 29 (0, 0))) ∧ (w'.heap[gb309]? = some (.cells #[.slice A1_0 l1_0.length c1_0, .float .f32 a1_1, .float .f32 a1_2, .float .f32 a1_3] 29 (0, 0))) ∧ (w'.heap[gb310]? = some (.cells #[.float .f32 a2] 25 (0, 0))) ∧ (w'.heap[gb311]? = some (.cells #[.slice none 0 0, .float .f32 0, .float .f32 0, .float .f32 0] 29 (0, 0))) ∧ (w'.heap[s_.2]? = some (.cells #[.slice none 0 0, .float .f32 0, .float .f32 0, .float .f32 0] 29 (0, 0))) ∧ (w.heap.size ≤ s_.2) ∧ (w.heap.size ≤ s_.2) ∧ (gb308 ≠ s_.2) ∧ (s_.2 ≠ gb308) ∧ (gb309 ≠ s_.2) ∧ (s_.2 ≠ gb309) ∧ (gb310 ≠ s_.2) ∧ (s_.2 ≠ gb310) ∧ (gb311 ≠ s_.2) ∧ (s_.2 ≠ gb311) ∧ (Below w.heap.size w w')) ?_ ?_
     rotate_left
     ·intro hJ3_9_15_23
      refine join_ (σ := Nat) 3 impl_mixFrames.z22 (fun s_ => [(22, .float .f32 t315), (28, .float .f32 t316), (34, .float .f32 t317), (9, .pointer (some ⟨s_, 0, none⟩))]) (fun s_ w' => (w'.cell? ⟨gb308, 0, none⟩ = some (.slice A0_0 l0_0.length c0_0) ∧ w'.cell? ⟨gb308, 1, none⟩ = some (.float .f32 a0_1) ∧ w'.cell? ⟨gb308, 2, none⟩ = some (.float .f32 a0_2) ∧ w'.cell? ⟨gb308, 3, none⟩ = some (.float .f32 a0_3) ∧ w'.cell? ⟨gb309, 0, none⟩ = some (.slice A1_0 l1_0.length c1_0) ∧ w'.cell? ⟨gb309, 1, none⟩ = some (.float .f32 a1_1) ∧ w'.cell? ⟨gb309, 2, none⟩ = some (.float .f32 a1_2) ∧ w'.cell? ⟨gb309, 3, none⟩ = some (.float .f32 a1_3)) ∧ (w'.heap[gb308]? = some (.cells #[.slice A0_0 l0_0.length c0_0, .float .f32 a0_1, .float .f32 a0_2, .float .f32 a0_3] 29 (0, 0))) ∧ (w'.heap[gb309]? = some (.cells #[.slice A1_0 l1_0.length c1_0, .float .f32 a1_1, .float .f32 a1_2, .float .f32 a1_3] 29 (0, 0))) ∧ (w'.heap[gb310]? = some (.cells #[.float .f32 a2] 25 (0, 0))) ∧ (w'.heap[gb311]? = some (.cells #[.slice none 0 0, .float .f32 0, .float .f32 0, .float .f32 0] 29 (0, 0))) ∧ (w'.heap[s_]? = some (.cells #[.slice none 0 0, .float .f32 0, .float .f32 0, .float .f32 0] 29 (0, 0))) ∧ (w.heap.size ≤ s_) ∧ (w.heap.size ≤ s_) ∧ (gb308 ≠ s_) ∧ (s_ ≠ gb308) ∧ (gb309 ≠ s_) ∧ (s_ ≠ gb309) ∧ (gb310 ≠ s_) ∧ (s_ ≠ gb310) ∧ (gb311 ≠ s_) ∧ (s_ ≠ gb311) ∧ (Below w.heap.size w w')) ?_ ?_
      rotate_left
      ·intro hJ9_15_21_23
       refine join_ (σ := Value) 4 impl_mixFrames.z23 (fun s_ => [(16, s_), (22, .float .f32 t315), (28, .float .f32 t316)]) (fun s_ w' => (w'.cell? ⟨gb308, 0, none⟩ = some (.slice A0_0 l0_0.length c0_0) ∧ w'.cell? ⟨gb308, 1, none⟩ = some (.float .f32 a0_1) ∧ w'.cell? ⟨gb308, 2, none⟩ = some (.float .f32 a0_2) ∧ w'.cell? ⟨gb308, 3, none⟩ = some (.float .f32 a0_3) ∧ w'.cell? ⟨gb309, 0, none⟩ = some (.slice A1_0 l1_0.length c1_0) ∧ w'.cell? ⟨gb309, 1, none⟩ = some (.float .f32 a1_1) ∧ w'.cell? ⟨gb309, 2, none⟩ = some (.float .f32 a1_2) ∧ w'.cell? ⟨gb309, 3, none⟩ = some (.float .f32 a1_3)) ∧ (Kd.R (Kd.float .f32) 25 w' w.heap.size (fun k_ => k_ ≠ gb310) s_ y312) ∧ (w'.heap[gb308]? = some (.cells #[.slice A0_0 l0_0.length c0_0, .float .f32 a0_1, .float .f32 a0_2, .float .f32 a0_3] 29 (0, 0))) ∧ (w'.heap[gb309]? = some (.cells #[.slice A1_0 l1_0.length c1_0, .float .f32 a1_1, .float .f32 a1_2, .float .f32 a1_3] 29 (0, 0))) ∧ (w'.heap[gb310]? = some (.cells #[.float .f32 a2] 25 (0, 0))) ∧ (w'.heap[gb311]? = some (.cells #[.slice none 0 0, .float .f32 0, .float .f32 0, .float .f32 0] 29 (0, 0))) ∧ (Below w.heap.size w w')) ?_ ?_
       rotate_left
       ·intro hJ3_9_15
        refine join_ (σ := Value × Nat) 4 impl_mixFrames.z24 (fun s_ => [(16, s_.1), (22, .float .f32 t315), (9, .pointer (some ⟨s_.2, 0, none⟩))]) (fun s_ w' => (w'.cell? ⟨gb308, 0, none⟩ = some (.slice A0_0 l0_0.length c0_0) ∧ w'.cell? ⟨gb308, 1, none⟩ = some (.float .f32 a0_1) ∧ w'.cell? ⟨gb308, 2, none⟩ = some (.float .f32 a0_2) ∧ w'.cell? ⟨gb308, 3, none⟩ = some (.float .f32 a0_3) ∧ w'.cell? ⟨gb309, 0, none⟩ = some (.slice A1_0 l1_0.length c1_0) ∧ w'.cell? ⟨gb309, 1, none⟩ = some (.float .f32 a1_1) ∧ w'.cell? ⟨gb309, 2, none⟩ = some (.float .f32 a1_2) ∧ w'.cell? ⟨gb309, 3, none⟩ = some (.float .f32 a1_3)) ∧ (Kd.R (Kd.float .f32) 25 w' w.heap.size (fun k_ => k_ ≠ gb310) s_.1 y312) ∧ (w'.heap[gb308]? = some (.cells #[.slice A0_0 l0_0.length c0_0, .float .f32 a0_1, .float .f32 a0_2, .float .f32 a0_3] 29 (0, 0))) ∧ (w'.heap[gb309]? = some (.cells #[.slice A1_0 l1_0.length c1_0, .float .f32 a1_1, .float .f32 a1_2, .float .f32 a1_3] 29 (0, 0))) ∧ (w'.heap[gb310]? = some (.cells #[.float .f32 a2] 25 (0, 0))) ∧ (w'.heap[gb311]? = some (.cells #[.slice none 0 0, .float .f32 0, .float .f32 0, .float .f32 0] 29 (0, 0))) ∧ (w'.heap[s_.2]? = some (.cells #[.slice none 0 0, .float .f32 0, .float .f32 0, .float .f32 0] 29 (0, 0))) ∧ (w.heap.size ≤ s_.2) ∧ (w.heap.size ≤ s_.2) ∧ (gb308 ≠ s_.2) ∧ (s_.2 ≠ gb308) ∧ (gb309 ≠ s_.2) ∧ (s_.2 ≠ gb309) ∧ (gb310 ≠ s_.2) ∧ (s_.2 ≠ gb310) ∧ (gb311 ≠ s_.2) ∧ (s_.2 ≠ gb311) ∧ (Below w.heap.size w w')) ?_ ?_
        rotate_left
        ·intro hJ3_9_23
         refine join_ (σ := Unit) 4 impl_mixFrames.z25 (fun s_ => [(22, .float .f32 t315), (28, .float .f32 t316), (34, .float .f32 t317)]) (fun s_ w' => (w'.cell? ⟨gb308, 0, none⟩ = some (.slice A0_0 l0_0.length c0_0) ∧ w'.cell? ⟨gb308, 1, none⟩ = some (.float .f32 a0_1) ∧ w'.cell? ⟨gb308, 2, none⟩ = some (.float .f32 a0_2) ∧ w'.cell? ⟨gb308, 3, none⟩ = some (.float .f32 a0_3) ∧ w'.cell? ⟨gb309, 0, none⟩ = some (.slice A1_0 l1_0.length c1_0) ∧ w'.cell? ⟨gb309, 1, none⟩ = some (.float .f32 a1_1) ∧ w'.cell? ⟨gb309, 2, none⟩ = some (.float .f32 a1_2) ∧ w'.cell? ⟨gb309, 3, none⟩ = some (.float .f32 a1_3)) ∧ (w'.heap[gb308]? = some (.cells #[.slice A0_0 l0_0.length c0_0, .float .f32 a0_1, .float .f32 a0_2, .float .f32 a0_3] 29 (0, 0))) ∧ (w'.heap[gb309]? = some (.cells #[.slice A1_0 l1_0.length c1_0, .float .f32 a1_1, .float .f32 a1_2, .float .f32 a1_3] 29 (0, 0))) ∧ (w'.heap[gb310]? = some (.cells #[.float .f32 a2] 25 (0, 0))) ∧ (w'.heap[gb311]? = some (.cells #[.slice none 0 0, .float .f32 0, .float .f32 0, .float .f32 0] 29 (0, 0))) ∧ (Below w.heap.size w w')) ?_ ?_
         rotate_left
         ·intro hJ9_15_21
          refine join_ (σ := Nat) 4 impl_mixFrames.z26 (fun s_ => [(22, .float .f32 t315), (28, .float .f32 t316), (9, .pointer (some ⟨s_, 0, none⟩))]) (fun s_ w' => (w'.cell? ⟨gb308, 0, none⟩ = some (.slice A0_0 l0_0.length c0_0) ∧ w'.cell? ⟨gb308, 1, none⟩ = some (.float .f32 a0_1) ∧ w'.cell? ⟨gb308, 2, none⟩ = some (.float .f32 a0_2) ∧ w'.cell? ⟨gb308, 3, none⟩ = some (.float .f32 a0_3) ∧ w'.cell? ⟨gb309, 0, none⟩ = some (.slice A1_0 l1_0.length c1_0) ∧ w'.cell? ⟨gb309, 1, none⟩ = some (.float .f32 a1_1) ∧ w'.cell? ⟨gb309, 2, none⟩ = some (.float .f32 a1_2) ∧ w'.cell? ⟨gb309, 3, none⟩ = some (.float .f32 a1_3)) ∧ (w'.heap[gb308]? = some (.cells #[.slice A0_0 l0_0.length c0_0, .float .f32 a0_1, .float .f32 a0_2, .float .f32 a0_3] 29 (0, 0))) ∧ (w'.heap[gb309]? = some (.cells #[.slice A1_0 l1_0.length c1_0, .float .f32 a1_1, .float .f32 a1_2, .float .f32 a1_3] 29 (0, 0))) ∧ (w'.heap[gb310]? = some (.cells #[.float .f32 a2] 25 (0, 0))) ∧ (w'.heap[gb311]? = some (.cells #[.slice none 0 0, .float .f32 0, .float .f32 0, .float .f32 0] 29 (0, 0))) ∧ (w'.heap[s_]? = some (.cells #[.slice none 0 0, .float .f32 0, .float .f32 0, .float .f32 0] 29 (0, 0))) ∧ (w.heap.size ≤ s_) ∧ (w.heap.size ≤ s_) ∧ (gb308 ≠ s_) ∧ (s_ ≠ gb308) ∧ (gb309 ≠ s_) ∧ (s_ ≠ gb309) ∧ (gb310 ≠ s_) ∧ (s_ ≠ gb310) ∧ (gb311 ≠ s_) ∧ (s_ ≠ gb311) ∧ (Below w.heap.size w w')) ?_ ?_
          rotate_left
          ·intro hJ9_15_23
           refine join_ (σ := Value) 5 impl_mixFrames.z27 (fun s_ => [(16, s_), (22, .float .f32 t315)]) (fun s_ w' => (w'.cell? ⟨gb308, 0, none⟩ = some (.slice A0_0 l0_0.length c0_0) ∧ w'.cell? ⟨gb308, 1, none⟩ = some (.float .f32 a0_1) ∧ w'.cell? ⟨gb308, 2, none⟩ = some (.float .f32 a0_2) ∧ w'.cell? ⟨gb308, 3, none⟩ = some (.float .f32 a0_3) ∧ w'.cell? ⟨gb309, 0, none⟩ = some (.slice A1_0 l1_0.length c1_0) ∧ w'.cell? ⟨gb309, 1, none⟩ = some (.float .f32 a1_1) ∧ w'.cell? ⟨gb309, 2, none⟩ = some (.float .f32 a1_2) ∧ w'.cell? ⟨gb309, 3, none⟩ = some (.float .f32 a1_3)) ∧ (Kd.R (Kd.float .f32) 25 w' w.heap.size (fun k_ => k_ ≠ gb310) s_ y312) ∧ (w'.heap[gb308]? = some (.cells #[.slice A0_0 l0_0.length c0_0, .float .f32 a0_1, .float .f32 a0_2, .float .f32 a0_3] 29 (0, 0))) ∧ (w'.heap[gb309]? = some (.cells #[.slice A1_0 l1_0.length c1_0, .float .f32 a1_1, .float .f32 a1_2, .float .f32 a1_3] 29 (0, 0))) ∧ (w'.heap[gb310]? = some (.cells #[.float .f32 a2] 25 (0, 0))) ∧ (w'.heap[gb311]? = some (.cells #[.slice none 0 0, .float .f32 0, .float .f32 0, .float .f32 0] 29 (0, 0))) ∧ (Below w.heap.size w w')) ?_ ?_
           rotate_left
           ·intro hJ3_9
            refine join_ (σ := Value × Nat) 5 impl_mixFrames.z28 (fun s_ => [(16, s_.1), (9, .pointer (some ⟨s_.2, 0, none⟩))]) (fun s_ w' => (w'.cell? ⟨gb308, 0, none⟩ = some (.slice A0_0 l0_0.length c0_0) ∧ w'.cell? ⟨gb308, 1, none⟩ = some (.float .f32 a0_1) ∧ w'.cell? ⟨gb308, 2, none⟩ = some (.float .f32 a0_2) ∧ w'.cell? ⟨gb308, 3, none⟩ = some (.float .f32 a0_3) ∧ w'.cell? ⟨gb309, 0, none⟩ = some (.slice A1_0 l1_0.length c1_0) ∧ w'.cell? ⟨gb309, 1, none⟩ = some (.float .f32 a1_1) ∧ w'.cell? ⟨gb309, 2, none⟩ = some (.float .f32 a1_2) ∧ w'.cell? ⟨gb309, 3, none⟩ = some (.float .f32 a1_3)) ∧ (Kd.R (Kd.float .f32) 25 w' w.heap.size (fun k_ => k_ ≠ gb310) s_.1 y312) ∧ (w'.heap[gb308]? = some (.cells #[.slice A0_0 l0_0.length c0_0, .float .f32 a0_1, .float .f32 a0_2, .float .f32 a0_3] 29 (0, 0))) ∧ (w'.heap[gb309]? = some (.cells #[.slice A1_0 l1_0.length c1_0, .float .f32 a1_1, .float .f32 a1_2, .float .f32 a1_3] 29 (0, 0))) ∧ (w'.heap[gb310]? = some (.cells #[.float .f32 a2] 25 (0, 0))) ∧ (w'.heap[gb311]? = some (.cells #[.slice none 0 0, .float .f32 0, .float .f32 0, .float .f32 0] 29 (0, 0))) ∧ (w'.heap[s_.2]? = some (.cells #[.slice none 0 0, .float .f32 0, .float .f32 0, .float .f32 0] 29 (0, 0))) ∧ (w.heap.size ≤ s_.2) ∧ (w.heap.size ≤ s_.2) ∧ (gb308 ≠ s_.2) ∧ (s_.2 ≠ gb308) ∧ (gb309 ≠ s_.2) ∧ (s_.2 ≠ gb309) ∧ (gb310 ≠ s_.2) ∧ (s_.2 ≠ gb310) ∧ (gb311 ≠ s_.2) ∧ (s_.2 ≠ gb311) ∧ (Below w.heap.size w w')) ?_ ?_
            rotate_left
            ·intro hJ3_23
             refine join_ (σ := Unit) 5 impl_mixFrames.z29 (fun s_ => [(22, .float .f32 t315), (28, .float .f32 t316)]) (fun s_ w' => (w'.cell? ⟨gb308, 0, none⟩ = some (.slice A0_0 l0_0.length c0_0) ∧ w'.cell? ⟨gb308, 1, none⟩ = some (.float .f32 a0_1) ∧ w'.cell? ⟨gb308, 2, none⟩ = some (.float .f32 a0_2) ∧ w'.cell? ⟨gb308, 3, none⟩ = some (.float .f32 a0_3) ∧ w'.cell? ⟨gb309, 0, none⟩ = some (.slice A1_0 l1_0.length c1_0) ∧ w'.cell? ⟨gb309, 1, none⟩ = some (.float .f32 a1_1) ∧ w'.cell? ⟨gb309, 2, none⟩ = some (.float .f32 a1_2) ∧ w'.cell? ⟨gb309, 3, none⟩ = some (.float .f32 a1_3)) ∧ (w'.heap[gb308]? = some (.cells #[.slice A0_0 l0_0.length c0_0, .float .f32 a0_1, .float .f32 a0_2, .float .f32 a0_3] 29 (0, 0))) ∧ (w'.heap[gb309]? = some (.cells #[.slice A1_0 l1_0.length c1_0, .float .f32 a1_1, .float .f32 a1_2, .float .f32 a1_3] 29 (0, 0))) ∧ (w'.heap[gb310]? = some (.cells #[.float .f32 a2] 25 (0, 0))) ∧ (w'.heap[gb311]? = some (.cells #[.slice none 0 0, .float .f32 0, .float .f32 0, .float .f32 0] 29 (0, 0))) ∧ (Below w.heap.size w w')) ?_ ?_
             rotate_left
             ·intro hJ9_15
              refine join_ (σ := Nat) 5 impl_mixFrames.z30 (fun s_ => [(22, .float .f32 t315), (9, .pointer (some ⟨s_, 0, none⟩))]) (fun s_ w' => (w'.cell? ⟨gb308, 0, none⟩ = some (.slice A0_0 l0_0.length c0_0) ∧ w'.cell? ⟨gb308, 1, none⟩ = some (.float .f32 a0_1) ∧ w'.cell? ⟨gb308, 2, none⟩ = some (.float .f32 a0_2) ∧ w'.cell? ⟨gb308, 3, none⟩ = some (.float .f32 a0_3) ∧ w'.cell? ⟨gb309, 0, none⟩ = some (.slice A1_0 l1_0.length c1_0) ∧ w'.cell? ⟨gb309, 1, none⟩ = some (.float .f32 a1_1) ∧ w'.cell? ⟨gb309, 2, none⟩ = some (.float .f32 a1_2) ∧ w'.cell? ⟨gb309, 3, none⟩ = some (.float .f32 a1_3)) ∧ (w'.heap[gb308]? = some (.cells #[.slice A0_0 l0_0.length c0_0, .float .f32 a0_1, .float .f32 a0_2, .float .f32 a0_3] 29 (0, 0))) ∧ (w'.heap[gb309]? = some (.cells #[.slice A1_0 l1_0.length c1_0, .float .f32 a1_1, .float .f32 a1_2, .float .f32 a1_3] 29 (0, 0))) ∧ (w'.heap[gb310]? = some (.cells #[.float .f32 a2] 25 (0, 0))) ∧ (w'.heap[gb311]? = some (.cells #[.slice none 0 0, .float .f32 0, .float .f32 0, .float .f32 0] 29 (0, 0))) ∧ (w'.heap[s_]? = some (.cells #[.slice none 0 0, .float .f32 0, .float .f32 0, .float .f32 0] 29 (0, 0))) ∧ (w.heap.size ≤ s_) ∧ (w.heap.size ≤ s_) ∧ (gb308 ≠ s_) ∧ (s_ ≠ gb308) ∧ (gb309 ≠ s_) ∧ (s_ ≠ gb309) ∧ (gb310 ≠ s_) ∧ (s_ ≠ gb310) ∧ (gb311 ≠ s_) ∧ (s_ ≠ gb311) ∧ (Below w.heap.size w w')) ?_ ?_
              rotate_left
              ·intro hJ9_23
               refine join_ (σ := Value) 6 impl_mixFrames.z31 (fun s_ => [(16, s_)]) (fun s_ w' => (w'.cell? ⟨gb308, 0, none⟩ = some (.slice A0_0 l0_0.length c0_0) ∧ w'.cell? ⟨gb308, 1, none⟩ = some (.float .f32 a0_1) ∧ w'.cell? ⟨gb308, 2, none⟩ = some (.float .f32 a0_2) ∧ w'.cell? ⟨gb308, 3, none⟩ = some (.float .f32 a0_3) ∧ w'.cell? ⟨gb309, 0, none⟩ = some (.slice A1_0 l1_0.length c1_0) ∧ w'.cell? ⟨gb309, 1, none⟩ = some (.float .f32 a1_1) ∧ w'.cell? ⟨gb309, 2, none⟩ = some (.float .f32 a1_2) ∧ w'.cell? ⟨gb309, 3, none⟩ = some (.float .f32 a1_3)) ∧ (Kd.R (Kd.float .f32) 25 w' w.heap.size (fun k_ => k_ ≠ gb310) s_ y312) ∧ (w'.heap[gb308]? = some (.cells #[.slice A0_0 l0_0.length c0_0, .float .f32 a0_1, .float .f32 a0_2, .float .f32 a0_3] 29 (0, 0))) ∧ (w'.heap[gb309]? = some (.cells #[.slice A1_0 l1_0.length c1_0, .float .f32 a1_1, .float .f32 a1_2, .float .f32 a1_3] 29 (0, 0))) ∧ (w'.heap[gb310]? = some (.cells #[.float .f32 a2] 25 (0, 0))) ∧ (w'.heap[gb311]? = some (.cells #[.slice none 0 0, .float .f32 0, .float .f32 0, .float .f32 0] 29 (0, 0))) ∧ (Below w.heap.size w w')) ?_ ?_
               rotate_left
               ·intro hJ3
                refine join_ (σ := Unit) 6 impl_mixFrames.z32 (fun s_ => [(22, .float .f32 t315)]) (fun s_ w' => (w'.cell? ⟨gb308, 0, none⟩ = some (.slice A0_0 l0_0.length c0_0) ∧ w'.cell? ⟨gb308, 1, none⟩ = some (.float .f32 a0_1) ∧ w'.cell? ⟨gb308, 2, none⟩ = some (.float .f32 a0_2) ∧ w'.cell? ⟨gb308, 3, none⟩ = some (.float .f32 a0_3) ∧ w'.cell? ⟨gb309, 0, none⟩ = some (.slice A1_0 l1_0.length c1_0) ∧ w'.cell? ⟨gb309, 1, none⟩ = some (.float .f32 a1_1) ∧ w'.cell? ⟨gb309, 2, none⟩ = some (.float .f32 a1_2) ∧ w'.cell? ⟨gb309, 3, none⟩ = some (.float .f32 a1_3)) ∧ (w'.heap[gb308]? = some (.cells #[.slice A0_0 l0_0.length c0_0, .float .f32 a0_1, .float .f32 a0_2, .float .f32 a0_3] 29 (0, 0))) ∧ (w'.heap[gb309]? = some (.cells #[.slice A1_0 l1_0.length c1_0, .float .f32 a1_1, .float .f32 a1_2, .float .f32 a1_3] 29 (0, 0))) ∧ (w'.heap[gb310]? = some (.cells #[.float .f32 a2] 25 (0, 0))) ∧ (w'.heap[gb311]? = some (.cells #[.slice none 0 0, .float .f32 0, .float .f32 0, .float .f32 0] 29 (0, 0))) ∧ (Below w.heap.size w w')) ?_ ?_
                rotate_left
                ·intro hJ9
                 refine join_ (σ := Nat) 6 impl_mixFrames.z33 (fun s_ => [(9, .pointer (some ⟨s_, 0, none⟩))]) (fun s_ w' => (w'.cell? ⟨gb308, 0, none⟩ = some (.slice A0_0 l0_0.length c0_0) ∧ w'.cell? ⟨gb308, 1, none⟩ = some (.float .f32 a0_1) ∧ w'.cell? ⟨gb308, 2, none⟩ = some (.float .f32 a0_2) ∧ w'.cell? ⟨gb308, 3, none⟩ = some (.float .f32 a0_3) ∧ w'.cell? ⟨gb309, 0, none⟩ = some (.slice A1_0 l1_0.length c1_0) ∧ w'.cell? ⟨gb309, 1, none⟩ = some (.float .f32 a1_1) ∧ w'.cell? ⟨gb309, 2, none⟩ = some (.float .f32 a1_2) ∧ w'.cell? ⟨gb309, 3, none⟩ = some (.float .f32 a1_3)) ∧ (w'.heap[gb308]? = some (.cells #[.slice A0_0 l0_0.length c0_0, .float .f32 a0_1, .float .f32 a0_2, .float .f32 a0_3] 29 (0, 0))) ∧ (w'.heap[gb309]? = some (.cells #[.slice A1_0 l1_0.length c1_0, .float .f32 a1_1, .float .f32 a1_2, .float .f32 a1_3] 29 (0, 0))) ∧ (w'.heap[gb310]? = some (.cells #[.float .f32 a2] 25 (0, 0))) ∧ (w'.heap[gb311]? = some (.cells #[.slice none 0 0, .float .f32 0, .float .f32 0, .float .f32 0] 29 (0, 0))) ∧ (w'.heap[s_]? = some (.cells #[.slice none 0 0, .float .f32 0, .float .f32 0, .float .f32 0] 29 (0, 0))) ∧ (w.heap.size ≤ s_) ∧ (w.heap.size ≤ s_) ∧ (gb308 ≠ s_) ∧ (s_ ≠ gb308) ∧ (gb309 ≠ s_) ∧ (s_ ≠ gb309) ∧ (gb310 ≠ s_) ∧ (s_ ≠ gb310) ∧ (gb311 ≠ s_) ∧ (s_ ≠ gb311) ∧ (Below w.heap.size w w')) ?_ ?_
                 rotate_left
                 ·intro hJ23
                  refine three_ (i := 3) (j := 9) (k := 23) (Ni := some 16) (Nj := some 22) (Nk := some 9) impl_mixFrames.z31 impl_mixFrames.z32 impl_mixFrames.z33 rfl rfl rfl rfl rfl rfl (three_of HT_.out (by kernel_rfl)) (by decide) (by decide) (by decide) (fun K hK => ?_) (fun K hK => ?_) (fun K hK => ?_)
                  ·skip
                   refine Kd.R_make_step (Kd.float .f32) _ 25 (by rfl) (N := 16) rfl 24 _ _ rfl (l0_0.length : Int) rfl rfl Try.underlying24 (.float .f32 0) 4 info25 rfl (by decide) (by omega) 0 (ok := fun k_ => k_ ≠ gb310) (okp := fun _ => False) rfl (fun _ hk => hk.elim) (Nat.ne_of_gt (blk_lt (by (with_reducible repeat (first | refine blk_drewN ?_ _ | refine blk_drew ?_ | refine blk_alloc ?_ _)); exact BK310.out))) (of_decide_eq_true (by first | (with_reducible assumption) | assumption)) (Nat.le_trans (Nat.mul_le_mul_right _ (of_decide_eq_true (by first | (with_reducible assumption) | assumption) : (l0_0.length : Int).toNat ≤ 70368744177664)) (by omega)) (Below.refl _ _) (Nat.le_refl _) ?_
                   intro v313 w14 ho15 hb hg_ hnew_
                   clear hg_ hnew_
                   (first | rw [← Ny312.out] at ho15 | (simp only [Int.reduceToNat] at ho15; rw [← Ny312.out] at ho15))
                   have n0_ := Aside0.mk (Kd.R_lower ho15 (below_size (by repeat (first | (with_reducible first | exact HB.out | apply below_alloc | apply pw_below_drewN | apply below_drew1 | refine below_set ?_ GE308.out | refine below_set ?_ GE309.out | refine below_set ?_ GE310.out | refine below_set ?_ GE311.out) | exact HB.out))))
                   have n1_ := Aside0.mk (blk_below (g := gb308) (o := .cells #[.slice A0_0 l0_0.length c0_0, .float .f32 a0_1, .float .f32 a0_2, .float .f32 a0_3] 29 (0, 0)) (by (with_reducible repeat (first | refine blk_drewN ?_ _ | refine blk_drew ?_ | refine blk_alloc ?_ _)); exact BK308.out) hb)
                   have n2_ := Aside0.mk (blk_below (g := gb309) (o := .cells #[.slice A1_0 l1_0.length c1_0, .float .f32 a1_1, .float .f32 a1_2, .float .f32 a1_3] 29 (0, 0)) (by (with_reducible repeat (first | refine blk_drewN ?_ _ | refine blk_drew ?_ | refine blk_alloc ?_ _)); exact BK309.out) hb)
                   have n3_ := Aside0.mk (blk_below (g := gb310) (o := .cells #[.float .f32 a2] 25 (0, 0)) (by (with_reducible repeat (first | refine blk_drewN ?_ _ | refine blk_drew ?_ | refine blk_alloc ?_ _)); exact BK310.out) hb)
                   have n4_ := Aside0.mk (blk_below (g := gb311) (o := .cells #[.slice none 0 0, .float .f32 0, .float .f32 0, .float .f32 0] 29 (0, 0)) (by (with_reducible repeat (first | refine blk_drewN ?_ _ | refine blk_drew ?_ | refine blk_alloc ?_ _)); exact BK311.out) hb)
                   have n5_ := Aside0.mk (below_step (by repeat (first | (with_reducible first | exact HB.out | apply below_alloc | apply pw_below_drewN | apply below_drew1 | refine below_set ?_ GE308.out | refine below_set ?_ GE309.out | refine below_set ?_ GE310.out | refine below_set ?_ GE311.out) | exact HB.out)) hb)
                   clear BK308
                   clear BK309
                   clear BK310
                   clear BK311
                   clear HB
                   have HO314 := n0_
                   have BK308 := n1_
                   have BK309 := n2_
                   have BK310 := n3_
                   have BK311 := n4_
                   have HB := n5_
                   clear n0_ n1_ n2_ n3_ n4_ n5_
                   clear hb ho15
                   refine hK.out _ _ ⟨(blk_cell BK308.out 0).trans rfl, (blk_cell BK308.out 1).trans rfl, (blk_cell BK308.out 2).trans rfl, (blk_cell BK308.out 3).trans rfl, (blk_cell BK309.out 0).trans rfl, (blk_cell BK309.out 1).trans rfl, (blk_cell BK309.out 2).trans rfl, (blk_cell BK309.out 3).trans rfl⟩ (fun hHeld => ?_)
                   clear hK K
                   refine norm_ (a' := ?_) ?_ ?_
                   rotate_left
                   ·show Act.put _ (some 16) _ = _
                    pw_
                   exact norm_ (by first | (simp only [putAll, Act.put, List.setIfInBounds_toArray, List.set_cons_zero, List.set_cons_succ]; done) | (simp only [putAll, Act.put, List.setIfInBounds_toArray, List.set_cons_zero, List.set_cons_succ]; rfl)) (hJ3 (v313) _ ⟨hHeld, (by (with_reducible repeat (first | apply Kd.R_alloc | apply Kd.R_drewN | apply Kd.R_drew)); exact HO314.out), (by (with_reducible repeat (first | refine blk_drewN ?_ _ | refine blk_drew ?_ | refine blk_alloc ?_ _)); exact BK308.out), (by (with_reducible repeat (first | refine blk_drewN ?_ _ | refine blk_drew ?_ | refine blk_alloc ?_ _)); exact BK309.out), (by (with_reducible repeat (first | refine blk_drewN ?_ _ | refine blk_drew ?_ | refine blk_alloc ?_ _)); exact BK310.out), (by (with_reducible repeat (first | refine blk_drewN ?_ _ | refine blk_drew ?_ | refine blk_alloc ?_ _)); exact BK311.out), (by repeat (first | (with_reducible first | exact HB.out | apply below_alloc | apply pw_below_drewN | apply below_drew1 | refine below_set ?_ GE308.out | refine below_set ?_ GE309.out | refine below_set ?_ GE310.out | refine below_set ?_ GE311.out) | exact HB.out))⟩)
                  ·skip
                   refine goesV_ #[.pointer (some ⟨gb310, 0, none⟩)] Try.func113 (by kernel_rfl) rfl #[.float .f32 a0_1, .float .f32 a1_1, .pointer (some ⟨gb310, 0, none⟩)] (by rfl) rfl rfl rfl (by (try simp only [List.map_toArray, List.map_cons, List.map_nil]); first | done | rfl | (simp only [List.length_drop, List.length_take]; rfl)) ?_
                   with_reducible refine (impl_mixFrames_1.calls a0_1 a1_1 _ [(⟨a2⟩ : S25)] t315 _ ?side1 A6.out).mono ?_
                   (case side1 => exact Kd.C_one (T := 25) (by (with_reducible repeat (first | refine blk_drewN ?_ _ | refine blk_drew ?_ | refine blk_alloc ?_ _)); exact BK310.out) (k25_mk _ (⟨a2⟩ : S25) ))
                   rintro e w' ⟨rfl, ⟨nd, rfl⟩⟩
                   refine ⟨_, rfl, ?_⟩
                   refine hK.out _ _ ⟨(blk_cell BK308.out 0).trans rfl, (blk_cell BK308.out 1).trans rfl, (blk_cell BK308.out 2).trans rfl, (blk_cell BK308.out 3).trans rfl, (blk_cell BK309.out 0).trans rfl, (blk_cell BK309.out 1).trans rfl, (blk_cell BK309.out 2).trans rfl, (blk_cell BK309.out 3).trans rfl⟩ (fun hHeld => ?_)
                   clear hK K
                   refine norm_ (a' := ?_) ?_ ?_
                   rotate_left
                   ·show Act.put _ (some 22) _ = _
                    pw_
                   exact norm_ (by first | (simp only [putAll, Act.put, List.setIfInBounds_toArray, List.set_cons_zero, List.set_cons_succ]; done) | (simp only [putAll, Act.put, List.setIfInBounds_toArray, List.set_cons_zero, List.set_cons_succ]; rfl)) (hJ9 () _ ⟨hHeld, (by (with_reducible repeat (first | refine blk_drewN ?_ _ | refine blk_drew ?_ | refine blk_alloc ?_ _)); exact BK308.out), (by (with_reducible repeat (first | refine blk_drewN ?_ _ | refine blk_drew ?_ | refine blk_alloc ?_ _)); exact BK309.out), (by (with_reducible repeat (first | refine blk_drewN ?_ _ | refine blk_drew ?_ | refine blk_alloc ?_ _)); exact BK310.out), (by (with_reducible repeat (first | refine blk_drewN ?_ _ | refine blk_drew ?_ | refine blk_alloc ?_ _)); exact BK311.out), (by repeat (first | (with_reducible first | exact HB.out | apply below_alloc | apply pw_below_drewN | apply below_drew1 | refine below_set ?_ GE308.out | refine below_set ?_ GE309.out | refine below_set ?_ GE310.out | refine below_set ?_ GE311.out) | exact HB.out))⟩)
                  ·skip
                   refine box_step ?hg (N := 9) ?hd (cs := #[.slice none 0 0, .float .f32 0, .float .f32 0, .float .f32 0]) (t := 29) ?hr ?_; (case hd => rfl); (case hg => rfl); (case hr => first | (go_simp; done) | (go_simp; rfl) | (simp (disch := omega) only [w64_id]; go_simp; done) | (go_simp; simp (disch := omega) only [w64_id]; done))
                   intro gb318 hg w14 hbox hb
                   have n0_ := Aside0.mk (blk_below (g := gb308) (o := .cells #[.slice A0_0 l0_0.length c0_0, .float .f32 a0_1, .float .f32 a0_2, .float .f32 a0_3] 29 (0, 0)) (by (with_reducible repeat (first | refine blk_drewN ?_ _ | refine blk_drew ?_ | refine blk_alloc ?_ _)); exact BK308.out) hb)
                   have n1_ := Aside0.mk (blk_below (g := gb309) (o := .cells #[.slice A1_0 l1_0.length c1_0, .float .f32 a1_1, .float .f32 a1_2, .float .f32 a1_3] 29 (0, 0)) (by (with_reducible repeat (first | refine blk_drewN ?_ _ | refine blk_drew ?_ | refine blk_alloc ?_ _)); exact BK309.out) hb)
                   have n2_ := Aside0.mk (blk_below (g := gb310) (o := .cells #[.float .f32 a2] 25 (0, 0)) (by (with_reducible repeat (first | refine blk_drewN ?_ _ | refine blk_drew ?_ | refine blk_alloc ?_ _)); exact BK310.out) hb)
                   have n3_ := Aside0.mk (blk_below (g := gb311) (o := .cells #[.slice none 0 0, .float .f32 0, .float .f32 0, .float .f32 0] 29 (0, 0)) (by (with_reducible repeat (first | refine blk_drewN ?_ _ | refine blk_drew ?_ | refine blk_alloc ?_ _)); exact BK311.out) hb)
                   have n4_ := Aside0.mk (below_step (by repeat (first | (with_reducible first | exact HB.out | apply below_alloc | apply pw_below_drewN | apply below_drew1 | refine below_set ?_ GE308.out | refine below_set ?_ GE309.out | refine below_set ?_ GE310.out | refine below_set ?_ GE311.out) | exact HB.out)) hb)
                   have n5_ := Aside0.mk (hbox)
                   have n6_ := Aside0.mk ((by rw [hg]; exact (below_size (by repeat (first | (with_reducible first | exact HB.out | apply below_alloc | apply pw_below_drewN | apply below_drew1 | refine below_set ?_ GE308.out | refine below_set ?_ GE309.out | refine below_set ?_ GE310.out | refine below_set ?_ GE311.out) | exact HB.out))) : w.heap.size ≤ gb318))
                   have n7_ := Aside0.mk ((by rw [hg]; exact (below_size (by repeat (first | (with_reducible first | exact HB.out | apply below_alloc | apply pw_below_drewN | apply below_drew1 | refine below_set ?_ GE308.out | refine below_set ?_ GE309.out | refine below_set ?_ GE310.out | refine below_set ?_ GE311.out) | exact HB.out))) : w.heap.size ≤ gb318))
                   have n8_ := Aside0.mk ((by rw [hg]; exact Nat.ne_of_lt (blk_lt (g := gb308) (o := .cells #[.slice A0_0 l0_0.length c0_0, .float .f32 a0_1, .float .f32 a0_2, .float .f32 a0_3] 29 (0, 0)) (by (with_reducible repeat (first | refine blk_drewN ?_ _ | refine blk_drew ?_ | refine blk_alloc ?_ _)); exact BK308.out)) : gb308 ≠ gb318))
                   have n9_ := Aside0.mk ((by rw [hg]; exact Nat.ne_of_gt (blk_lt (g := gb308) (o := .cells #[.slice A0_0 l0_0.length c0_0, .float .f32 a0_1, .float .f32 a0_2, .float .f32 a0_3] 29 (0, 0)) (by (with_reducible repeat (first | refine blk_drewN ?_ _ | refine blk_drew ?_ | refine blk_alloc ?_ _)); exact BK308.out)) : gb318 ≠ gb308))
                   have n10_ := Aside0.mk ((by rw [hg]; exact Nat.ne_of_lt (blk_lt (g := gb309) (o := .cells #[.slice A1_0 l1_0.length c1_0, .float .f32 a1_1, .float .f32 a1_2, .float .f32 a1_3] 29 (0, 0)) (by (with_reducible repeat (first | refine blk_drewN ?_ _ | refine blk_drew ?_ | refine blk_alloc ?_ _)); exact BK309.out)) : gb309 ≠ gb318))
                   have n11_ := Aside0.mk ((by rw [hg]; exact Nat.ne_of_gt (blk_lt (g := gb309) (o := .cells #[.slice A1_0 l1_0.length c1_0, .float .f32 a1_1, .float .f32 a1_2, .float .f32 a1_3] 29 (0, 0)) (by (with_reducible repeat (first | refine blk_drewN ?_ _ | refine blk_drew ?_ | refine blk_alloc ?_ _)); exact BK309.out)) : gb318 ≠ gb309))
                   have n12_ := Aside0.mk ((by rw [hg]; exact Nat.ne_of_lt (blk_lt (g := gb310) (o := .cells #[.float .f32 a2] 25 (0, 0)) (by (with_reducible repeat (first | refine blk_drewN ?_ _ | refine blk_drew ?_ | refine blk_alloc ?_ _)); exact BK310.out)) : gb310 ≠ gb318))
                   have n13_ := Aside0.mk ((by rw [hg]; exact Nat.ne_of_gt (blk_lt (g := gb310) (o := .cells #[.float .f32 a2] 25 (0, 0)) (by (with_reducible repeat (first | refine blk_drewN ?_ _ | refine blk_drew ?_ | refine blk_alloc ?_ _)); exact BK310.out)) : gb318 ≠ gb310))
                   have n14_ := Aside0.mk ((by rw [hg]; exact Nat.ne_of_lt (blk_lt (g := gb311) (o := .cells #[.slice none 0 0, .float .f32 0, .float .f32 0, .float .f32 0] 29 (0, 0)) (by (with_reducible repeat (first | refine blk_drewN ?_ _ | refine blk_drew ?_ | refine blk_alloc ?_ _)); exact BK311.out)) : gb311 ≠ gb318))
                   have n15_ := Aside0.mk ((by rw [hg]; exact Nat.ne_of_gt (blk_lt (g := gb311) (o := .cells #[.slice none 0 0, .float .f32 0, .float .f32 0, .float .f32 0] 29 (0, 0)) (by (with_reducible repeat (first | refine blk_drewN ?_ _ | refine blk_drew ?_ | refine blk_alloc ?_ _)); exact BK311.out)) : gb318 ≠ gb311))
                   clear BK308
                   clear BK309
                   clear BK310
                   clear BK311
                   clear HB
                   have BK308 := n0_
                   have BK309 := n1_
                   have BK310 := n2_
                   have BK311 := n3_
                   have HB := n4_
                   have BK318 := n5_
                   have GW318 := n6_
                   have GE318 := n7_
                   have NB308_318 := n8_
                   have NB318_308 := n9_
                   have NB309_318 := n10_
                   have NB318_309 := n11_
                   have NB310_318 := n12_
                   have NB318_310 := n13_
                   have NB311_318 := n14_
                   have NB318_311 := n15_
                   clear n0_ n1_ n2_ n3_ n4_ n5_ n6_ n7_ n8_ n9_ n10_ n11_ n12_ n13_ n14_ n15_
                   clear hb hbox hg
                   refine hK.out _ _ ⟨(blk_cell BK308.out 0).trans rfl, (blk_cell BK308.out 1).trans rfl, (blk_cell BK308.out 2).trans rfl, (blk_cell BK308.out 3).trans rfl, (blk_cell BK309.out 0).trans rfl, (blk_cell BK309.out 1).trans rfl, (blk_cell BK309.out 2).trans rfl, (blk_cell BK309.out 3).trans rfl⟩ (fun hHeld => ?_)
                   clear hK K
                   refine norm_ (a' := ?_) ?_ ?_
                   rotate_left
                   ·show Act.put _ (some 9) _ = _
                    pw_
                   exact norm_ (by first | (simp only [putAll, Act.put, List.setIfInBounds_toArray, List.set_cons_zero, List.set_cons_succ]; done) | (simp only [putAll, Act.put, List.setIfInBounds_toArray, List.set_cons_zero, List.set_cons_succ]; rfl)) (hJ23 (gb318) _ ⟨hHeld, (by (with_reducible repeat (first | refine blk_drewN ?_ _ | refine blk_drew ?_ | refine blk_alloc ?_ _)); exact BK308.out), (by (with_reducible repeat (first | refine blk_drewN ?_ _ | refine blk_drew ?_ | refine blk_alloc ?_ _)); exact BK309.out), (by (with_reducible repeat (first | refine blk_drewN ?_ _ | refine blk_drew ?_ | refine blk_alloc ?_ _)); exact BK310.out), (by (with_reducible repeat (first | refine blk_drewN ?_ _ | refine blk_drew ?_ | refine blk_alloc ?_ _)); exact BK311.out), (by (with_reducible repeat (first | refine blk_drewN ?_ _ | refine blk_drew ?_ | refine blk_alloc ?_ _)); exact BK318.out), GW318.out, GE318.out, NB308_318.out, NB318_308.out, NB309_318.out, NB318_309.out, NB310_318.out, NB318_310.out, NB311_318.out, NB318_311.out, (by repeat (first | (with_reducible first | exact HB.out | apply below_alloc | apply pw_below_drewN | apply below_drew1 | refine below_set ?_ GE308.out | refine below_set ?_ GE309.out | refine below_set ?_ GE310.out | refine below_set ?_ GE311.out | refine below_set ?_ GE318.out) | exact HB.out))⟩)
                 ·skip
                  rintro gb318 w15 ⟨hS_, h0_, h1_, h2_, h3_, h4_, h5_, h6_, h7_, h8_, h9_, h10_, h11_, h12_, h13_, h14_, h15_⟩
                  have n0_ : Aside0 (w15.heap[gb308]? = some (.cells #[.slice A0_0 l0_0.length c0_0, .float .f32 a0_1, .float .f32 a0_2, .float .f32 a0_3] 29 (0, 0))) := ⟨h0_⟩
                  have n1_ : Aside0 (w15.heap[gb309]? = some (.cells #[.slice A1_0 l1_0.length c1_0, .float .f32 a1_1, .float .f32 a1_2, .float .f32 a1_3] 29 (0, 0))) := ⟨h1_⟩
                  have n2_ : Aside0 (w15.heap[gb310]? = some (.cells #[.float .f32 a2] 25 (0, 0))) := ⟨h2_⟩
                  have n3_ : Aside0 (w15.heap[gb311]? = some (.cells #[.slice none 0 0, .float .f32 0, .float .f32 0, .float .f32 0] 29 (0, 0))) := ⟨h3_⟩
                  have n4_ : Aside0 (w15.heap[gb318]? = some (.cells #[.slice none 0 0, .float .f32 0, .float .f32 0, .float .f32 0] 29 (0, 0))) := ⟨h4_⟩
                  have n5_ : Aside0 (w.heap.size ≤ gb318) := ⟨h5_⟩
                  have n6_ : Aside0 (w.heap.size ≤ gb318) := ⟨h6_⟩
                  have n7_ : Aside0 (gb308 ≠ gb318) := ⟨h7_⟩
                  have n8_ : Aside0 (gb318 ≠ gb308) := ⟨h8_⟩
                  have n9_ : Aside0 (gb309 ≠ gb318) := ⟨h9_⟩
                  have n10_ : Aside0 (gb318 ≠ gb309) := ⟨h10_⟩
                  have n11_ : Aside0 (gb310 ≠ gb318) := ⟨h11_⟩
                  have n12_ : Aside0 (gb318 ≠ gb310) := ⟨h12_⟩
                  have n13_ : Aside0 (gb311 ≠ gb318) := ⟨h13_⟩
                  have n14_ : Aside0 (gb318 ≠ gb311) := ⟨h14_⟩
                  have n15_ : Aside0 (Below w.heap.size w w15) := ⟨h15_⟩
                  clear BK308
                  clear BK309
                  clear BK310
                  clear BK311
                  clear HB
                  clear h0_ h1_ h2_ h3_ h4_ h5_ h6_ h7_ h8_ h9_ h10_ h11_ h12_ h13_ h14_ h15_
                  have BK308 := n0_
                  have BK309 := n1_
                  have BK310 := n2_
                  have BK311 := n3_
                  have BK318 := n4_
                  have GW318 := n5_
                  have GE318 := n6_
                  have NB308_318 := n7_
                  have NB318_308 := n8_
                  have NB309_318 := n9_
                  have NB318_309 := n10_
                  have NB310_318 := n11_
                  have NB318_310 := n12_
                  have NB311_318 := n13_
                  have NB318_311 := n14_
                  have HB := n15_
                  clear n0_ n1_ n2_ n3_ n4_ n5_ n6_ n7_ n8_ n9_ n10_ n11_ n12_ n13_ n14_ n15_
                  have hHeld : w15.cell? ⟨gb308, 0, none⟩ = some (.slice A0_0 l0_0.length c0_0) ∧ w15.cell? ⟨gb308, 1, none⟩ = some (.float .f32 a0_1) ∧ w15.cell? ⟨gb308, 2, none⟩ = some (.float .f32 a0_2) ∧ w15.cell? ⟨gb308, 3, none⟩ = some (.float .f32 a0_3) ∧ w15.cell? ⟨gb309, 0, none⟩ = some (.slice A1_0 l1_0.length c1_0) ∧ w15.cell? ⟨gb309, 1, none⟩ = some (.float .f32 a1_1) ∧ w15.cell? ⟨gb309, 2, none⟩ = some (.float .f32 a1_2) ∧ w15.cell? ⟨gb309, 3, none⟩ = some (.float .f32 a1_3) := hS_
                  refine norm_ (a' := ?_) ?_ ?_
                  rotate_left
                  ·simp only [putAll, Act.put, List.setIfInBounds_toArray, List.set_cons_zero, List.set_cons_succ]
                   rfl
                  refine two_ (i := 3) (j := 9) (Ni := some 16) (Nj := some 22) impl_mixFrames.z28 impl_mixFrames.z30 rfl rfl rfl rfl (two_of HT_.out (by kernel_rfl)) (by decide) (by decide) (fun K hK => ?_) (fun K hK => ?_)
                  ·skip
                   refine Kd.R_make_step (Kd.float .f32) _ 25 (by rfl) (N := 16) rfl 24 _ _ rfl (l0_0.length : Int) rfl rfl Try.underlying24 (.float .f32 0) 4 info25 rfl (by decide) (by omega) 0 (ok := fun k_ => k_ ≠ gb310) (okp := fun _ => False) rfl (fun _ hk => hk.elim) (Nat.ne_of_gt (blk_lt (by (with_reducible repeat (first | refine blk_drewN ?_ _ | refine blk_drew ?_ | refine blk_alloc ?_ _)); exact BK310.out))) (of_decide_eq_true (by first | (with_reducible assumption) | assumption)) (Nat.le_trans (Nat.mul_le_mul_right _ (of_decide_eq_true (by first | (with_reducible assumption) | assumption) : (l0_0.length : Int).toNat ≤ 70368744177664)) (by omega)) (Below.refl _ _) (Nat.le_refl _) ?_
                   intro v313 w16 ho17 hb hg_ hnew_
                   clear hg_ hnew_
                   (first | rw [← Ny312.out] at ho17 | (simp only [Int.reduceToNat] at ho17; rw [← Ny312.out] at ho17))
                   have n0_ := Aside0.mk (Kd.R_lower ho17 (below_size (by repeat (first | (with_reducible first | exact HB.out | apply below_alloc | apply pw_below_drewN | apply below_drew1 | refine below_set ?_ GE308.out | refine below_set ?_ GE309.out | refine below_set ?_ GE310.out | refine below_set ?_ GE311.out | refine below_set ?_ GE318.out) | exact HB.out))))
                   have n1_ := Aside0.mk (blk_below (g := gb308) (o := .cells #[.slice A0_0 l0_0.length c0_0, .float .f32 a0_1, .float .f32 a0_2, .float .f32 a0_3] 29 (0, 0)) (by (with_reducible repeat (first | refine blk_drewN ?_ _ | refine blk_drew ?_ | refine blk_alloc ?_ _)); exact BK308.out) hb)
                   have n2_ := Aside0.mk (blk_below (g := gb309) (o := .cells #[.slice A1_0 l1_0.length c1_0, .float .f32 a1_1, .float .f32 a1_2, .float .f32 a1_3] 29 (0, 0)) (by (with_reducible repeat (first | refine blk_drewN ?_ _ | refine blk_drew ?_ | refine blk_alloc ?_ _)); exact BK309.out) hb)
                   have n3_ := Aside0.mk (blk_below (g := gb310) (o := .cells #[.float .f32 a2] 25 (0, 0)) (by (with_reducible repeat (first | refine blk_drewN ?_ _ | refine blk_drew ?_ | refine blk_alloc ?_ _)); exact BK310.out) hb)
                   have n4_ := Aside0.mk (blk_below (g := gb311) (o := .cells #[.slice none 0 0, .float .f32 0, .float .f32 0, .float .f32 0] 29 (0, 0)) (by (with_reducible repeat (first | refine blk_drewN ?_ _ | refine blk_drew ?_ | refine blk_alloc ?_ _)); exact BK311.out) hb)
                   have n5_ := Aside0.mk (blk_below (g := gb318) (o := .cells #[.slice none 0 0, .float .f32 0, .float .f32 0, .float .f32 0] 29 (0, 0)) (by (with_reducible repeat (first | refine blk_drewN ?_ _ | refine blk_drew ?_ | refine blk_alloc ?_ _)); exact BK318.out) hb)
                   have n6_ := Aside0.mk (below_step (by repeat (first | (with_reducible first | exact HB.out | apply below_alloc | apply pw_below_drewN | apply below_drew1 | refine below_set ?_ GE308.out | refine below_set ?_ GE309.out | refine below_set ?_ GE310.out | refine below_set ?_ GE311.out | refine below_set ?_ GE318.out) | exact HB.out)) hb)
                   clear BK308
                   clear BK309
                   clear BK310
                   clear BK311
                   clear BK318
                   clear HB
                   have HO314 := n0_
                   have BK308 := n1_
                   have BK309 := n2_
                   have BK310 := n3_
                   have BK311 := n4_
                   have BK318 := n5_
                   have HB := n6_
                   clear n0_ n1_ n2_ n3_ n4_ n5_ n6_
                   clear hb ho17
                   refine hK.out _ _ ⟨(blk_cell BK308.out 0).trans rfl, (blk_cell BK308.out 1).trans rfl, (blk_cell BK308.out 2).trans rfl, (blk_cell BK308.out 3).trans rfl, (blk_cell BK309.out 0).trans rfl, (blk_cell BK309.out 1).trans rfl, (blk_cell BK309.out 2).trans rfl, (blk_cell BK309.out 3).trans rfl⟩ (fun hHeld => ?_)
                   clear hK K
                   refine norm_ (a' := ?_) ?_ ?_
                   rotate_left
                   ·show Act.put _ (some 16) _ = _
                    pw_
                   exact norm_ (by first | (simp only [putAll, Act.put, List.setIfInBounds_toArray, List.set_cons_zero, List.set_cons_succ]; done) | (simp only [putAll, Act.put, List.setIfInBounds_toArray, List.set_cons_zero, List.set_cons_succ]; rfl)) (hJ3_23 (v313, gb318) _ ⟨hHeld, (by (with_reducible repeat (first | apply Kd.R_alloc | apply Kd.R_drewN | apply Kd.R_drew)); exact HO314.out), (by (with_reducible repeat (first | refine blk_drewN ?_ _ | refine blk_drew ?_ | refine blk_alloc ?_ _)); exact BK308.out), (by (with_reducible repeat (first | refine blk_drewN ?_ _ | refine blk_drew ?_ | refine blk_alloc ?_ _)); exact BK309.out), (by (with_reducible repeat (first | refine blk_drewN ?_ _ | refine blk_drew ?_ | refine blk_alloc ?_ _)); exact BK310.out), (by (with_reducible repeat (first | refine blk_drewN ?_ _ | refine blk_drew ?_ | refine blk_alloc ?_ _)); exact BK311.out), (by (with_reducible repeat (first | refine blk_drewN ?_ _ | refine blk_drew ?_ | refine blk_alloc ?_ _)); exact BK318.out), GW318.out, GE318.out, NB308_318.out, NB318_308.out, NB309_318.out, NB318_309.out, NB310_318.out, NB318_310.out, NB311_318.out, NB318_311.out, (by repeat (first | (with_reducible first | exact HB.out | apply below_alloc | apply pw_below_drewN | apply below_drew1 | refine below_set ?_ GE308.out | refine below_set ?_ GE309.out | refine below_set ?_ GE310.out | refine below_set ?_ GE311.out | refine below_set ?_ GE318.out) | exact HB.out))⟩)
                  ·skip
                   refine goesV_ #[.pointer (some ⟨gb310, 0, none⟩)] Try.func113 (by kernel_rfl) rfl #[.float .f32 a0_1, .float .f32 a1_1, .pointer (some ⟨gb310, 0, none⟩)] (by rfl) rfl rfl rfl (by (try simp only [List.map_toArray, List.map_cons, List.map_nil]); first | done | rfl | (simp only [List.length_drop, List.length_take]; rfl)) ?_
                   with_reducible refine (impl_mixFrames_1.calls a0_1 a1_1 _ [(⟨a2⟩ : S25)] t315 _ ?side1 A6.out).mono ?_
                   (case side1 => exact Kd.C_one (T := 25) (by (with_reducible repeat (first | refine blk_drewN ?_ _ | refine blk_drew ?_ | refine blk_alloc ?_ _)); exact BK310.out) (k25_mk _ (⟨a2⟩ : S25) ))
                   rintro e w' ⟨rfl, ⟨nd, rfl⟩⟩
                   refine ⟨_, rfl, ?_⟩
                   refine hK.out _ _ ⟨(blk_cell BK308.out 0).trans rfl, (blk_cell BK308.out 1).trans rfl, (blk_cell BK308.out 2).trans rfl, (blk_cell BK308.out 3).trans rfl, (blk_cell BK309.out 0).trans rfl, (blk_cell BK309.out 1).trans rfl, (blk_cell BK309.out 2).trans rfl, (blk_cell BK309.out 3).trans rfl⟩ (fun hHeld => ?_)
                   clear hK K
                   refine norm_ (a' := ?_) ?_ ?_
                   rotate_left
                   ·show Act.put _ (some 22) _ = _
                    pw_
                   exact norm_ (by first | (simp only [putAll, Act.put, List.setIfInBounds_toArray, List.set_cons_zero, List.set_cons_succ]; done) | (simp only [putAll, Act.put, List.setIfInBounds_toArray, List.set_cons_zero, List.set_cons_succ]; rfl)) (hJ9_23 (gb318) _ ⟨hHeld, (by (with_reducible repeat (first | refine blk_drewN ?_ _ | refine blk_drew ?_ | refine blk_alloc ?_ _)); exact BK308.out), (by (with_reducible repeat (first | refine blk_drewN ?_ _ | refine blk_drew ?_ | refine blk_alloc ?_ _)); exact BK309.out), (by (with_reducible repeat (first | refine blk_drewN ?_ _ | refine blk_drew ?_ | refine blk_alloc ?_ _)); exact BK310.out), (by (with_reducible repeat (first | refine blk_drewN ?_ _ | refine blk_drew ?_ | refine blk_alloc ?_ _)); exact BK311.out), (by (with_reducible repeat (first | refine blk_drewN ?_ _ | refine blk_drew ?_ | refine blk_alloc ?_ _)); exact BK318.out), GW318.out, GE318.out, NB308_318.out, NB318_308.out, NB309_318.out, NB318_309.out, NB310_318.out, NB318_310.out, NB311_318.out, NB318_311.out, (by repeat (first | (with_reducible first | exact HB.out | apply below_alloc | apply pw_below_drewN | apply below_drew1 | refine below_set ?_ GE308.out | refine below_set ?_ GE309.out | refine below_set ?_ GE310.out | refine below_set ?_ GE311.out | refine below_set ?_ GE318.out) | exact HB.out))⟩)
                ·skip
                 rintro _ w14 ⟨hS_, h0_, h1_, h2_, h3_, h4_⟩
                 have n0_ : Aside0 (w14.heap[gb308]? = some (.cells #[.slice A0_0 l0_0.length c0_0, .float .f32 a0_1, .float .f32 a0_2, .float .f32 a0_3] 29 (0, 0))) := ⟨h0_⟩
                 have n1_ : Aside0 (w14.heap[gb309]? = some (.cells #[.slice A1_0 l1_0.length c1_0, .float .f32 a1_1, .float .f32 a1_2, .float .f32 a1_3] 29 (0, 0))) := ⟨h1_⟩
                 have n2_ : Aside0 (w14.heap[gb310]? = some (.cells #[.float .f32 a2] 25 (0, 0))) := ⟨h2_⟩
                 have n3_ : Aside0 (w14.heap[gb311]? = some (.cells #[.slice none 0 0, .float .f32 0, .float .f32 0, .float .f32 0] 29 (0, 0))) := ⟨h3_⟩
                 have n4_ : Aside0 (Below w.heap.size w w14) := ⟨h4_⟩
                 clear BK308
                 clear BK309
                 clear BK310
                 clear BK311
                 clear HB
                 clear h0_ h1_ h2_ h3_ h4_
                 have BK308 := n0_
                 have BK309 := n1_
                 have BK310 := n2_
                 have BK311 := n3_
                 have HB := n4_
                 clear n0_ n1_ n2_ n3_ n4_
                 have hHeld : w14.cell? ⟨gb308, 0, none⟩ = some (.slice A0_0 l0_0.length c0_0) ∧ w14.cell? ⟨gb308, 1, none⟩ = some (.float .f32 a0_1) ∧ w14.cell? ⟨gb308, 2, none⟩ = some (.float .f32 a0_2) ∧ w14.cell? ⟨gb308, 3, none⟩ = some (.float .f32 a0_3) ∧ w14.cell? ⟨gb309, 0, none⟩ = some (.slice A1_0 l1_0.length c1_0) ∧ w14.cell? ⟨gb309, 1, none⟩ = some (.float .f32 a1_1) ∧ w14.cell? ⟨gb309, 2, none⟩ = some (.float .f32 a1_2) ∧ w14.cell? ⟨gb309, 3, none⟩ = some (.float .f32 a1_3) := hS_
                 refine norm_ (a' := ?_) ?_ ?_
                 rotate_left
                 ·simp only [putAll, Act.put, List.setIfInBounds_toArray, List.set_cons_zero, List.set_cons_succ]
                  rfl
                 refine three_ (i := 3) (j := 15) (k := 23) (Ni := some 16) (Nj := some 28) (Nk := some 9) impl_mixFrames.z27 impl_mixFrames.z29 impl_mixFrames.z30 rfl rfl rfl rfl rfl rfl (three_of HT_.out (by kernel_rfl)) (by decide) (by decide) (by decide) (fun K hK => ?_) (fun K hK => ?_) (fun K hK => ?_)
                 ·skip
                  refine Kd.R_make_step (Kd.float .f32) _ 25 (by rfl) (N := 16) rfl 24 _ _ rfl (l0_0.length : Int) rfl rfl Try.underlying24 (.float .f32 0) 4 info25 rfl (by decide) (by omega) 0 (ok := fun k_ => k_ ≠ gb310) (okp := fun _ => False) rfl (fun _ hk => hk.elim) (Nat.ne_of_gt (blk_lt (by (with_reducible repeat (first | refine blk_drewN ?_ _ | refine blk_drew ?_ | refine blk_alloc ?_ _)); exact BK310.out))) (of_decide_eq_true (by first | (with_reducible assumption) | assumption)) (Nat.le_trans (Nat.mul_le_mul_right _ (of_decide_eq_true (by first | (with_reducible assumption) | assumption) : (l0_0.length : Int).toNat ≤ 70368744177664)) (by omega)) (Below.refl _ _) (Nat.le_refl _) ?_
                  intro v313 w15 ho16 hb hg_ hnew_
                  clear hg_ hnew_
                  (first | rw [← Ny312.out] at ho16 | (simp only [Int.reduceToNat] at ho16; rw [← Ny312.out] at ho16))
                  have n0_ := Aside0.mk (Kd.R_lower ho16 (below_size (by repeat (first | (with_reducible first | exact HB.out | apply below_alloc | apply pw_below_drewN | apply below_drew1 | refine below_set ?_ GE308.out | refine below_set ?_ GE309.out | refine below_set ?_ GE310.out | refine below_set ?_ GE311.out) | exact HB.out))))
                  have n1_ := Aside0.mk (blk_below (g := gb308) (o := .cells #[.slice A0_0 l0_0.length c0_0, .float .f32 a0_1, .float .f32 a0_2, .float .f32 a0_3] 29 (0, 0)) (by (with_reducible repeat (first | refine blk_drewN ?_ _ | refine blk_drew ?_ | refine blk_alloc ?_ _)); exact BK308.out) hb)
                  have n2_ := Aside0.mk (blk_below (g := gb309) (o := .cells #[.slice A1_0 l1_0.length c1_0, .float .f32 a1_1, .float .f32 a1_2, .float .f32 a1_3] 29 (0, 0)) (by (with_reducible repeat (first | refine blk_drewN ?_ _ | refine blk_drew ?_ | refine blk_alloc ?_ _)); exact BK309.out) hb)
                  have n3_ := Aside0.mk (blk_below (g := gb310) (o := .cells #[.float .f32 a2] 25 (0, 0)) (by (with_reducible repeat (first | refine blk_drewN ?_ _ | refine blk_drew ?_ | refine blk_alloc ?_ _)); exact BK310.out) hb)
                  have n4_ := Aside0.mk (blk_below (g := gb311) (o := .cells #[.slice none 0 0, .float .f32 0, .float .f32 0, .float .f32 0] 29 (0, 0)) (by (with_reducible repeat (first | refine blk_drewN ?_ _ | refine blk_drew ?_ | refine blk_alloc ?_ _)); exact BK311.out) hb)
                  have n5_ := Aside0.mk (below_step (by repeat (first | (with_reducible first | exact HB.out | apply below_alloc | apply pw_below_drewN | apply below_drew1 | refine below_set ?_ GE308.out | refine below_set ?_ GE309.out | refine below_set ?_ GE310.out | refine below_set ?_ GE311.out) | exact HB.out)) hb)
                  clear BK308
                  clear BK309
                  clear BK310
                  clear BK311
                  clear HB
                  have HO314 := n0_
                  have BK308 := n1_
                  have BK309 := n2_
                  have BK310 := n3_
                  have BK311 := n4_
                  have HB := n5_
                  clear n0_ n1_ n2_ n3_ n4_ n5_
                  clear hb ho16
                  refine hK.out _ _ ⟨(blk_cell BK308.out 0).trans rfl, (blk_cell BK308.out 1).trans rfl, (blk_cell BK308.out 2).trans rfl, (blk_cell BK308.out 3).trans rfl, (blk_cell BK309.out 0).trans rfl, (blk_cell BK309.out 1).trans rfl, (blk_cell BK309.out 2).trans rfl, (blk_cell BK309.out 3).trans rfl⟩ (fun hHeld => ?_)
                  clear hK K
                  refine norm_ (a' := ?_) ?_ ?_
                  rotate_left
                  ·show Act.put _ (some 16) _ = _
                   pw_
                  exact norm_ (by first | (simp only [putAll, Act.put, List.setIfInBounds_toArray, List.set_cons_zero, List.set_cons_succ]; done) | (simp only [putAll, Act.put, List.setIfInBounds_toArray, List.set_cons_zero, List.set_cons_succ]; rfl)) (hJ3_9 (v313) _ ⟨hHeld, (by (with_reducible repeat (first | apply Kd.R_alloc | apply Kd.R_drewN | apply Kd.R_drew)); exact HO314.out), (by (with_reducible repeat (first | refine blk_drewN ?_ _ | refine blk_drew ?_ | refine blk_alloc ?_ _)); exact BK308.out), (by (with_reducible repeat (first | refine blk_drewN ?_ _ | refine blk_drew ?_ | refine blk_alloc ?_ _)); exact BK309.out), (by (with_reducible repeat (first | refine blk_drewN ?_ _ | refine blk_drew ?_ | refine blk_alloc ?_ _)); exact BK310.out), (by (with_reducible repeat (first | refine blk_drewN ?_ _ | refine blk_drew ?_ | refine blk_alloc ?_ _)); exact BK311.out), (by repeat (first | (with_reducible first | exact HB.out | apply below_alloc | apply pw_below_drewN | apply below_drew1 | refine below_set ?_ GE308.out | refine below_set ?_ GE309.out | refine below_set ?_ GE310.out | refine below_set ?_ GE311.out) | exact HB.out))⟩)
                 ·skip
                  refine goesV_ #[.pointer (some ⟨gb310, 0, none⟩)] Try.func113 (by kernel_rfl) rfl #[.float .f32 a0_2, .float .f32 a1_2, .pointer (some ⟨gb310, 0, none⟩)] (by rfl) rfl rfl rfl (by (try simp only [List.map_toArray, List.map_cons, List.map_nil]); first | done | rfl | (simp only [List.length_drop, List.length_take]; rfl)) ?_
                  with_reducible refine (impl_mixFrames_1.calls a0_2 a1_2 _ [(⟨a2⟩ : S25)] t316 _ ?side1 A7.out).mono ?_
                  (case side1 => exact Kd.C_one (T := 25) (by (with_reducible repeat (first | refine blk_drewN ?_ _ | refine blk_drew ?_ | refine blk_alloc ?_ _)); exact BK310.out) (k25_mk _ (⟨a2⟩ : S25) ))
                  rintro e w' ⟨rfl, ⟨nd, rfl⟩⟩
                  refine ⟨_, rfl, ?_⟩
                  refine hK.out _ _ ⟨(blk_cell BK308.out 0).trans rfl, (blk_cell BK308.out 1).trans rfl, (blk_cell BK308.out 2).trans rfl, (blk_cell BK308.out 3).trans rfl, (blk_cell BK309.out 0).trans rfl, (blk_cell BK309.out 1).trans rfl, (blk_cell BK309.out 2).trans rfl, (blk_cell BK309.out 3).trans rfl⟩ (fun hHeld => ?_)
                  clear hK K
                  refine norm_ (a' := ?_) ?_ ?_
                  rotate_left
                  ·show Act.put _ (some 28) _ = _
                   pw_
                  exact norm_ (by first | (simp only [putAll, Act.put, List.setIfInBounds_toArray, List.set_cons_zero, List.set_cons_succ]; done) | (simp only [putAll, Act.put, List.setIfInBounds_toArray, List.set_cons_zero, List.set_cons_succ]; rfl)) (hJ9_15 () _ ⟨hHeld, (by (with_reducible repeat (first | refine blk_drewN ?_ _ | refine blk_drew ?_ | refine blk_alloc ?_ _)); exact BK308.out), (by (with_reducible repeat (first | refine blk_drewN ?_ _ | refine blk_drew ?_ | refine blk_alloc ?_ _)); exact BK309.out), (by (with_reducible repeat (first | refine blk_drewN ?_ _ | refine blk_drew ?_ | refine blk_alloc ?_ _)); exact BK310.out), (by (with_reducible repeat (first | refine blk_drewN ?_ _ | refine blk_drew ?_ | refine blk_alloc ?_ _)); exact BK311.out), (by repeat (first | (with_reducible first | exact HB.out | apply below_alloc | apply pw_below_drewN | apply below_drew1 | refine below_set ?_ GE308.out | refine below_set ?_ GE309.out | refine below_set ?_ GE310.out | refine below_set ?_ GE311.out) | exact HB.out))⟩)
                 ·skip
                  refine box_step ?hg (N := 9) ?hd (cs := #[.slice none 0 0, .float .f32 0, .float .f32 0, .float .f32 0]) (t := 29) ?hr ?_; (case hd => rfl); (case hg => rfl); (case hr => first | (go_simp; done) | (go_simp; rfl) | (simp (disch := omega) only [w64_id]; go_simp; done) | (go_simp; simp (disch := omega) only [w64_id]; done))
                  intro gb318 hg w15 hbox hb
                  have n0_ := Aside0.mk (blk_below (g := gb308) (o := .cells #[.slice A0_0 l0_0.length c0_0, .float .f32 a0_1, .float .f32 a0_2, .float .f32 a0_3] 29 (0, 0)) (by (with_reducible repeat (first | refine blk_drewN ?_ _ | refine blk_drew ?_ | refine blk_alloc ?_ _)); exact BK308.out) hb)
                  have n1_ := Aside0.mk (blk_below (g := gb309) (o := .cells #[.slice A1_0 l1_0.length c1_0, .float .f32 a1_1, .float .f32 a1_2, .float .f32 a1_3] 29 (0, 0)) (by (with_reducible repeat (first | refine blk_drewN ?_ _ | refine blk_drew ?_ | refine blk_alloc ?_ _)); exact BK309.out) hb)
                  have n2_ := Aside0.mk (blk_below (g := gb310) (o := .cells #[.float .f32 a2] 25 (0, 0)) (by (with_reducible repeat (first | refine blk_drewN ?_ _ | refine blk_drew ?_ | refine blk_alloc ?_ _)); exact BK310.out) hb)
                  have n3_ := Aside0.mk (blk_below (g := gb311) (o := .cells #[.slice none 0 0, .float .f32 0, .float .f32 0, .float .f32 0] 29 (0, 0)) (by (with_reducible repeat (first | refine blk_drewN ?_ _ | refine blk_drew ?_ | refine blk_alloc ?_ _)); exact BK311.out) hb)
                  have n4_ := Aside0.mk (below_step (by repeat (first | (with_reducible first | exact HB.out | apply below_alloc | apply pw_below_drewN | apply below_drew1 | refine below_set ?_ GE308.out | refine below_set ?_ GE309.out | refine below_set ?_ GE310.out | refine below_set ?_ GE311.out) | exact HB.out)) hb)
                  have n5_ := Aside0.mk (hbox)
                  have n6_ := Aside0.mk ((by rw [hg]; exact (below_size (by repeat (first | (with_reducible first | exact HB.out | apply below_alloc | apply pw_below_drewN | apply below_drew1 | refine below_set ?_ GE308.out | refine below_set ?_ GE309.out | refine below_set ?_ GE310.out | refine below_set ?_ GE311.out) | exact HB.out))) : w.heap.size ≤ gb318))
                  have n7_ := Aside0.mk ((by rw [hg]; exact (below_size (by repeat (first | (with_reducible first | exact HB.out | apply below_alloc | apply pw_below_drewN | apply below_drew1 | refine below_set ?_ GE308.out | refine below_set ?_ GE309.out | refine below_set ?_ GE310.out | refine below_set ?_ GE311.out) | exact HB.out))) : w.heap.size ≤ gb318))
                  have n8_ := Aside0.mk ((by rw [hg]; exact Nat.ne_of_lt (blk_lt (g := gb308) (o := .cells #[.slice A0_0 l0_0.length c0_0, .float .f32 a0_1, .float .f32 a0_2, .float .f32 a0_3] 29 (0, 0)) (by (with_reducible repeat (first | refine blk_drewN ?_ _ | refine blk_drew ?_ | refine blk_alloc ?_ _)); exact BK308.out)) : gb308 ≠ gb318))
                  have n9_ := Aside0.mk ((by rw [hg]; exact Nat.ne_of_gt (blk_lt (g := gb308) (o := .cells #[.slice A0_0 l0_0.length c0_0, .float .f32 a0_1, .float .f32 a0_2, .float .f32 a0_3] 29 (0, 0)) (by (with_reducible repeat (first | refine blk_drewN ?_ _ | refine blk_drew ?_ | refine blk_alloc ?_ _)); exact BK308.out)) : gb318 ≠ gb308))
                  have n10_ := Aside0.mk ((by rw [hg]; exact Nat.ne_of_lt (blk_lt (g := gb309) (o := .cells #[.slice A1_0 l1_0.length c1_0, .float .f32 a1_1, .float .f32 a1_2, .float .f32 a1_3] 29 (0, 0)) (by (with_reducible repeat (first | refine blk_drewN ?_ _ | refine blk_drew ?_ | refine blk_alloc ?_ _)); exact BK309.out)) : gb309 ≠ gb318))
                  have n11_ := Aside0.mk ((by rw [hg]; exact Nat.ne_of_gt (blk_lt (g := gb309) (o := .cells #[.slice A1_0 l1_0.length c1_0, .float .f32 a1_1, .float .f32 a1_2, .float .f32 a1_3] 29 (0, 0)) (by (with_reducible repeat (first | refine blk_drewN ?_ _ | refine blk_drew ?_ | refine blk_alloc ?_ _)); exact BK309.out)) : gb318 ≠ gb309))
                  have n12_ := Aside0.mk ((by rw [hg]; exact Nat.ne_of_lt (blk_lt (g := gb310) (o := .cells #[.float .f32 a2] 25 (0, 0)) (by (with_reducible repeat (first | refine blk_drewN ?_ _ | refine blk_drew ?_ | refine blk_alloc ?_ _)); exact BK310.out)) : gb310 ≠ gb318))
                  have n13_ := Aside0.mk ((by rw [hg]; exact Nat.ne_of_gt (blk_lt (g := gb310) (o := .cells #[.float .f32 a2] 25 (0, 0)) (by (with_reducible repeat (first | refine blk_drewN ?_ _ | refine blk_drew ?_ | refine blk_alloc ?_ _)); exact BK310.out)) : gb318 ≠ gb310))
                  have n14_ := Aside0.mk ((by rw [hg]; exact Nat.ne_of_lt (blk_lt (g := gb311) (o := .cells #[.slice none 0 0, .float .f32 0, .float .f32 0, .float .f32 0] 29 (0, 0)) (by (with_reducible repeat (first | refine blk_drewN ?_ _ | refine blk_drew ?_ | refine blk_alloc ?_ _)); exact BK311.out)) : gb311 ≠ gb318))
                  have n15_ := Aside0.mk ((by rw [hg]; exact Nat.ne_of_gt (blk_lt (g := gb311) (o := .cells #[.slice none 0 0, .float .f32 0, .float .f32 0, .float .f32 0] 29 (0, 0)) (by (with_reducible repeat (first | refine blk_drewN ?_ _ | refine blk_drew ?_ | refine blk_alloc ?_ _)); exact BK311.out)) : gb318 ≠ gb311))
                  clear BK308
                  clear BK309
                  clear BK310
                  clear BK311
                  clear HB
                  have BK308 := n0_
                  have BK309 := n1_
                  have BK310 := n2_
                  have BK311 := n3_
                  have HB := n4_
                  have BK318 := n5_
                  have GW318 := n6_
                  have GE318 := n7_
                  have NB308_318 := n8_
                  have NB318_308 := n9_
                  have NB309_318 := n10_
                  have NB318_309 := n11_
                  have NB310_318 := n12_
                  have NB318_310 := n13_
                  have NB311_318 := n14_
                  have NB318_311 := n15_
                  clear n0_ n1_ n2_ n3_ n4_ n5_ n6_ n7_ n8_ n9_ n10_ n11_ n12_ n13_ n14_ n15_
                  clear hb hbox hg
                  refine hK.out _ _ ⟨(blk_cell BK308.out 0).trans rfl, (blk_cell BK308.out 1).trans rfl, (blk_cell BK308.out 2).trans rfl, (blk_cell BK308.out 3).trans rfl, (blk_cell BK309.out 0).trans rfl, (blk_cell BK309.out 1).trans rfl, (blk_cell BK309.out 2).trans rfl, (blk_cell BK309.out 3).trans rfl⟩ (fun hHeld => ?_)
                  clear hK K
                  refine norm_ (a' := ?_) ?_ ?_
                  rotate_left
                  ·show Act.put _ (some 9) _ = _
                   pw_
                  exact norm_ (by first | (simp only [putAll, Act.put, List.setIfInBounds_toArray, List.set_cons_zero, List.set_cons_succ]; done) | (simp only [putAll, Act.put, List.setIfInBounds_toArray, List.set_cons_zero, List.set_cons_succ]; rfl)) (hJ9_23 (gb318) _ ⟨hHeld, (by (with_reducible repeat (first | refine blk_drewN ?_ _ | refine blk_drew ?_ | refine blk_alloc ?_ _)); exact BK308.out), (by (with_reducible repeat (first | refine blk_drewN ?_ _ | refine blk_drew ?_ | refine blk_alloc ?_ _)); exact BK309.out), (by (with_reducible repeat (first | refine blk_drewN ?_ _ | refine blk_drew ?_ | refine blk_alloc ?_ _)); exact BK310.out), (by (with_reducible repeat (first | refine blk_drewN ?_ _ | refine blk_drew ?_ | refine blk_alloc ?_ _)); exact BK311.out), (by (with_reducible repeat (first | refine blk_drewN ?_ _ | refine blk_drew ?_ | refine blk_alloc ?_ _)); exact BK318.out), GW318.out, GE318.out, NB308_318.out, NB318_308.out, NB309_318.out, NB318_309.out, NB310_318.out, NB318_310.out, NB311_318.out, NB318_311.out, (by repeat (first | (with_reducible first | exact HB.out | apply below_alloc | apply pw_below_drewN | apply below_drew1 | refine below_set ?_ GE308.out | refine below_set ?_ GE309.out | refine below_set ?_ GE310.out | refine below_set ?_ GE311.out | refine below_set ?_ GE318.out) | exact HB.out))⟩)
               ·skip
                rintro v313 w16 ⟨hS_, h0_, h1_, h2_, h3_, h4_, h5_⟩
                have n0_ : Aside0 (Kd.R (Kd.float .f32) 25 w16 w.heap.size (fun k_ => k_ ≠ gb310) v313 y312) := ⟨h0_⟩
                have n1_ : Aside0 (w16.heap[gb308]? = some (.cells #[.slice A0_0 l0_0.length c0_0, .float .f32 a0_1, .float .f32 a0_2, .float .f32 a0_3] 29 (0, 0))) := ⟨h1_⟩
                have n2_ : Aside0 (w16.heap[gb309]? = some (.cells #[.slice A1_0 l1_0.length c1_0, .float .f32 a1_1, .float .f32 a1_2, .float .f32 a1_3] 29 (0, 0))) := ⟨h2_⟩
                have n3_ : Aside0 (w16.heap[gb310]? = some (.cells #[.float .f32 a2] 25 (0, 0))) := ⟨h3_⟩
                have n4_ : Aside0 (w16.heap[gb311]? = some (.cells #[.slice none 0 0, .float .f32 0, .float .f32 0, .float .f32 0] 29 (0, 0))) := ⟨h4_⟩
                have n5_ : Aside0 (Below w.heap.size w w16) := ⟨h5_⟩
                clear BK308
                clear BK309
                clear BK310
                clear BK311
                clear HB
                clear h0_ h1_ h2_ h3_ h4_ h5_
                have HO314 := n0_
                have BK308 := n1_
                have BK309 := n2_
                have BK310 := n3_
                have BK311 := n4_
                have HB := n5_
                clear n0_ n1_ n2_ n3_ n4_ n5_
                have hHeld : w16.cell? ⟨gb308, 0, none⟩ = some (.slice A0_0 l0_0.length c0_0) ∧ w16.cell? ⟨gb308, 1, none⟩ = some (.float .f32 a0_1) ∧ w16.cell? ⟨gb308, 2, none⟩ = some (.float .f32 a0_2) ∧ w16.cell? ⟨gb308, 3, none⟩ = some (.float .f32 a0_3) ∧ w16.cell? ⟨gb309, 0, none⟩ = some (.slice A1_0 l1_0.length c1_0) ∧ w16.cell? ⟨gb309, 1, none⟩ = some (.float .f32 a1_1) ∧ w16.cell? ⟨gb309, 2, none⟩ = some (.float .f32 a1_2) ∧ w16.cell? ⟨gb309, 3, none⟩ = some (.float .f32 a1_3) := hS_
                refine norm_ (a' := ?_) ?_ ?_
                rotate_left
                ·simp only [putAll, Act.put, List.setIfInBounds_toArray, List.set_cons_zero, List.set_cons_succ]
                 rfl
                refine two_ (i := 9) (j := 23) (Ni := some 22) (Nj := some 9) impl_mixFrames.z27 impl_mixFrames.z28 rfl rfl rfl rfl (two_of HT_.out (by kernel_rfl)) (by decide) (by decide) (fun K hK => ?_) (fun K hK => ?_)
                ·skip
                 refine goesV_ #[.pointer (some ⟨gb310, 0, none⟩)] Try.func113 (by kernel_rfl) rfl #[.float .f32 a0_1, .float .f32 a1_1, .pointer (some ⟨gb310, 0, none⟩)] (by rfl) rfl rfl rfl (by (try simp only [List.map_toArray, List.map_cons, List.map_nil]); first | done | rfl | (simp only [List.length_drop, List.length_take]; rfl)) ?_
                 with_reducible refine (impl_mixFrames_1.calls a0_1 a1_1 _ [(⟨a2⟩ : S25)] t315 _ ?side1 A6.out).mono ?_
                 (case side1 => exact Kd.C_one (T := 25) (by (with_reducible repeat (first | refine blk_drewN ?_ _ | refine blk_drew ?_ | refine blk_alloc ?_ _)); exact BK310.out) (k25_mk _ (⟨a2⟩ : S25) ))
                 rintro e w' ⟨rfl, ⟨nd, rfl⟩⟩
                 refine ⟨_, rfl, ?_⟩
                 refine hK.out _ _ ⟨(blk_cell BK308.out 0).trans rfl, (blk_cell BK308.out 1).trans rfl, (blk_cell BK308.out 2).trans rfl, (blk_cell BK308.out 3).trans rfl, (blk_cell BK309.out 0).trans rfl, (blk_cell BK309.out 1).trans rfl, (blk_cell BK309.out 2).trans rfl, (blk_cell BK309.out 3).trans rfl⟩ (fun hHeld => ?_)
                 clear hK K
                 refine norm_ (a' := ?_) ?_ ?_
                 rotate_left
                 ·show Act.put _ (some 22) _ = _
                  pw_
                 exact norm_ (by first | (simp only [putAll, Act.put, List.setIfInBounds_toArray, List.set_cons_zero, List.set_cons_succ]; done) | (simp only [putAll, Act.put, List.setIfInBounds_toArray, List.set_cons_zero, List.set_cons_succ]; rfl)) (hJ3_9 (v313) _ ⟨hHeld, (by (with_reducible repeat (first | apply Kd.R_alloc | apply Kd.R_drewN | apply Kd.R_drew)); exact HO314.out), (by (with_reducible repeat (first | refine blk_drewN ?_ _ | refine blk_drew ?_ | refine blk_alloc ?_ _)); exact BK308.out), (by (with_reducible repeat (first | refine blk_drewN ?_ _ | refine blk_drew ?_ | refine blk_alloc ?_ _)); exact BK309.out), (by (with_reducible repeat (first | refine blk_drewN ?_ _ | refine blk_drew ?_ | refine blk_alloc ?_ _)); exact BK310.out), (by (with_reducible repeat (first | refine blk_drewN ?_ _ | refine blk_drew ?_ | refine blk_alloc ?_ _)); exact BK311.out), (by repeat (first | (with_reducible first | exact HB.out | apply below_alloc | apply pw_below_drewN | apply below_drew1 | refine below_set ?_ GE308.out | refine below_set ?_ GE309.out | refine below_set ?_ GE310.out | refine below_set ?_ GE311.out) | exact HB.out))⟩)
                ·skip
                 refine box_step ?hg (N := 9) ?hd (cs := #[.slice none 0 0, .float .f32 0, .float .f32 0, .float .f32 0]) (t := 29) ?hr ?_; (case hd => rfl); (case hg => rfl); (case hr => first | (go_simp; done) | (go_simp; rfl) | (simp (disch := omega) only [w64_id]; go_simp; done) | (go_simp; simp (disch := omega) only [w64_id]; done))
                 intro gb318 hg w17 hbox hb
                 have n0_ := Aside0.mk (Kd.R_below (by (with_reducible repeat (first | apply Kd.R_alloc | apply Kd.R_drewN | apply Kd.R_drew)); exact HO314.out) hb)
                 have n1_ := Aside0.mk (blk_below (g := gb308) (o := .cells #[.slice A0_0 l0_0.length c0_0, .float .f32 a0_1, .float .f32 a0_2, .float .f32 a0_3] 29 (0, 0)) (by (with_reducible repeat (first | refine blk_drewN ?_ _ | refine blk_drew ?_ | refine blk_alloc ?_ _)); exact BK308.out) hb)
                 have n2_ := Aside0.mk (blk_below (g := gb309) (o := .cells #[.slice A1_0 l1_0.length c1_0, .float .f32 a1_1, .float .f32 a1_2, .float .f32 a1_3] 29 (0, 0)) (by (with_reducible repeat (first | refine blk_drewN ?_ _ | refine blk_drew ?_ | refine blk_alloc ?_ _)); exact BK309.out) hb)
                 have n3_ := Aside0.mk (blk_below (g := gb310) (o := .cells #[.float .f32 a2] 25 (0, 0)) (by (with_reducible repeat (first | refine blk_drewN ?_ _ | refine blk_drew ?_ | refine blk_alloc ?_ _)); exact BK310.out) hb)
                 have n4_ := Aside0.mk (blk_below (g := gb311) (o := .cells #[.slice none 0 0, .float .f32 0, .float .f32 0, .float .f32 0] 29 (0, 0)) (by (with_reducible repeat (first | refine blk_drewN ?_ _ | refine blk_drew ?_ | refine blk_alloc ?_ _)); exact BK311.out) hb)
                 have n5_ := Aside0.mk (below_step (by repeat (first | (with_reducible first | exact HB.out | apply below_alloc | apply pw_below_drewN | apply below_drew1 | refine below_set ?_ GE308.out | refine below_set ?_ GE309.out | refine below_set ?_ GE310.out | refine below_set ?_ GE311.out) | exact HB.out)) hb)
                 have n6_ := Aside0.mk (hbox)
                 have n7_ := Aside0.mk ((by rw [hg]; exact (below_size (by repeat (first | (with_reducible first | exact HB.out | apply below_alloc | apply pw_below_drewN | apply below_drew1 | refine below_set ?_ GE308.out | refine below_set ?_ GE309.out | refine below_set ?_ GE310.out | refine below_set ?_ GE311.out) | exact HB.out))) : w.heap.size ≤ gb318))
                 have n8_ := Aside0.mk ((by rw [hg]; exact (below_size (by repeat (first | (with_reducible first | exact HB.out | apply below_alloc | apply pw_below_drewN | apply below_drew1 | refine below_set ?_ GE308.out | refine below_set ?_ GE309.out | refine below_set ?_ GE310.out | refine below_set ?_ GE311.out) | exact HB.out))) : w.heap.size ≤ gb318))
                 have n9_ := Aside0.mk ((by rw [hg]; exact Nat.ne_of_lt (blk_lt (g := gb308) (o := .cells #[.slice A0_0 l0_0.length c0_0, .float .f32 a0_1, .float .f32 a0_2, .float .f32 a0_3] 29 (0, 0)) (by (with_reducible repeat (first | refine blk_drewN ?_ _ | refine blk_drew ?_ | refine blk_alloc ?_ _)); exact BK308.out)) : gb308 ≠ gb318))
                 have n10_ := Aside0.mk ((by rw [hg]; exact Nat.ne_of_gt (blk_lt (g := gb308) (o := .cells #[.slice A0_0 l0_0.length c0_0, .float .f32 a0_1, .float .f32 a0_2, .float .f32 a0_3] 29 (0, 0)) (by (with_reducible repeat (first | refine blk_drewN ?_ _ | refine blk_drew ?_ | refine blk_alloc ?_ _)); exact BK308.out)) : gb318 ≠ gb308))
                 have n11_ := Aside0.mk ((by rw [hg]; exact Nat.ne_of_lt (blk_lt (g := gb309) (o := .cells #[.slice A1_0 l1_0.length c1_0, .float .f32 a1_1, .float .f32 a1_2, .float .f32 a1_3] 29 (0, 0)) (by (with_reducible repeat (first | refine blk_drewN ?_ _ | refine blk_drew ?_ | refine blk_alloc ?_ _)); exact BK309.out)) : gb309 ≠ gb318))
                 have n12_ := Aside0.mk ((by rw [hg]; exact Nat.ne_of_gt (blk_lt (g := gb309) (o := .cells #[.slice A1_0 l1_0.length c1_0, .float .f32 a1_1, .float .f32 a1_2, .float .f32 a1_3] 29 (0, 0)) (by (with_reducible repeat (first | refine blk_drewN ?_ _ | refine blk_drew ?_ | refine blk_alloc ?_ _)); exact BK309.out)) : gb318 ≠ gb309))
                 have n13_ := Aside0.mk ((by rw [hg]; exact Nat.ne_of_lt (blk_lt (g := gb310) (o := .cells #[.float .f32 a2] 25 (0, 0)) (by (with_reducible repeat (first | refine blk_drewN ?_ _ | refine blk_drew ?_ | refine blk_alloc ?_ _)); exact BK310.out)) : gb310 ≠ gb318))
                 have n14_ := Aside0.mk ((by rw [hg]; exact Nat.ne_of_gt (blk_lt (g := gb310) (o := .cells #[.float .f32 a2] 25 (0, 0)) (by (with_reducible repeat (first | refine blk_drewN ?_ _ | refine blk_drew ?_ | refine blk_alloc ?_ _)); exact BK310.out)) : gb318 ≠ gb310))
                 have n15_ := Aside0.mk ((by rw [hg]; exact Nat.ne_of_lt (blk_lt (g := gb311) (o := .cells #[.slice none 0 0, .float .f32 0, .float .f32 0, .float .f32 0] 29 (0, 0)) (by (with_reducible repeat (first | refine blk_drewN ?_ _ | refine blk_drew ?_ | refine blk_alloc ?_ _)); exact BK311.out)) : gb311 ≠ gb318))
                 have n16_ := Aside0.mk ((by rw [hg]; exact Nat.ne_of_gt (blk_lt (g := gb311) (o := .cells #[.slice none 0 0, .float .f32 0, .float .f32 0, .float .f32 0] 29 (0, 0)) (by (with_reducible repeat (first | refine blk_drewN ?_ _ | refine blk_drew ?_ | refine blk_alloc ?_ _)); exact BK311.out)) : gb318 ≠ gb311))
                 clear HO314
                 clear BK308
                 clear BK309
                 clear BK310
                 clear BK311
                 clear HB
                 have HO314 := n0_
                 have BK308 := n1_
                 have BK309 := n2_
                 have BK310 := n3_
                 have BK311 := n4_
                 have HB := n5_
                 have BK318 := n6_
                 have GW318 := n7_
                 have GE318 := n8_
                 have NB308_318 := n9_
                 have NB318_308 := n10_
                 have NB309_318 := n11_
                 have NB318_309 := n12_
                 have NB310_318 := n13_
                 have NB318_310 := n14_
                 have NB311_318 := n15_
                 have NB318_311 := n16_
                 clear n0_ n1_ n2_ n3_ n4_ n5_ n6_ n7_ n8_ n9_ n10_ n11_ n12_ n13_ n14_ n15_ n16_
                 clear hb hbox hg
                 refine hK.out _ _ ⟨(blk_cell BK308.out 0).trans rfl, (blk_cell BK308.out 1).trans rfl, (blk_cell BK308.out 2).trans rfl, (blk_cell BK308.out 3).trans rfl, (blk_cell BK309.out 0).trans rfl, (blk_cell BK309.out 1).trans rfl, (blk_cell BK309.out 2).trans rfl, (blk_cell BK309.out 3).trans rfl⟩ (fun hHeld => ?_)
                 clear hK K
                 refine norm_ (a' := ?_) ?_ ?_
                 rotate_left
                 ·show Act.put _ (some 9) _ = _
                  pw_
                 exact norm_ (by first | (simp only [putAll, Act.put, List.setIfInBounds_toArray, List.set_cons_zero, List.set_cons_succ]; done) | (simp only [putAll, Act.put, List.setIfInBounds_toArray, List.set_cons_zero, List.set_cons_succ]; rfl)) (hJ3_23 (v313, gb318) _ ⟨hHeld, (by (with_reducible repeat (first | apply Kd.R_alloc | apply Kd.R_drewN | apply Kd.R_drew)); exact HO314.out), (by (with_reducible repeat (first | refine blk_drewN ?_ _ | refine blk_drew ?_ | refine blk_alloc ?_ _)); exact BK308.out), (by (with_reducible repeat (first | refine blk_drewN ?_ _ | refine blk_drew ?_ | refine blk_alloc ?_ _)); exact BK309.out), (by (with_reducible repeat (first | refine blk_drewN ?_ _ | refine blk_drew ?_ | refine blk_alloc ?_ _)); exact BK310.out), (by (with_reducible repeat (first | refine blk_drewN ?_ _ | refine blk_drew ?_ | refine blk_alloc ?_ _)); exact BK311.out), (by (with_reducible repeat (first | refine blk_drewN ?_ _ | refine blk_drew ?_ | refine blk_alloc ?_ _)); exact BK318.out), GW318.out, GE318.out, NB308_318.out, NB318_308.out, NB309_318.out, NB318_309.out, NB310_318.out, NB318_310.out, NB311_318.out, NB318_311.out, (by repeat (first | (with_reducible first | exact HB.out | apply below_alloc | apply pw_below_drewN | apply below_drew1 | refine below_set ?_ GE308.out | refine below_set ?_ GE309.out | refine below_set ?_ GE310.out | refine below_set ?_ GE311.out | refine below_set ?_ GE318.out) | exact HB.out))⟩)
              ·skip
               rintro gb318 w15 ⟨hS_, h0_, h1_, h2_, h3_, h4_, h5_, h6_, h7_, h8_, h9_, h10_, h11_, h12_, h13_, h14_, h15_⟩
               have n0_ : Aside0 (w15.heap[gb308]? = some (.cells #[.slice A0_0 l0_0.length c0_0, .float .f32 a0_1, .float .f32 a0_2, .float .f32 a0_3] 29 (0, 0))) := ⟨h0_⟩
               have n1_ : Aside0 (w15.heap[gb309]? = some (.cells #[.slice A1_0 l1_0.length c1_0, .float .f32 a1_1, .float .f32 a1_2, .float .f32 a1_3] 29 (0, 0))) := ⟨h1_⟩
               have n2_ : Aside0 (w15.heap[gb310]? = some (.cells #[.float .f32 a2] 25 (0, 0))) := ⟨h2_⟩
               have n3_ : Aside0 (w15.heap[gb311]? = some (.cells #[.slice none 0 0, .float .f32 0, .float .f32 0, .float .f32 0] 29 (0, 0))) := ⟨h3_⟩
               have n4_ : Aside0 (w15.heap[gb318]? = some (.cells #[.slice none 0 0, .float .f32 0, .float .f32 0, .float .f32 0] 29 (0, 0))) := ⟨h4_⟩
               have n5_ : Aside0 (w.heap.size ≤ gb318) := ⟨h5_⟩
               have n6_ : Aside0 (w.heap.size ≤ gb318) := ⟨h6_⟩
               have n7_ : Aside0 (gb308 ≠ gb318) := ⟨h7_⟩
               have n8_ : Aside0 (gb318 ≠ gb308) := ⟨h8_⟩
               have n9_ : Aside0 (gb309 ≠ gb318) := ⟨h9_⟩
               have n10_ : Aside0 (gb318 ≠ gb309) := ⟨h10_⟩
               have n11_ : Aside0 (gb310 ≠ gb318) := ⟨h11_⟩
               have n12_ : Aside0 (gb318 ≠ gb310) := ⟨h12_⟩
               have n13_ : Aside0 (gb311 ≠ gb318) := ⟨h13_⟩
               have n14_ : Aside0 (gb318 ≠ gb311) := ⟨h14_⟩
               have n15_ : Aside0 (Below w.heap.size w w15) := ⟨h15_⟩
               clear BK308
               clear BK309
               clear BK310
               clear BK311
               clear HB
               clear h0_ h1_ h2_ h3_ h4_ h5_ h6_ h7_ h8_ h9_ h10_ h11_ h12_ h13_ h14_ h15_
               have BK308 := n0_
               have BK309 := n1_
               have BK310 := n2_
               have BK311 := n3_
               have BK318 := n4_
               have GW318 := n5_
               have GE318 := n6_
               have NB308_318 := n7_
               have NB318_308 := n8_
               have NB309_318 := n9_
               have NB318_309 := n10_
               have NB310_318 := n11_
               have NB318_310 := n12_
               have NB311_318 := n13_
               have NB318_311 := n14_
               have HB := n15_
               clear n0_ n1_ n2_ n3_ n4_ n5_ n6_ n7_ n8_ n9_ n10_ n11_ n12_ n13_ n14_ n15_
               have hHeld : w15.cell? ⟨gb308, 0, none⟩ = some (.slice A0_0 l0_0.length c0_0) ∧ w15.cell? ⟨gb308, 1, none⟩ = some (.float .f32 a0_1) ∧ w15.cell? ⟨gb308, 2, none⟩ = some (.float .f32 a0_2) ∧ w15.cell? ⟨gb308, 3, none⟩ = some (.float .f32 a0_3) ∧ w15.cell? ⟨gb309, 0, none⟩ = some (.slice A1_0 l1_0.length c1_0) ∧ w15.cell? ⟨gb309, 1, none⟩ = some (.float .f32 a1_1) ∧ w15.cell? ⟨gb309, 2, none⟩ = some (.float .f32 a1_2) ∧ w15.cell? ⟨gb309, 3, none⟩ = some (.float .f32 a1_3) := hS_
               refine norm_ (a' := ?_) ?_ ?_
               rotate_left
               ·simp only [putAll, Act.put, List.setIfInBounds_toArray, List.set_cons_zero, List.set_cons_succ]
                rfl
               refine two_ (i := 3) (j := 15) (Ni := some 16) (Nj := some 28) impl_mixFrames.z24 impl_mixFrames.z26 rfl rfl rfl rfl (two_of HT_.out (by kernel_rfl)) (by decide) (by decide) (fun K hK => ?_) (fun K hK => ?_)
               ·skip
                refine Kd.R_make_step (Kd.float .f32) _ 25 (by rfl) (N := 16) rfl 24 _ _ rfl (l0_0.length : Int) rfl rfl Try.underlying24 (.float .f32 0) 4 info25 rfl (by decide) (by omega) 0 (ok := fun k_ => k_ ≠ gb310) (okp := fun _ => False) rfl (fun _ hk => hk.elim) (Nat.ne_of_gt (blk_lt (by (with_reducible repeat (first | refine blk_drewN ?_ _ | refine blk_drew ?_ | refine blk_alloc ?_ _)); exact BK310.out))) (of_decide_eq_true (by first | (with_reducible assumption) | assumption)) (Nat.le_trans (Nat.mul_le_mul_right _ (of_decide_eq_true (by first | (with_reducible assumption) | assumption) : (l0_0.length : Int).toNat ≤ 70368744177664)) (by omega)) (Below.refl _ _) (Nat.le_refl _) ?_
                intro v313 w16 ho17 hb hg_ hnew_
                clear hg_ hnew_
                (first | rw [← Ny312.out] at ho17 | (simp only [Int.reduceToNat] at ho17; rw [← Ny312.out] at ho17))
                have n0_ := Aside0.mk (Kd.R_lower ho17 (below_size (by repeat (first | (with_reducible first | exact HB.out | apply below_alloc | apply pw_below_drewN | apply below_drew1 | refine below_set ?_ GE308.out | refine below_set ?_ GE309.out | refine below_set ?_ GE310.out | refine below_set ?_ GE311.out | refine below_set ?_ GE318.out) | exact HB.out))))
                have n1_ := Aside0.mk (blk_below (g := gb308) (o := .cells #[.slice A0_0 l0_0.length c0_0, .float .f32 a0_1, .float .f32 a0_2, .float .f32 a0_3] 29 (0, 0)) (by (with_reducible repeat (first | refine blk_drewN ?_ _ | refine blk_drew ?_ | refine blk_alloc ?_ _)); exact BK308.out) hb)
                have n2_ := Aside0.mk (blk_below (g := gb309) (o := .cells #[.slice A1_0 l1_0.length c1_0, .float .f32 a1_1, .float .f32 a1_2, .float .f32 a1_3] 29 (0, 0)) (by (with_reducible repeat (first | refine blk_drewN ?_ _ | refine blk_drew ?_ | refine blk_alloc ?_ _)); exact BK309.out) hb)
                have n3_ := Aside0.mk (blk_below (g := gb310) (o := .cells #[.float .f32 a2] 25 (0, 0)) (by (with_reducible repeat (first | refine blk_drewN ?_ _ | refine blk_drew ?_ | refine blk_alloc ?_ _)); exact BK310.out) hb)
                have n4_ := Aside0.mk (blk_below (g := gb311) (o := .cells #[.slice none 0 0, .float .f32 0, .float .f32 0, .float .f32 0] 29 (0, 0)) (by (with_reducible repeat (first | refine blk_drewN ?_ _ | refine blk_drew ?_ | refine blk_alloc ?_ _)); exact BK311.out) hb)
                have n5_ := Aside0.mk (blk_below (g := gb318) (o := .cells #[.slice none 0 0, .float .f32 0, .float .f32 0, .float .f32 0] 29 (0, 0)) (by (with_reducible repeat (first | refine blk_drewN ?_ _ | refine blk_drew ?_ | refine blk_alloc ?_ _)); exact BK318.out) hb)
                have n6_ := Aside0.mk (below_step (by repeat (first | (with_reducible first | exact HB.out | apply below_alloc | apply pw_below_drewN | apply below_drew1 | refine below_set ?_ GE308.out | refine below_set ?_ GE309.out | refine below_set ?_ GE310.out | refine below_set ?_ GE311.out | refine below_set ?_ GE318.out) | exact HB.out)) hb)
                clear BK308
                clear BK309
                clear BK310
                clear BK311
                clear BK318
                clear HB
                have HO314 := n0_
                have BK308 := n1_
                have BK309 := n2_
                have BK310 := n3_
                have BK311 := n4_
                have BK318 := n5_
                have HB := n6_
                clear n0_ n1_ n2_ n3_ n4_ n5_ n6_
                clear hb ho17
                refine hK.out _ _ ⟨(blk_cell BK308.out 0).trans rfl, (blk_cell BK308.out 1).trans rfl, (blk_cell BK308.out 2).trans rfl, (blk_cell BK308.out 3).trans rfl, (blk_cell BK309.out 0).trans rfl, (blk_cell BK309.out 1).trans rfl, (blk_cell BK309.out 2).trans rfl, (blk_cell BK309.out 3).trans rfl⟩ (fun hHeld => ?_)
                clear hK K
                refine norm_ (a' := ?_) ?_ ?_
                rotate_left
                ·show Act.put _ (some 16) _ = _
                 pw_
                exact norm_ (by first | (simp only [putAll, Act.put, List.setIfInBounds_toArray, List.set_cons_zero, List.set_cons_succ]; done) | (simp only [putAll, Act.put, List.setIfInBounds_toArray, List.set_cons_zero, List.set_cons_succ]; rfl)) (hJ3_9_23 (v313, gb318) _ ⟨hHeld, (by (with_reducible repeat (first | apply Kd.R_alloc | apply Kd.R_drewN | apply Kd.R_drew)); exact HO314.out), (by (with_reducible repeat (first | refine blk_drewN ?_ _ | refine blk_drew ?_ | refine blk_alloc ?_ _)); exact BK308.out), (by (with_reducible repeat (first | refine blk_drewN ?_ _ | refine blk_drew ?_ | refine blk_alloc ?_ _)); exact BK309.out), (by (with_reducible repeat (first | refine blk_drewN ?_ _ | refine blk_drew ?_ | refine blk_alloc ?_ _)); exact BK310.out), (by (with_reducible repeat (first | refine blk_drewN ?_ _ | refine blk_drew ?_ | refine blk_alloc ?_ _)); exact BK311.out), (by (with_reducible repeat (first | refine blk_drewN ?_ _ | refine blk_drew ?_ | refine blk_alloc ?_ _)); exact BK318.out), GW318.out, GE318.out, NB308_318.out, NB318_308.out, NB309_318.out, NB318_309.out, NB310_318.out, NB318_310.out, NB311_318.out, NB318_311.out, (by repeat (first | (with_reducible first | exact HB.out | apply below_alloc | apply pw_below_drewN | apply below_drew1 | refine below_set ?_ GE308.out | refine below_set ?_ GE309.out | refine below_set ?_ GE310.out | refine below_set ?_ GE311.out | refine below_set ?_ GE318.out) | exact HB.out))⟩)
               ·skip
                refine goesV_ #[.pointer (some ⟨gb310, 0, none⟩)] Try.func113 (by kernel_rfl) rfl #[.float .f32 a0_2, .float .f32 a1_2, .pointer (some ⟨gb310, 0, none⟩)] (by rfl) rfl rfl rfl (by (try simp only [List.map_toArray, List.map_cons, List.map_nil]); first | done | rfl | (simp only [List.length_drop, List.length_take]; rfl)) ?_
                with_reducible refine (impl_mixFrames_1.calls a0_2 a1_2 _ [(⟨a2⟩ : S25)] t316 _ ?side1 A7.out).mono ?_
                (case side1 => exact Kd.C_one (T := 25) (by (with_reducible repeat (first | refine blk_drewN ?_ _ | refine blk_drew ?_ | refine blk_alloc ?_ _)); exact BK310.out) (k25_mk _ (⟨a2⟩ : S25) ))
                rintro e w' ⟨rfl, ⟨nd, rfl⟩⟩
                refine ⟨_, rfl, ?_⟩
                refine hK.out _ _ ⟨(blk_cell BK308.out 0).trans rfl, (blk_cell BK308.out 1).trans rfl, (blk_cell BK308.out 2).trans rfl, (blk_cell BK308.out 3).trans rfl, (blk_cell BK309.out 0).trans rfl, (blk_cell BK309.out 1).trans rfl, (blk_cell BK309.out 2).trans rfl, (blk_cell BK309.out 3).trans rfl⟩ (fun hHeld => ?_)
                clear hK K
                refine norm_ (a' := ?_) ?_ ?_
                rotate_left
                ·show Act.put _ (some 28) _ = _
                 pw_
                exact norm_ (by first | (simp only [putAll, Act.put, List.setIfInBounds_toArray, List.set_cons_zero, List.set_cons_succ]; done) | (simp only [putAll, Act.put, List.setIfInBounds_toArray, List.set_cons_zero, List.set_cons_succ]; rfl)) (hJ9_15_23 (gb318) _ ⟨hHeld, (by (with_reducible repeat (first | refine blk_drewN ?_ _ | refine blk_drew ?_ | refine blk_alloc ?_ _)); exact BK308.out), (by (with_reducible repeat (first | refine blk_drewN ?_ _ | refine blk_drew ?_ | refine blk_alloc ?_ _)); exact BK309.out), (by (with_reducible repeat (first | refine blk_drewN ?_ _ | refine blk_drew ?_ | refine blk_alloc ?_ _)); exact BK310.out), (by (with_reducible repeat (first | refine blk_drewN ?_ _ | refine blk_drew ?_ | refine blk_alloc ?_ _)); exact BK311.out), (by (with_reducible repeat (first | refine blk_drewN ?_ _ | refine blk_drew ?_ | refine blk_alloc ?_ _)); exact BK318.out), GW318.out, GE318.out, NB308_318.out, NB318_308.out, NB309_318.out, NB318_309.out, NB310_318.out, NB318_310.out, NB311_318.out, NB318_311.out, (by repeat (first | (with_reducible first | exact HB.out | apply below_alloc | apply pw_below_drewN | apply below_drew1 | refine below_set ?_ GE308.out | refine below_set ?_ GE309.out | refine below_set ?_ GE310.out | refine below_set ?_ GE311.out | refine below_set ?_ GE318.out) | exact HB.out))⟩)
             ·skip
              rintro _ w14 ⟨hS_, h0_, h1_, h2_, h3_, h4_⟩
              have n0_ : Aside0 (w14.heap[gb308]? = some (.cells #[.slice A0_0 l0_0.length c0_0, .float .f32 a0_1, .float .f32 a0_2, .float .f32 a0_3] 29 (0, 0))) := ⟨h0_⟩
              have n1_ : Aside0 (w14.heap[gb309]? = some (.cells #[.slice A1_0 l1_0.length c1_0, .float .f32 a1_1, .float .f32 a1_2, .float .f32 a1_3] 29 (0, 0))) := ⟨h1_⟩
              have n2_ : Aside0 (w14.heap[gb310]? = some (.cells #[.float .f32 a2] 25 (0, 0))) := ⟨h2_⟩
              have n3_ : Aside0 (w14.heap[gb311]? = some (.cells #[.slice none 0 0, .float .f32 0, .float .f32 0, .float .f32 0] 29 (0, 0))) := ⟨h3_⟩
              have n4_ : Aside0 (Below w.heap.size w w14) := ⟨h4_⟩
              clear BK308
              clear BK309
              clear BK310
              clear BK311
              clear HB
              clear h0_ h1_ h2_ h3_ h4_
              have BK308 := n0_
              have BK309 := n1_
              have BK310 := n2_
              have BK311 := n3_
              have HB := n4_
              clear n0_ n1_ n2_ n3_ n4_
              have hHeld : w14.cell? ⟨gb308, 0, none⟩ = some (.slice A0_0 l0_0.length c0_0) ∧ w14.cell? ⟨gb308, 1, none⟩ = some (.float .f32 a0_1) ∧ w14.cell? ⟨gb308, 2, none⟩ = some (.float .f32 a0_2) ∧ w14.cell? ⟨gb308, 3, none⟩ = some (.float .f32 a0_3) ∧ w14.cell? ⟨gb309, 0, none⟩ = some (.slice A1_0 l1_0.length c1_0) ∧ w14.cell? ⟨gb309, 1, none⟩ = some (.float .f32 a1_1) ∧ w14.cell? ⟨gb309, 2, none⟩ = some (.float .f32 a1_2) ∧ w14.cell? ⟨gb309, 3, none⟩ = some (.float .f32 a1_3) := hS_
              refine norm_ (a' := ?_) ?_ ?_
              rotate_left
              ·simp only [putAll, Act.put, List.setIfInBounds_toArray, List.set_cons_zero, List.set_cons_succ]
               rfl
              refine three_ (i := 3) (j := 21) (k := 23) (Ni := some 16) (Nj := some 34) (Nk := some 9) impl_mixFrames.z23 impl_mixFrames.z25 impl_mixFrames.z26 rfl rfl rfl rfl rfl rfl (three_of HT_.out (by kernel_rfl)) (by decide) (by decide) (by decide) (fun K hK => ?_) (fun K hK => ?_) (fun K hK => ?_)
              ·skip
               refine Kd.R_make_step (Kd.float .f32) _ 25 (by rfl) (N := 16) rfl 24 _ _ rfl (l0_0.length : Int) rfl rfl Try.underlying24 (.float .f32 0) 4 info25 rfl (by decide) (by omega) 0 (ok := fun k_ => k_ ≠ gb310) (okp := fun _ => False) rfl (fun _ hk => hk.elim) (Nat.ne_of_gt (blk_lt (by (with_reducible repeat (first | refine blk_drewN ?_ _ | refine blk_drew ?_ | refine blk_alloc ?_ _)); exact BK310.out))) (of_decide_eq_true (by first | (with_reducible assumption) | assumption)) (Nat.le_trans (Nat.mul_le_mul_right _ (of_decide_eq_true (by first | (with_reducible assumption) | assumption) : (l0_0.length : Int).toNat ≤ 70368744177664)) (by omega)) (Below.refl _ _) (Nat.le_refl _) ?_
               intro v313 w15 ho16 hb hg_ hnew_
               clear hg_ hnew_
               (first | rw [← Ny312.out] at ho16 | (simp only [Int.reduceToNat] at ho16; rw [← Ny312.out] at ho16))
               have n0_ := Aside0.mk (Kd.R_lower ho16 (below_size (by repeat (first | (with_reducible first | exact HB.out | apply below_alloc | apply pw_below_drewN | apply below_drew1 | refine below_set ?_ GE308.out | refine below_set ?_ GE309.out | refine below_set ?_ GE310.out | refine below_set ?_ GE311.out) | exact HB.out))))
               have n1_ := Aside0.mk (blk_below (g := gb308) (o := .cells #[.slice A0_0 l0_0.length c0_0, .float .f32 a0_1, .float .f32 a0_2, .float .f32 a0_3] 29 (0, 0)) (by (with_reducible repeat (first | refine blk_drewN ?_ _ | refine blk_drew ?_ | refine blk_alloc ?_ _)); exact BK308.out) hb)
               have n2_ := Aside0.mk (blk_below (g := gb309) (o := .cells #[.slice A1_0 l1_0.length c1_0, .float .f32 a1_1, .float .f32 a1_2, .float .f32 a1_3] 29 (0, 0)) (by (with_reducible repeat (first | refine blk_drewN ?_ _ | refine blk_drew ?_ | refine blk_alloc ?_ _)); exact BK309.out) hb)
               have n3_ := Aside0.mk (blk_below (g := gb310) (o := .cells #[.float .f32 a2] 25 (0, 0)) (by (with_reducible repeat (first | refine blk_drewN ?_ _ | refine blk_drew ?_ | refine blk_alloc ?_ _)); exact BK310.out) hb)
               have n4_ := Aside0.mk (blk_below (g := gb311) (o := .cells #[.slice none 0 0, .float .f32 0, .float .f32 0, .float .f32 0] 29 (0, 0)) (by (with_reducible repeat (first | refine blk_drewN ?_ _ | refine blk_drew ?_ | refine blk_alloc ?_ _)); exact BK311.out) hb)
               have n5_ := Aside0.mk (below_step (by repeat (first | (with_reducible first | exact HB.out | apply below_alloc | apply pw_below_drewN | apply below_drew1 | refine below_set ?_ GE308.out | refine below_set ?_ GE309.out | refine below_set ?_ GE310.out | refine below_set ?_ GE311.out) | exact HB.out)) hb)
               clear BK308
               clear BK309
               clear BK310
               clear BK311
               clear HB
               have HO314 := n0_
               have BK308 := n1_
               have BK309 := n2_
               have BK310 := n3_
               have BK311 := n4_
               have HB := n5_
               clear n0_ n1_ n2_ n3_ n4_ n5_
               clear hb ho16
               refine hK.out _ _ ⟨(blk_cell BK308.out 0).trans rfl, (blk_cell BK308.out 1).trans rfl, (blk_cell BK308.out 2).trans rfl, (blk_cell BK308.out 3).trans rfl, (blk_cell BK309.out 0).trans rfl, (blk_cell BK309.out 1).trans rfl, (blk_cell BK309.out 2).trans rfl, (blk_cell BK309.out 3).trans rfl⟩ (fun hHeld => ?_)
               clear hK K
               refine norm_ (a' := ?_) ?_ ?_
               rotate_left
               ·show Act.put _ (some 16) _ = _
                pw_
               exact norm_ (by first | (simp only [putAll, Act.put, List.setIfInBounds_toArray, List.set_cons_zero, List.set_cons_succ]; done) | (simp only [putAll, Act.put, List.setIfInBounds_toArray, List.set_cons_zero, List.set_cons_succ]; rfl)) (hJ3_9_15 (v313) _ ⟨hHeld, (by (with_reducible repeat (first | apply Kd.R_alloc | apply Kd.R_drewN | apply Kd.R_drew)); exact HO314.out), (by (with_reducible repeat (first | refine blk_drewN ?_ _ | refine blk_drew ?_ | refine blk_alloc ?_ _)); exact BK308.out), (by (with_reducible repeat (first | refine blk_drewN ?_ _ | refine blk_drew ?_ | refine blk_alloc ?_ _)); exact BK309.out), (by (with_reducible repeat (first | refine blk_drewN ?_ _ | refine blk_drew ?_ | refine blk_alloc ?_ _)); exact BK310.out), (by (with_reducible repeat (first | refine blk_drewN ?_ _ | refine blk_drew ?_ | refine blk_alloc ?_ _)); exact BK311.out), (by repeat (first | (with_reducible first | exact HB.out | apply below_alloc | apply pw_below_drewN | apply below_drew1 | refine below_set ?_ GE308.out | refine below_set ?_ GE309.out | refine below_set ?_ GE310.out | refine below_set ?_ GE311.out) | exact HB.out))⟩)
              ·skip
               refine goesV_ #[.pointer (some ⟨gb310, 0, none⟩)] Try.func113 (by kernel_rfl) rfl #[.float .f32 a0_3, .float .f32 a1_3, .pointer (some ⟨gb310, 0, none⟩)] (by rfl) rfl rfl rfl (by (try simp only [List.map_toArray, List.map_cons, List.map_nil]); first | done | rfl | (simp only [List.length_drop, List.length_take]; rfl)) ?_
               with_reducible refine (impl_mixFrames_1.calls a0_3 a1_3 _ [(⟨a2⟩ : S25)] t317 _ ?side1 A8.out).mono ?_
               (case side1 => exact Kd.C_one (T := 25) (by (with_reducible repeat (first | refine blk_drewN ?_ _ | refine blk_drew ?_ | refine blk_alloc ?_ _)); exact BK310.out) (k25_mk _ (⟨a2⟩ : S25) ))
               rintro e w' ⟨rfl, ⟨nd, rfl⟩⟩
               refine ⟨_, rfl, ?_⟩
               refine hK.out _ _ ⟨(blk_cell BK308.out 0).trans rfl, (blk_cell BK308.out 1).trans rfl, (blk_cell BK308.out 2).trans rfl, (blk_cell BK308.out 3).trans rfl, (blk_cell BK309.out 0).trans rfl, (blk_cell BK309.out 1).trans rfl, (blk_cell BK309.out 2).trans rfl, (blk_cell BK309.out 3).trans rfl⟩ (fun hHeld => ?_)
               clear hK K
               refine norm_ (a' := ?_) ?_ ?_
               rotate_left
               ·show Act.put _ (some 34) _ = _
                pw_
               exact norm_ (by first | (simp only [putAll, Act.put, List.setIfInBounds_toArray, List.set_cons_zero, List.set_cons_succ]; done) | (simp only [putAll, Act.put, List.setIfInBounds_toArray, List.set_cons_zero, List.set_cons_succ]; rfl)) (hJ9_15_21 () _ ⟨hHeld, (by (with_reducible repeat (first | refine blk_drewN ?_ _ | refine blk_drew ?_ | refine blk_alloc ?_ _)); exact BK308.out), (by (with_reducible repeat (first | refine blk_drewN ?_ _ | refine blk_drew ?_ | refine blk_alloc ?_ _)); exact BK309.out), (by (with_reducible repeat (first | refine blk_drewN ?_ _ | refine blk_drew ?_ | refine blk_alloc ?_ _)); exact BK310.out), (by (with_reducible repeat (first | refine blk_drewN ?_ _ | refine blk_drew ?_ | refine blk_alloc ?_ _)); exact BK311.out), (by repeat (first | (with_reducible first | exact HB.out | apply below_alloc | apply pw_below_drewN | apply below_drew1 | refine below_set ?_ GE308.out | refine below_set ?_ GE309.out | refine below_set ?_ GE310.out | refine below_set ?_ GE311.out) | exact HB.out))⟩)
              ·skip
               refine box_step ?hg (N := 9) ?hd (cs := #[.slice none 0 0, .float .f32 0, .float .f32 0, .float .f32 0]) (t := 29) ?hr ?_; (case hd => rfl); (case hg => rfl); (case hr => first | (go_simp; done) | (go_simp; rfl) | (simp (disch := omega) only [w64_id]; go_simp; done) | (go_simp; simp (disch := omega) only [w64_id]; done))
               intro gb318 hg w15 hbox hb
               have n0_ := Aside0.mk (blk_below (g := gb308) (o := .cells #[.slice A0_0 l0_0.length c0_0, .float .f32 a0_1, .float .f32 a0_2, .float .f32 a0_3] 29 (0, 0)) (by (with_reducible repeat (first | refine blk_drewN ?_ _ | refine blk_drew ?_ | refine blk_alloc ?_ _)); exact BK308.out) hb)
               have n1_ := Aside0.mk (blk_below (g := gb309) (o := .cells #[.slice A1_0 l1_0.length c1_0, .float .f32 a1_1, .float .f32 a1_2, .float .f32 a1_3] 29 (0, 0)) (by (with_reducible repeat (first | refine blk_drewN ?_ _ | refine blk_drew ?_ | refine blk_alloc ?_ _)); exact BK309.out) hb)
               have n2_ := Aside0.mk (blk_below (g := gb310) (o := .cells #[.float .f32 a2] 25 (0, 0)) (by (with_reducible repeat (first | refine blk_drewN ?_ _ | refine blk_drew ?_ | refine blk_alloc ?_ _)); exact BK310.out) hb)
               have n3_ := Aside0.mk (blk_below (g := gb311) (o := .cells #[.slice none 0 0, .float .f32 0, .float .f32 0, .float .f32 0] 29 (0, 0)) (by (with_reducible repeat (first | refine blk_drewN ?_ _ | refine blk_drew ?_ | refine blk_alloc ?_ _)); exact BK311.out) hb)
               have n4_ := Aside0.mk (below_step (by repeat (first | (with_reducible first | exact HB.out | apply below_alloc | apply pw_below_drewN | apply below_drew1 | refine below_set ?_ GE308.out | refine below_set ?_ GE309.out | refine below_set ?_ GE310.out | refine below_set ?_ GE311.out) | exact HB.out)) hb)
               have n5_ := Aside0.mk (hbox)
               have n6_ := Aside0.mk ((by rw [hg]; exact (below_size (by repeat (first | (with_reducible first | exact HB.out | apply below_alloc | apply pw_below_drewN | apply below_drew1 | refine below_set ?_ GE308.out | refine below_set ?_ GE309.out | refine below_set ?_ GE310.out | refine below_set ?_ GE311.out) | exact HB.out))) : w.heap.size ≤ gb318))
               have n7_ := Aside0.mk ((by rw [hg]; exact (below_size (by repeat (first | (with_reducible first | exact HB.out | apply below_alloc | apply pw_below_drewN | apply below_drew1 | refine below_set ?_ GE308.out | refine below_set ?_ GE309.out | refine below_set ?_ GE310.out | refine below_set ?_ GE311.out) | exact HB.out))) : w.heap.size ≤ gb318))
               have n8_ := Aside0.mk ((by rw [hg]; exact Nat.ne_of_lt (blk_lt (g := gb308) (o := .cells #[.slice A0_0 l0_0.length c0_0, .float .f32 a0_1, .float .f32 a0_2, .float .f32 a0_3] 29 (0, 0)) (by (with_reducible repeat (first | refine blk_drewN ?_ _ | refine blk_drew ?_ | refine blk_alloc ?_ _)); exact BK308.out)) : gb308 ≠ gb318))
               have n9_ := Aside0.mk ((by rw [hg]; exact Nat.ne_of_gt (blk_lt (g := gb308) (o := .cells #[.slice A0_0 l0_0.length c0_0, .float .f32 a0_1, .float .f32 a0_2, .float .f32 a0_3] 29 (0, 0)) (by (with_reducible repeat (first | refine blk_drewN ?_ _ | refine blk_drew ?_ | refine blk_alloc ?_ _)); exact BK308.out)) : gb318 ≠ gb308))
               have n10_ := Aside0.mk ((by rw [hg]; exact Nat.ne_of_lt (blk_lt (g := gb309) (o := .cells #[.slice A1_0 l1_0.length c1_0, .float .f32 a1_1, .float .f32 a1_2, .float .f32 a1_3] 29 (0, 0)) (by (with_reducible repeat (first | refine blk_drewN ?_ _ | refine blk_drew ?_ | refine blk_alloc ?_ _)); exact BK309.out)) : gb309 ≠ gb318))
               have n11_ := Aside0.mk ((by rw [hg]; exact Nat.ne_of_gt (blk_lt (g := gb309) (o := .cells #[.slice A1_0 l1_0.length c1_0, .float .f32 a1_1, .float .f32 a1_2, .float .f32 a1_3] 29 (0, 0)) (by (with_reducible repeat (first | refine blk_drewN ?_ _ | refine blk_drew ?_ | refine blk_alloc ?_ _)); exact BK309.out)) : gb318 ≠ gb309))
               have n12_ := Aside0.mk ((by rw [hg]; exact Nat.ne_of_lt (blk_lt (g := gb310) (o := .cells #[.float .f32 a2] 25 (0, 0)) (by (with_reducible repeat (first | refine blk_drewN ?_ _ | refine blk_drew ?_ | refine blk_alloc ?_ _)); exact BK310.out)) : gb310 ≠ gb318))
               have n13_ := Aside0.mk ((by rw [hg]; exact Nat.ne_of_gt (blk_lt (g := gb310) (o := .cells #[.float .f32 a2] 25 (0, 0)) (by (with_reducible repeat (first | refine blk_drewN ?_ _ | refine blk_drew ?_ | refine blk_alloc ?_ _)); exact BK310.out)) : gb318 ≠ gb310))
               have n14_ := Aside0.mk ((by rw [hg]; exact Nat.ne_of_lt (blk_lt (g := gb311) (o := .cells #[.slice none 0 0, .float .f32 0, .float .f32 0, .float .f32 0] 29 (0, 0)) (by (with_reducible repeat (first | refine blk_drewN ?_ _ | refine blk_drew ?_ | refine blk_alloc ?_ _)); exact BK311.out)) : gb311 ≠ gb318))
               have n15_ := Aside0.mk ((by rw [hg]; exact Nat.ne_of_gt (blk_lt (g := gb311) (o := .cells #[.slice none 0 0, .float .f32 0, .float .f32 0, .float .f32 0] 29 (0, 0)) (by (with_reducible repeat (first | refine blk_drewN ?_ _ | refine blk_drew ?_ | refine blk_alloc ?_ _)); exact BK311.out)) : gb318 ≠ gb311))
               clear BK308
               clear BK309
               clear BK310
               clear BK311
               clear HB
               have BK308 := n0_
               have BK309 := n1_
               have BK310 := n2_
               have BK311 := n3_
               have HB := n4_
               have BK318 := n5_
               have GW318 := n6_
               have GE318 := n7_
               have NB308_318 := n8_
               have NB318_308 := n9_
               have NB309_318 := n10_
               have NB318_309 := n11_
               have NB310_318 := n12_
               have NB318_310 := n13_
               have NB311_318 := n14_
               have NB318_311 := n15_
               clear n0_ n1_ n2_ n3_ n4_ n5_ n6_ n7_ n8_ n9_ n10_ n11_ n12_ n13_ n14_ n15_
               clear hb hbox hg
               refine hK.out _ _ ⟨(blk_cell BK308.out 0).trans rfl, (blk_cell BK308.out 1).trans rfl, (blk_cell BK308.out 2).trans rfl, (blk_cell BK308.out 3).trans rfl, (blk_cell BK309.out 0).trans rfl, (blk_cell BK309.out 1).trans rfl, (blk_cell BK309.out 2).trans rfl, (blk_cell BK309.out 3).trans rfl⟩ (fun hHeld => ?_)
               clear hK K
               refine norm_ (a' := ?_) ?_ ?_
               rotate_left
               ·show Act.put _ (some 9) _ = _
                pw_
               exact norm_ (by first | (simp only [putAll, Act.put, List.setIfInBounds_toArray, List.set_cons_zero, List.set_cons_succ]; done) | (simp only [putAll, Act.put, List.setIfInBounds_toArray, List.set_cons_zero, List.set_cons_succ]; rfl)) (hJ9_15_23 (gb318) _ ⟨hHeld, (by (with_reducible repeat (first | refine blk_drewN ?_ _ | refine blk_drew ?_ | refine blk_alloc ?_ _)); exact BK308.out), (by (with_reducible repeat (first | refine blk_drewN ?_ _ | refine blk_drew ?_ | refine blk_alloc ?_ _)); exact BK309.out), (by (with_reducible repeat (first | refine blk_drewN ?_ _ | refine blk_drew ?_ | refine blk_alloc ?_ _)); exact BK310.out), (by (with_reducible repeat (first | refine blk_drewN ?_ _ | refine blk_drew ?_ | refine blk_alloc ?_ _)); exact BK311.out), (by (with_reducible repeat (first | refine blk_drewN ?_ _ | refine blk_drew ?_ | refine blk_alloc ?_ _)); exact BK318.out), GW318.out, GE318.out, NB308_318.out, NB318_308.out, NB309_318.out, NB318_309.out, NB310_318.out, NB318_310.out, NB311_318.out, NB318_311.out, (by repeat (first | (with_reducible first | exact HB.out | apply below_alloc | apply pw_below_drewN | apply below_drew1 | refine below_set ?_ GE308.out | refine below_set ?_ GE309.out | refine below_set ?_ GE310.out | refine below_set ?_ GE311.out | refine below_set ?_ GE318.out) | exact HB.out))⟩)
            ·skip
             rintro ⟨v313, gb318⟩ w17 ⟨hS_, h0_, h1_, h2_, h3_, h4_, h5_, h6_, h7_, h8_, h9_, h10_, h11_, h12_, h13_, h14_, h15_, h16_⟩
             have n0_ : Aside0 (Kd.R (Kd.float .f32) 25 w17 w.heap.size (fun k_ => k_ ≠ gb310) v313 y312) := ⟨h0_⟩
             have n1_ : Aside0 (w17.heap[gb308]? = some (.cells #[.slice A0_0 l0_0.length c0_0, .float .f32 a0_1, .float .f32 a0_2, .float .f32 a0_3] 29 (0, 0))) := ⟨h1_⟩
             have n2_ : Aside0 (w17.heap[gb309]? = some (.cells #[.slice A1_0 l1_0.length c1_0, .float .f32 a1_1, .float .f32 a1_2, .float .f32 a1_3] 29 (0, 0))) := ⟨h2_⟩
             have n3_ : Aside0 (w17.heap[gb310]? = some (.cells #[.float .f32 a2] 25 (0, 0))) := ⟨h3_⟩
             have n4_ : Aside0 (w17.heap[gb311]? = some (.cells #[.slice none 0 0, .float .f32 0, .float .f32 0, .float .f32 0] 29 (0, 0))) := ⟨h4_⟩
             have n5_ : Aside0 (w17.heap[gb318]? = some (.cells #[.slice none 0 0, .float .f32 0, .float .f32 0, .float .f32 0] 29 (0, 0))) := ⟨h5_⟩
             have n6_ : Aside0 (w.heap.size ≤ gb318) := ⟨h6_⟩
             have n7_ : Aside0 (w.heap.size ≤ gb318) := ⟨h7_⟩
             have n8_ : Aside0 (gb308 ≠ gb318) := ⟨h8_⟩
             have n9_ : Aside0 (gb318 ≠ gb308) := ⟨h9_⟩
             have n10_ : Aside0 (gb309 ≠ gb318) := ⟨h10_⟩
             have n11_ : Aside0 (gb318 ≠ gb309) := ⟨h11_⟩
             have n12_ : Aside0 (gb310 ≠ gb318) := ⟨h12_⟩
             have n13_ : Aside0 (gb318 ≠ gb310) := ⟨h13_⟩
             have n14_ : Aside0 (gb311 ≠ gb318) := ⟨h14_⟩
             have n15_ : Aside0 (gb318 ≠ gb311) := ⟨h15_⟩
             have n16_ : Aside0 (Below w.heap.size w w17) := ⟨h16_⟩
             clear BK308
             clear BK309
             clear BK310
             clear BK311
             clear HB
             clear h0_ h1_ h2_ h3_ h4_ h5_ h6_ h7_ h8_ h9_ h10_ h11_ h12_ h13_ h14_ h15_ h16_
             have HO314 := n0_
             have BK308 := n1_
             have BK309 := n2_
             have BK310 := n3_
             have BK311 := n4_
             have BK318 := n5_
             have GW318 := n6_
             have GE318 := n7_
             have NB308_318 := n8_
             have NB318_308 := n9_
             have NB309_318 := n10_
             have NB318_309 := n11_
             have NB310_318 := n12_
             have NB318_310 := n13_
             have NB311_318 := n14_
             have NB318_311 := n15_
             have HB := n16_
             clear n0_ n1_ n2_ n3_ n4_ n5_ n6_ n7_ n8_ n9_ n10_ n11_ n12_ n13_ n14_ n15_ n16_
             have hHeld : w17.cell? ⟨gb308, 0, none⟩ = some (.slice A0_0 l0_0.length c0_0) ∧ w17.cell? ⟨gb308, 1, none⟩ = some (.float .f32 a0_1) ∧ w17.cell? ⟨gb308, 2, none⟩ = some (.float .f32 a0_2) ∧ w17.cell? ⟨gb308, 3, none⟩ = some (.float .f32 a0_3) ∧ w17.cell? ⟨gb309, 0, none⟩ = some (.slice A1_0 l1_0.length c1_0) ∧ w17.cell? ⟨gb309, 1, none⟩ = some (.float .f32 a1_1) ∧ w17.cell? ⟨gb309, 2, none⟩ = some (.float .f32 a1_2) ∧ w17.cell? ⟨gb309, 3, none⟩ = some (.float .f32 a1_3) := hS_
             refine norm_ (a' := ?_) ?_ ?_
             rotate_left
             ·simp only [putAll, Act.put, List.setIfInBounds_toArray, List.set_cons_zero, List.set_cons_succ]
              rfl
             refine one_ (i := 9) (N := some 22) impl_mixFrames.z24 rfl rfl (one_of HT_.out (by kernel_rfl)) (by decide) (fun K hK => ?_)
             refine goesV_ #[.pointer (some ⟨gb310, 0, none⟩)] Try.func113 (by kernel_rfl) rfl #[.float .f32 a0_1, .float .f32 a1_1, .pointer (some ⟨gb310, 0, none⟩)] (by rfl) rfl rfl rfl (by (try simp only [List.map_toArray, List.map_cons, List.map_nil]); first | done | rfl | (simp only [List.length_drop, List.length_take]; rfl)) ?_
             with_reducible refine (impl_mixFrames_1.calls a0_1 a1_1 _ [(⟨a2⟩ : S25)] t315 _ ?side1 A6.out).mono ?_
             (case side1 => exact Kd.C_one (T := 25) (by (with_reducible repeat (first | refine blk_drewN ?_ _ | refine blk_drew ?_ | refine blk_alloc ?_ _)); exact BK310.out) (k25_mk _ (⟨a2⟩ : S25) ))
             rintro e w' ⟨rfl, ⟨nd, rfl⟩⟩
             refine ⟨_, rfl, ?_⟩
             refine hK.out _ _ ⟨(blk_cell BK308.out 0).trans rfl, (blk_cell BK308.out 1).trans rfl, (blk_cell BK308.out 2).trans rfl, (blk_cell BK308.out 3).trans rfl, (blk_cell BK309.out 0).trans rfl, (blk_cell BK309.out 1).trans rfl, (blk_cell BK309.out 2).trans rfl, (blk_cell BK309.out 3).trans rfl⟩ (fun hHeld => ?_)
             clear hK K
             refine norm_ (a' := ?_) ?_ ?_
             rotate_left
             ·show Act.put _ (some 22) _ = _
              pw_
             exact norm_ (by first | (simp only [putAll, Act.put, List.setIfInBounds_toArray, List.set_cons_zero, List.set_cons_succ]; done) | (simp only [putAll, Act.put, List.setIfInBounds_toArray, List.set_cons_zero, List.set_cons_succ]; rfl)) (hJ3_9_23 (v313, gb318) _ ⟨hHeld, (by (with_reducible repeat (first | apply Kd.R_alloc | apply Kd.R_drewN | apply Kd.R_drew)); exact HO314.out), (by (with_reducible repeat (first | refine blk_drewN ?_ _ | refine blk_drew ?_ | refine blk_alloc ?_ _)); exact BK308.out), (by (with_reducible repeat (first | refine blk_drewN ?_ _ | refine blk_drew ?_ | refine blk_alloc ?_ _)); exact BK309.out), (by (with_reducible repeat (first | refine blk_drewN ?_ _ | refine blk_drew ?_ | refine blk_alloc ?_ _)); exact BK310.out), (by (with_reducible repeat (first | refine blk_drewN ?_ _ | refine blk_drew ?_ | refine blk_alloc ?_ _)); exact BK311.out), (by (with_reducible repeat (first | refine blk_drewN ?_ _ | refine blk_drew ?_ | refine blk_alloc ?_ _)); exact BK318.out), GW318.out, GE318.out, NB308_318.out, NB318_308.out, NB309_318.out, NB318_309.out, NB310_318.out, NB318_310.out, NB311_318.out, NB318_311.out, (by repeat (first | (with_reducible first | exact HB.out | apply below_alloc | apply pw_below_drewN | apply below_drew1 | refine below_set ?_ GE308.out | refine below_set ?_ GE309.out | refine below_set ?_ GE310.out | refine below_set ?_ GE311.out | refine below_set ?_ GE318.out) | exact HB.out))⟩)
           ·skip
            rintro v313 w16 ⟨hS_, h0_, h1_, h2_, h3_, h4_, h5_⟩
            have n0_ : Aside0 (Kd.R (Kd.float .f32) 25 w16 w.heap.size (fun k_ => k_ ≠ gb310) v313 y312) := ⟨h0_⟩
            have n1_ : Aside0 (w16.heap[gb308]? = some (.cells #[.slice A0_0 l0_0.length c0_0, .float .f32 a0_1, .float .f32 a0_2, .float .f32 a0_3] 29 (0, 0))) := ⟨h1_⟩
            have n2_ : Aside0 (w16.heap[gb309]? = some (.cells #[.slice A1_0 l1_0.length c1_0, .float .f32 a1_1, .float .f32 a1_2, .float .f32 a1_3] 29 (0, 0))) := ⟨h2_⟩
            have n3_ : Aside0 (w16.heap[gb310]? = some (.cells #[.float .f32 a2] 25 (0, 0))) := ⟨h3_⟩
            have n4_ : Aside0 (w16.heap[gb311]? = some (.cells #[.slice none 0 0, .float .f32 0, .float .f32 0, .float .f32 0] 29 (0, 0))) := ⟨h4_⟩
            have n5_ : Aside0 (Below w.heap.size w w16) := ⟨h5_⟩
            clear BK308
            clear BK309
            clear BK310
            clear BK311
            clear HB
            clear h0_ h1_ h2_ h3_ h4_ h5_
            have HO314 := n0_
            have BK308 := n1_
            have BK309 := n2_
            have BK310 := n3_
            have BK311 := n4_
            have HB := n5_
            clear n0_ n1_ n2_ n3_ n4_ n5_
            have hHeld : w16.cell? ⟨gb308, 0, none⟩ = some (.slice A0_0 l0_0.length c0_0) ∧ w16.cell? ⟨gb308, 1, none⟩ = some (.float .f32 a0_1) ∧ w16.cell? ⟨gb308, 2, none⟩ = some (.float .f32 a0_2) ∧ w16.cell? ⟨gb308, 3, none⟩ = some (.float .f32 a0_3) ∧ w16.cell? ⟨gb309, 0, none⟩ = some (.slice A1_0 l1_0.length c1_0) ∧ w16.cell? ⟨gb309, 1, none⟩ = some (.float .f32 a1_1) ∧ w16.cell? ⟨gb309, 2, none⟩ = some (.float .f32 a1_2) ∧ w16.cell? ⟨gb309, 3, none⟩ = some (.float .f32 a1_3) := hS_
            refine norm_ (a' := ?_) ?_ ?_
            rotate_left
            ·simp only [putAll, Act.put, List.setIfInBounds_toArray, List.set_cons_zero, List.set_cons_succ]
             rfl
            refine two_ (i := 15) (j := 23) (Ni := some 28) (Nj := some 9) impl_mixFrames.z23 impl_mixFrames.z24 rfl rfl rfl rfl (two_of HT_.out (by kernel_rfl)) (by decide) (by decide) (fun K hK => ?_) (fun K hK => ?_)
            ·skip
             refine goesV_ #[.pointer (some ⟨gb310, 0, none⟩)] Try.func113 (by kernel_rfl) rfl #[.float .f32 a0_2, .float .f32 a1_2, .pointer (some ⟨gb310, 0, none⟩)] (by rfl) rfl rfl rfl (by (try simp only [List.map_toArray, List.map_cons, List.map_nil]); first | done | rfl | (simp only [List.length_drop, List.length_take]; rfl)) ?_
             with_reducible refine (impl_mixFrames_1.calls a0_2 a1_2 _ [(⟨a2⟩ : S25)] t316 _ ?side1 A7.out).mono ?_
             (case side1 => exact Kd.C_one (T := 25) (by (with_reducible repeat (first | refine blk_drewN ?_ _ | refine blk_drew ?_ | refine blk_alloc ?_ _)); exact BK310.out) (k25_mk _ (⟨a2⟩ : S25) ))
             rintro e w' ⟨rfl, ⟨nd, rfl⟩⟩
             refine ⟨_, rfl, ?_⟩
             refine hK.out _ _ ⟨(blk_cell BK308.out 0).trans rfl, (blk_cell BK308.out 1).trans rfl, (blk_cell BK308.out 2).trans rfl, (blk_cell BK308.out 3).trans rfl, (blk_cell BK309.out 0).trans rfl, (blk_cell BK309.out 1).trans rfl, (blk_cell BK309.out 2).trans rfl, (blk_cell BK309.out 3).trans rfl⟩ (fun hHeld => ?_)
             clear hK K
             refine norm_ (a' := ?_) ?_ ?_
             rotate_left
             ·show Act.put _ (some 28) _ = _
              pw_
             exact norm_ (by first | (simp only [putAll, Act.put, List.setIfInBounds_toArray, List.set_cons_zero, List.set_cons_succ]; done) | (simp only [putAll, Act.put, List.setIfInBounds_toArray, List.set_cons_zero, List.set_cons_succ]; rfl)) (hJ3_9_15 (v313) _ ⟨hHeld, (by (with_reducible repeat (first | apply Kd.R_alloc | apply Kd.R_drewN | apply Kd.R_drew)); exact HO314.out), (by (with_reducible repeat (first | refine blk_drewN ?_ _ | refine blk_drew ?_ | refine blk_alloc ?_ _)); exact BK308.out), (by (with_reducible repeat (first | refine blk_drewN ?_ _ | refine blk_drew ?_ | refine blk_alloc ?_ _)); exact BK309.out), (by (with_reducible repeat (first | refine blk_drewN ?_ _ | refine blk_drew ?_ | refine blk_alloc ?_ _)); exact BK310.out), (by (with_reducible repeat (first | refine blk_drewN ?_ _ | refine blk_drew ?_ | refine blk_alloc ?_ _)); exact BK311.out), (by repeat (first | (with_reducible first | exact HB.out | apply below_alloc | apply pw_below_drewN | apply below_drew1 | refine below_set ?_ GE308.out | refine below_set ?_ GE309.out | refine below_set ?_ GE310.out | refine below_set ?_ GE311.out) | exact HB.out))⟩)
            ·skip
             refine box_step ?hg (N := 9) ?hd (cs := #[.slice none 0 0, .float .f32 0, .float .f32 0, .float .f32 0]) (t := 29) ?hr ?_; (case hd => rfl); (case hg => rfl); (case hr => first | (go_simp; done) | (go_simp; rfl) | (simp (disch := omega) only [w64_id]; go_simp; done) | (go_simp; simp (disch := omega) only [w64_id]; done))
             intro gb318 hg w17 hbox hb
             have n0_ := Aside0.mk (Kd.R_below (by (with_reducible repeat (first | apply Kd.R_alloc | apply Kd.R_drewN | apply Kd.R_drew)); exact HO314.out) hb)
             have n1_ := Aside0.mk (blk_below (g := gb308) (o := .cells #[.slice A0_0 l0_0.length c0_0, .float .f32 a0_1, .float .f32 a0_2, .float .f32 a0_3] 29 (0, 0)) (by (with_reducible repeat (first | refine blk_drewN ?_ _ | refine blk_drew ?_ | refine blk_alloc ?_ _)); exact BK308.out) hb)
             have n2_ := Aside0.mk (blk_below (g := gb309) (o := .cells #[.slice A1_0 l1_0.length c1_0, .float .f32 a1_1, .float .f32 a1_2, .float .f32 a1_3] 29 (0, 0)) (by (with_reducible repeat (first | refine blk_drewN ?_ _ | refine blk_drew ?_ | refine blk_alloc ?_ _)); exact BK309.out) hb)
             have n3_ := Aside0.mk (blk_below (g := gb310) (o := .cells #[.float .f32 a2] 25 (0, 0)) (by (with_reducible repeat (first | refine blk_drewN ?_ _ | refine blk_drew ?_ | refine blk_alloc ?_ _)); exact BK310.out) hb)
             have n4_ := Aside0.mk (blk_below (g := gb311) (o := .cells #[.slice none 0 0, .float .f32 0, .float .f32 0, .float .f32 0] 29 (0, 0)) (by (with_reducible repeat (first | refine blk_drewN ?_ _ | refine blk_drew ?_ | refine blk_alloc ?_ _)); exact BK311.out) hb)
             have n5_ := Aside0.mk (below_step (by repeat (first | (with_reducible first | exact HB.out | apply below_alloc | apply pw_below_drewN | apply below_drew1 | refine below_set ?_ GE308.out | refine below_set ?_ GE309.out | refine below_set ?_ GE310.out | refine below_set ?_ GE311.out) | exact HB.out)) hb)
             have n6_ := Aside0.mk (hbox)
             have n7_ := Aside0.mk ((by rw [hg]; exact (below_size (by repeat (first | (with_reducible first | exact HB.out | apply below_alloc | apply pw_below_drewN | apply below_drew1 | refine below_set ?_ GE308.out | refine below_set ?_ GE309.out | refine below_set ?_ GE310.out | refine below_set ?_ GE311.out) | exact HB.out))) : w.heap.size ≤ gb318))
             have n8_ := Aside0.mk ((by rw [hg]; exact (below_size (by repeat (first | (with_reducible first | exact HB.out | apply below_alloc | apply pw_below_drewN | apply below_drew1 | refine below_set ?_ GE308.out | refine below_set ?_ GE309.out | refine below_set ?_ GE310.out | refine below_set ?_ GE311.out) | exact HB.out))) : w.heap.size ≤ gb318))
             have n9_ := Aside0.mk ((by rw [hg]; exact Nat.ne_of_lt (blk_lt (g := gb308) (o := .cells #[.slice A0_0 l0_0.length c0_0, .float .f32 a0_1, .float .f32 a0_2, .float .f32 a0_3] 29 (0, 0)) (by (with_reducible repeat (first | refine blk_drewN ?_ _ | refine blk_drew ?_ | refine blk_alloc ?_ _)); exact BK308.out)) : gb308 ≠ gb318))
             have n10_ := Aside0.mk ((by rw [hg]; exact Nat.ne_of_gt (blk_lt (g := gb308) (o := .cells #[.slice A0_0 l0_0.length c0_0, .float .f32 a0_1, .float .f32 a0_2, .float .f32 a0_3] 29 (0, 0)) (by (with_reducible repeat (first | refine blk_drewN ?_ _ | refine blk_drew ?_ | refine blk_alloc ?_ _)); exact BK308.out)) : gb318 ≠ gb308))
             have n11_ := Aside0.mk ((by rw [hg]; exact Nat.ne_of_lt (blk_lt (g := gb309) (o := .cells #[.slice A1_0 l1_0.length c1_0, .float .f32 a1_1, .float .f32 a1_2, .float .f32 a1_3] 29 (0, 0)) (by (with_reducible repeat (first | refine blk_drewN ?_ _ | refine blk_drew ?_ | refine blk_alloc ?_ _)); exact BK309.out)) : gb309 ≠ gb318))
             have n12_ := Aside0.mk ((by rw [hg]; exact Nat.ne_of_gt (blk_lt (g := gb309) (o := .cells #[.slice A1_0 l1_0.length c1_0, .float .f32 a1_1, .float .f32 a1_2, .float .f32 a1_3] 29 (0, 0)) (by (with_reducible repeat (first | refine blk_drewN ?_ _ | refine blk_drew ?_ | refine blk_alloc ?_ _)); exact BK309.out)) : gb318 ≠ gb309))
             have n13_ := Aside0.mk ((by rw [hg]; exact Nat.ne_of_lt (blk_lt (g := gb310) (o := .cells #[.float .f32 a2] 25 (0, 0)) (by (with_reducible repeat (first | refine blk_drewN ?_ _ | refine blk_drew ?_ | refine blk_alloc ?_ _)); exact BK310.out)) : gb310 ≠ gb318))
             have n14_ := Aside0.mk ((by rw [hg]; exact Nat.ne_of_gt (blk_lt (g := gb310) (o := .cells #[.float .f32 a2] 25 (0, 0)) (by (with_reducible repeat (first | refine blk_drewN ?_ _ | refine blk_drew ?_ | refine blk_alloc ?_ _)); exact BK310.out)) : gb318 ≠ gb310))
             have n15_ := Aside0.mk ((by rw [hg]; exact Nat.ne_of_lt (blk_lt (g := gb311) (o := .cells #[.slice none 0 0, .float .f32 0, .float .f32 0, .float .f32 0] 29 (0, 0)) (by (with_reducible repeat (first | refine blk_drewN ?_ _ | refine blk_drew ?_ | refine blk_alloc ?_ _)); exact BK311.out)) : gb311 ≠ gb318))
             have n16_ := Aside0.mk ((by rw [hg]; exact Nat.ne_of_gt (blk_lt (g := gb311) (o := .cells #[.slice none 0 0, .float .f32 0, .float .f32 0, .float .f32 0] 29 (0, 0)) (by (with_reducible repeat (first | refine blk_drewN ?_ _ | refine blk_drew ?_ | refine blk_alloc ?_ _)); exact BK311.out)) : gb318 ≠ gb311))
             clear HO314
             clear BK308
             clear BK309
             clear BK310
             clear BK311
             clear HB
             have HO314 := n0_
             have BK308 := n1_
             have BK309 := n2_
             have BK310 := n3_
             have BK311 := n4_
             have HB := n5_
             have BK318 := n6_
             have GW318 := n7_
             have GE318 := n8_
             have NB308_318 := n9_
             have NB318_308 := n10_
             have NB309_318 := n11_
             have NB318_309 := n12_
             have NB310_318 := n13_
             have NB318_310 := n14_
             have NB311_318 := n15_
             have NB318_311 := n16_
             clear n0_ n1_ n2_ n3_ n4_ n5_ n6_ n7_ n8_ n9_ n10_ n11_ n12_ n13_ n14_ n15_ n16_
             clear hb hbox hg
             refine hK.out _ _ ⟨(blk_cell BK308.out 0).trans rfl, (blk_cell BK308.out 1).trans rfl, (blk_cell BK308.out 2).trans rfl, (blk_cell BK308.out 3).trans rfl, (blk_cell BK309.out 0).trans rfl, (blk_cell BK309.out 1).trans rfl, (blk_cell BK309.out 2).trans rfl, (blk_cell BK309.out 3).trans rfl⟩ (fun hHeld => ?_)
             clear hK K
             refine norm_ (a' := ?_) ?_ ?_
             rotate_left
             ·show Act.put _ (some 9) _ = _
              pw_
             exact norm_ (by first | (simp only [putAll, Act.put, List.setIfInBounds_toArray, List.set_cons_zero, List.set_cons_succ]; done) | (simp only [putAll, Act.put, List.setIfInBounds_toArray, List.set_cons_zero, List.set_cons_succ]; rfl)) (hJ3_9_23 (v313, gb318) _ ⟨hHeld, (by (with_reducible repeat (first | apply Kd.R_alloc | apply Kd.R_drewN | apply Kd.R_drew)); exact HO314.out), (by (with_reducible repeat (first | refine blk_drewN ?_ _ | refine blk_drew ?_ | refine blk_alloc ?_ _)); exact BK308.out), (by (with_reducible repeat (first | refine blk_drewN ?_ _ | refine blk_drew ?_ | refine blk_alloc ?_ _)); exact BK309.out), (by (with_reducible repeat (first | refine blk_drewN ?_ _ | refine blk_drew ?_ | refine blk_alloc ?_ _)); exact BK310.out), (by (with_reducible repeat (first | refine blk_drewN ?_ _ | refine blk_drew ?_ | refine blk_alloc ?_ _)); exact BK311.out), (by (with_reducible repeat (first | refine blk_drewN ?_ _ | refine blk_drew ?_ | refine blk_alloc ?_ _)); exact BK318.out), GW318.out, GE318.out, NB308_318.out, NB318_308.out, NB309_318.out, NB318_309.out, NB310_318.out, NB318_310.out, NB311_318.out, NB318_311.out, (by repeat (first | (with_reducible first | exact HB.out | apply below_alloc | apply pw_below_drewN | apply below_drew1 | refine below_set ?_ GE308.out | refine below_set ?_ GE309.out | refine below_set ?_ GE310.out | refine below_set ?_ GE311.out | refine below_set ?_ GE318.out) | exact HB.out))⟩)
          ·skip
           rintro gb318 w15 ⟨hS_, h0_, h1_, h2_, h3_, h4_, h5_, h6_, h7_, h8_, h9_, h10_, h11_, h12_, h13_, h14_, h15_⟩
           have n0_ : Aside0 (w15.heap[gb308]? = some (.cells #[.slice A0_0 l0_0.length c0_0, .float .f32 a0_1, .float .f32 a0_2, .float .f32 a0_3] 29 (0, 0))) := ⟨h0_⟩
           have n1_ : Aside0 (w15.heap[gb309]? = some (.cells #[.slice A1_0 l1_0.length c1_0, .float .f32 a1_1, .float .f32 a1_2, .float .f32 a1_3] 29 (0, 0))) := ⟨h1_⟩
           have n2_ : Aside0 (w15.heap[gb310]? = some (.cells #[.float .f32 a2] 25 (0, 0))) := ⟨h2_⟩
           have n3_ : Aside0 (w15.heap[gb311]? = some (.cells #[.slice none 0 0, .float .f32 0, .float .f32 0, .float .f32 0] 29 (0, 0))) := ⟨h3_⟩
           have n4_ : Aside0 (w15.heap[gb318]? = some (.cells #[.slice none 0 0, .float .f32 0, .float .f32 0, .float .f32 0] 29 (0, 0))) := ⟨h4_⟩
           have n5_ : Aside0 (w.heap.size ≤ gb318) := ⟨h5_⟩
           have n6_ : Aside0 (w.heap.size ≤ gb318) := ⟨h6_⟩
           have n7_ : Aside0 (gb308 ≠ gb318) := ⟨h7_⟩
           have n8_ : Aside0 (gb318 ≠ gb308) := ⟨h8_⟩
           have n9_ : Aside0 (gb309 ≠ gb318) := ⟨h9_⟩
           have n10_ : Aside0 (gb318 ≠ gb309) := ⟨h10_⟩
           have n11_ : Aside0 (gb310 ≠ gb318) := ⟨h11_⟩
           have n12_ : Aside0 (gb318 ≠ gb310) := ⟨h12_⟩
           have n13_ : Aside0 (gb311 ≠ gb318) := ⟨h13_⟩
           have n14_ : Aside0 (gb318 ≠ gb311) := ⟨h14_⟩
           have n15_ : Aside0 (Below w.heap.size w w15) := ⟨h15_⟩
           clear BK308
           clear BK309
           clear BK310
           clear BK311
           clear HB
           clear h0_ h1_ h2_ h3_ h4_ h5_ h6_ h7_ h8_ h9_ h10_ h11_ h12_ h13_ h14_ h15_
           have BK308 := n0_
           have BK309 := n1_
           have BK310 := n2_
           have BK311 := n3_
           have BK318 := n4_
           have GW318 := n5_
           have GE318 := n6_
           have NB308_318 := n7_
           have NB318_308 := n8_
           have NB309_318 := n9_
           have NB318_309 := n10_
           have NB310_318 := n11_
           have NB318_310 := n12_
           have NB311_318 := n13_
           have NB318_311 := n14_
           have HB := n15_
           clear n0_ n1_ n2_ n3_ n4_ n5_ n6_ n7_ n8_ n9_ n10_ n11_ n12_ n13_ n14_ n15_
           have hHeld : w15.cell? ⟨gb308, 0, none⟩ = some (.slice A0_0 l0_0.length c0_0) ∧ w15.cell? ⟨gb308, 1, none⟩ = some (.float .f32 a0_1) ∧ w15.cell? ⟨gb308, 2, none⟩ = some (.float .f32 a0_2) ∧ w15.cell? ⟨gb308, 3, none⟩ = some (.float .f32 a0_3) ∧ w15.cell? ⟨gb309, 0, none⟩ = some (.slice A1_0 l1_0.length c1_0) ∧ w15.cell? ⟨gb309, 1, none⟩ = some (.float .f32 a1_1) ∧ w15.cell? ⟨gb309, 2, none⟩ = some (.float .f32 a1_2) ∧ w15.cell? ⟨gb309, 3, none⟩ = some (.float .f32 a1_3) := hS_
           refine norm_ (a' := ?_) ?_ ?_
           rotate_left
           ·simp only [putAll, Act.put, List.setIfInBounds_toArray, List.set_cons_zero, List.set_cons_succ]
            rfl
           refine two_ (i := 3) (j := 21) (Ni := some 16) (Nj := some 34) impl_mixFrames.z21 impl_mixFrames.z22 rfl rfl rfl rfl (two_of HT_.out (by kernel_rfl)) (by decide) (by decide) (fun K hK => ?_) (fun K hK => ?_)
           ·skip
            refine Kd.R_make_step (Kd.float .f32) _ 25 (by rfl) (N := 16) rfl 24 _ _ rfl (l0_0.length : Int) rfl rfl Try.underlying24 (.float .f32 0) 4 info25 rfl (by decide) (by omega) 0 (ok := fun k_ => k_ ≠ gb310) (okp := fun _ => False) rfl (fun _ hk => hk.elim) (Nat.ne_of_gt (blk_lt (by (with_reducible repeat (first | refine blk_drewN ?_ _ | refine blk_drew ?_ | refine blk_alloc ?_ _)); exact BK310.out))) (of_decide_eq_true (by first | (with_reducible assumption) | assumption)) (Nat.le_trans (Nat.mul_le_mul_right _ (of_decide_eq_true (by first | (with_reducible assumption) | assumption) : (l0_0.length : Int).toNat ≤ 70368744177664)) (by omega)) (Below.refl _ _) (Nat.le_refl _) ?_
            intro v313 w16 ho17 hb hg_ hnew_
            clear hg_ hnew_
            (first | rw [← Ny312.out] at ho17 | (simp only [Int.reduceToNat] at ho17; rw [← Ny312.out] at ho17))
            have n0_ := Aside0.mk (Kd.R_lower ho17 (below_size (by repeat (first | (with_reducible first | exact HB.out | apply below_alloc | apply pw_below_drewN | apply below_drew1 | refine below_set ?_ GE308.out | refine below_set ?_ GE309.out | refine below_set ?_ GE310.out | refine below_set ?_ GE311.out | refine below_set ?_ GE318.out) | exact HB.out))))
            have n1_ := Aside0.mk (blk_below (g := gb308) (o := .cells #[.slice A0_0 l0_0.length c0_0, .float .f32 a0_1, .float .f32 a0_2, .float .f32 a0_3] 29 (0, 0)) (by (with_reducible repeat (first | refine blk_drewN ?_ _ | refine blk_drew ?_ | refine blk_alloc ?_ _)); exact BK308.out) hb)
            have n2_ := Aside0.mk (blk_below (g := gb309) (o := .cells #[.slice A1_0 l1_0.length c1_0, .float .f32 a1_1, .float .f32 a1_2, .float .f32 a1_3] 29 (0, 0)) (by (with_reducible repeat (first | refine blk_drewN ?_ _ | refine blk_drew ?_ | refine blk_alloc ?_ _)); exact BK309.out) hb)
            have n3_ := Aside0.mk (blk_below (g := gb310) (o := .cells #[.float .f32 a2] 25 (0, 0)) (by (with_reducible repeat (first | refine blk_drewN ?_ _ | refine blk_drew ?_ | refine blk_alloc ?_ _)); exact BK310.out) hb)
            have n4_ := Aside0.mk (blk_below (g := gb311) (o := .cells #[.slice none 0 0, .float .f32 0, .float .f32 0, .float .f32 0] 29 (0, 0)) (by (with_reducible repeat (first | refine blk_drewN ?_ _ | refine blk_drew ?_ | refine blk_alloc ?_ _)); exact BK311.out) hb)
            have n5_ := Aside0.mk (blk_below (g := gb318) (o := .cells #[.slice none 0 0, .float .f32 0, .float .f32 0, .float .f32 0] 29 (0, 0)) (by (with_reducible repeat (first | refine blk_drewN ?_ _ | refine blk_drew ?_ | refine blk_alloc ?_ _)); exact BK318.out) hb)
            have n6_ := Aside0.mk (below_step (by repeat (first | (with_reducible first | exact HB.out | apply below_alloc | apply pw_below_drewN | apply below_drew1 | refine below_set ?_ GE308.out | refine below_set ?_ GE309.out | refine below_set ?_ GE310.out | refine below_set ?_ GE311.out | refine below_set ?_ GE318.out) | exact HB.out)) hb)
            clear BK308
            clear BK309
            clear BK310
            clear BK311
            clear BK318
            clear HB
            have HO314 := n0_
            have BK308 := n1_
            have BK309 := n2_
            have BK310 := n3_
            have BK311 := n4_
            have BK318 := n5_
            have HB := n6_
            clear n0_ n1_ n2_ n3_ n4_ n5_ n6_
            clear hb ho17
            refine hK.out _ _ ⟨(blk_cell BK308.out 0).trans rfl, (blk_cell BK308.out 1).trans rfl, (blk_cell BK308.out 2).trans rfl, (blk_cell BK308.out 3).trans rfl, (blk_cell BK309.out 0).trans rfl, (blk_cell BK309.out 1).trans rfl, (blk_cell BK309.out 2).trans rfl, (blk_cell BK309.out 3).trans rfl⟩ (fun hHeld => ?_)
            clear hK K
            refine norm_ (a' := ?_) ?_ ?_
            rotate_left
            ·show Act.put _ (some 16) _ = _
             pw_
            exact norm_ (by first | (simp only [putAll, Act.put, List.setIfInBounds_toArray, List.set_cons_zero, List.set_cons_succ]; done) | (simp only [putAll, Act.put, List.setIfInBounds_toArray, List.set_cons_zero, List.set_cons_succ]; rfl)) (hJ3_9_15_23 (v313, gb318) _ ⟨hHeld, (by (with_reducible repeat (first | apply Kd.R_alloc | apply Kd.R_drewN | apply Kd.R_drew)); exact HO314.out), (by (with_reducible repeat (first | refine blk_drewN ?_ _ | refine blk_drew ?_ | refine blk_alloc ?_ _)); exact BK308.out), (by (with_reducible repeat (first | refine blk_drewN ?_ _ | refine blk_drew ?_ | refine blk_alloc ?_ _)); exact BK309.out), (by (with_reducible repeat (first | refine blk_drewN ?_ _ | refine blk_drew ?_ | refine blk_alloc ?_ _)); exact BK310.out), (by (with_reducible repeat (first | refine blk_drewN ?_ _ | refine blk_drew ?_ | refine blk_alloc ?_ _)); exact BK311.out), (by (with_reducible repeat (first | refine blk_drewN ?_ _ | refine blk_drew ?_ | refine blk_alloc ?_ _)); exact BK318.out), GW318.out, GE318.out, NB308_318.out, NB318_308.out, NB309_318.out, NB318_309.out, NB310_318.out, NB318_310.out, NB311_318.out, NB318_311.out, (by repeat (first | (with_reducible first | exact HB.out | apply below_alloc | apply pw_below_drewN | apply below_drew1 | refine below_set ?_ GE308.out | refine below_set ?_ GE309.out | refine below_set ?_ GE310.out | refine below_set ?_ GE311.out | refine below_set ?_ GE318.out) | exact HB.out))⟩)
           ·skip
            refine goesV_ #[.pointer (some ⟨gb310, 0, none⟩)] Try.func113 (by kernel_rfl) rfl #[.float .f32 a0_3, .float .f32 a1_3, .pointer (some ⟨gb310, 0, none⟩)] (by rfl) rfl rfl rfl (by (try simp only [List.map_toArray, List.map_cons, List.map_nil]); first | done | rfl | (simp only [List.length_drop, List.length_take]; rfl)) ?_
            with_reducible refine (impl_mixFrames_1.calls a0_3 a1_3 _ [(⟨a2⟩ : S25)] t317 _ ?side1 A8.out).mono ?_
            (case side1 => exact Kd.C_one (T := 25) (by (with_reducible repeat (first | refine blk_drewN ?_ _ | refine blk_drew ?_ | refine blk_alloc ?_ _)); exact BK310.out) (k25_mk _ (⟨a2⟩ : S25) ))
            rintro e w' ⟨rfl, ⟨nd, rfl⟩⟩
            refine ⟨_, rfl, ?_⟩
            refine hK.out _ _ ⟨(blk_cell BK308.out 0).trans rfl, (blk_cell BK308.out 1).trans rfl, (blk_cell BK308.out 2).trans rfl, (blk_cell BK308.out 3).trans rfl, (blk_cell BK309.out 0).trans rfl, (blk_cell BK309.out 1).trans rfl, (blk_cell BK309.out 2).trans rfl, (blk_cell BK309.out 3).trans rfl⟩ (fun hHeld => ?_)
            clear hK K
            refine norm_ (a' := ?_) ?_ ?_
            rotate_left
            ·show Act.put _ (some 34) _ = _
             pw_
            exact norm_ (by first | (simp only [putAll, Act.put, List.setIfInBounds_toArray, List.set_cons_zero, List.set_cons_succ]; done) | (simp only [putAll, Act.put, List.setIfInBounds_toArray, List.set_cons_zero, List.set_cons_succ]; rfl)) (hJ9_15_21_23 (gb318) _ ⟨hHeld, (by (with_reducible repeat (first | refine blk_drewN ?_ _ | refine blk_drew ?_ | refine blk_alloc ?_ _)); exact BK308.out), (by (with_reducible repeat (first | refine blk_drewN ?_ _ | refine blk_drew ?_ | refine blk_alloc ?_ _)); exact BK309.out), (by (with_reducible repeat (first | refine blk_drewN ?_ _ | refine blk_drew ?_ | refine blk_alloc ?_ _)); exact BK310.out), (by (with_reducible repeat (first | refine blk_drewN ?_ _ | refine blk_drew ?_ | refine blk_alloc ?_ _)); exact BK311.out), (by (with_reducible repeat (first | refine blk_drewN ?_ _ | refine blk_drew ?_ | refine blk_alloc ?_ _)); exact BK318.out), GW318.out, GE318.out, NB308_318.out, NB318_308.out, NB309_318.out, NB318_309.out, NB310_318.out, NB318_310.out, NB311_318.out, NB318_311.out, (by repeat (first | (with_reducible first | exact HB.out | apply below_alloc | apply pw_below_drewN | apply below_drew1 | refine below_set ?_ GE308.out | refine below_set ?_ GE309.out | refine below_set ?_ GE310.out | refine below_set ?_ GE311.out | refine below_set ?_ GE318.out) | exact HB.out))⟩)
         ·skip
          rintro _ w14 ⟨hS_, h0_, h1_, h2_, h3_, h4_⟩
          have n0_ : Aside0 (w14.heap[gb308]? = some (.cells #[.slice A0_0 l0_0.length c0_0, .float .f32 a0_1, .float .f32 a0_2, .float .f32 a0_3] 29 (0, 0))) := ⟨h0_⟩
          have n1_ : Aside0 (w14.heap[gb309]? = some (.cells #[.slice A1_0 l1_0.length c1_0, .float .f32 a1_1, .float .f32 a1_2, .float .f32 a1_3] 29 (0, 0))) := ⟨h1_⟩
          have n2_ : Aside0 (w14.heap[gb310]? = some (.cells #[.float .f32 a2] 25 (0, 0))) := ⟨h2_⟩
          have n3_ : Aside0 (w14.heap[gb311]? = some (.cells #[.slice none 0 0, .float .f32 0, .float .f32 0, .float .f32 0] 29 (0, 0))) := ⟨h3_⟩
          have n4_ : Aside0 (Below w.heap.size w w14) := ⟨h4_⟩
          clear BK308
          clear BK309
          clear BK310
          clear BK311
          clear HB
          clear h0_ h1_ h2_ h3_ h4_
          have BK308 := n0_
          have BK309 := n1_
          have BK310 := n2_
          have BK311 := n3_
          have HB := n4_
          clear n0_ n1_ n2_ n3_ n4_
          have hHeld : w14.cell? ⟨gb308, 0, none⟩ = some (.slice A0_0 l0_0.length c0_0) ∧ w14.cell? ⟨gb308, 1, none⟩ = some (.float .f32 a0_1) ∧ w14.cell? ⟨gb308, 2, none⟩ = some (.float .f32 a0_2) ∧ w14.cell? ⟨gb308, 3, none⟩ = some (.float .f32 a0_3) ∧ w14.cell? ⟨gb309, 0, none⟩ = some (.slice A1_0 l1_0.length c1_0) ∧ w14.cell? ⟨gb309, 1, none⟩ = some (.float .f32 a1_1) ∧ w14.cell? ⟨gb309, 2, none⟩ = some (.float .f32 a1_2) ∧ w14.cell? ⟨gb309, 3, none⟩ = some (.float .f32 a1_3) := hS_
          refine norm_ (a' := ?_) ?_ ?_
          rotate_left
          ·simp only [putAll, Act.put, List.setIfInBounds_toArray, List.set_cons_zero, List.set_cons_succ]
           rfl
          refine two_ (i := 3) (j := 23) (Ni := some 16) (Nj := some 9) impl_mixFrames.z34 impl_mixFrames.z22 rfl rfl rfl rfl (two_of HT_.out (by kernel_rfl)) (by decide) (by decide) (fun K hK => ?_) (fun K hK => ?_)
          ·skip
           refine Kd.R_make_step (Kd.float .f32) _ 25 (by rfl) (N := 16) rfl 24 _ _ rfl (l0_0.length : Int) rfl rfl Try.underlying24 (.float .f32 0) 4 info25 rfl (by decide) (by omega) 0 (ok := fun k_ => k_ ≠ gb310) (okp := fun _ => False) rfl (fun _ hk => hk.elim) (Nat.ne_of_gt (blk_lt (by (with_reducible repeat (first | refine blk_drewN ?_ _ | refine blk_drew ?_ | refine blk_alloc ?_ _)); exact BK310.out))) (of_decide_eq_true (by first | (with_reducible assumption) | assumption)) (Nat.le_trans (Nat.mul_le_mul_right _ (of_decide_eq_true (by first | (with_reducible assumption) | assumption) : (l0_0.length : Int).toNat ≤ 70368744177664)) (by omega)) (Below.refl _ _) (Nat.le_refl _) ?_
           intro v313 w15 ho16 hb hg_ hnew_
           clear hg_ hnew_
           (first | rw [← Ny312.out] at ho16 | (simp only [Int.reduceToNat] at ho16; rw [← Ny312.out] at ho16))
           have n0_ := Aside0.mk (Kd.R_lower ho16 (below_size (by repeat (first | (with_reducible first | exact HB.out | apply below_alloc | apply pw_below_drewN | apply below_drew1 | refine below_set ?_ GE308.out | refine below_set ?_ GE309.out | refine below_set ?_ GE310.out | refine below_set ?_ GE311.out) | exact HB.out))))
           have n1_ := Aside0.mk (blk_below (g := gb308) (o := .cells #[.slice A0_0 l0_0.length c0_0, .float .f32 a0_1, .float .f32 a0_2, .float .f32 a0_3] 29 (0, 0)) (by (with_reducible repeat (first | refine blk_drewN ?_ _ | refine blk_drew ?_ | refine blk_alloc ?_ _)); exact BK308.out) hb)
           have n2_ := Aside0.mk (blk_below (g := gb309) (o := .cells #[.slice A1_0 l1_0.length c1_0, .float .f32 a1_1, .float .f32 a1_2, .float .f32 a1_3] 29 (0, 0)) (by (with_reducible repeat (first | refine blk_drewN ?_ _ | refine blk_drew ?_ | refine blk_alloc ?_ _)); exact BK309.out) hb)
           have n3_ := Aside0.mk (blk_below (g := gb310) (o := .cells #[.float .f32 a2] 25 (0, 0)) (by (with_reducible repeat (first | refine blk_drewN ?_ _ | refine blk_drew ?_ | refine blk_alloc ?_ _)); exact BK310.out) hb)
           have n4_ := Aside0.mk (blk_below (g := gb311) (o := .cells #[.slice none 0 0, .float .f32 0, .float .f32 0, .float .f32 0] 29 (0, 0)) (by (with_reducible repeat (first | refine blk_drewN ?_ _ | refine blk_drew ?_ | refine blk_alloc ?_ _)); exact BK311.out) hb)
           have n5_ := Aside0.mk (below_step (by repeat (first | (with_reducible first | exact HB.out | apply below_alloc | apply pw_below_drewN | apply below_drew1 | refine below_set ?_ GE308.out | refine below_set ?_ GE309.out | refine below_set ?_ GE310.out | refine below_set ?_ GE311.out) | exact HB.out)) hb)
           clear BK308
           clear BK309
           clear BK310
           clear BK311
           clear HB
           have HO314 := n0_
           have BK308 := n1_
           have BK309 := n2_
           have BK310 := n3_
           have BK311 := n4_
           have HB := n5_
           clear n0_ n1_ n2_ n3_ n4_ n5_
           clear hb ho16
           obtain ⟨Ao17, co17, eo17⟩ := Kd.R_slice HO314.out
           (first | subst eo17 | (injection eo17 with f1_ f2_ f3_; have f4_ := f1_.symm; have f5_ := f3_.symm; clear f1_ f2_ f3_; subst f4_; subst f5_))
           refine hK.out _ _ ⟨(blk_cell BK308.out 0).trans rfl, (blk_cell BK308.out 1).trans rfl, (blk_cell BK308.out 2).trans rfl, (blk_cell BK308.out 3).trans rfl, (blk_cell BK309.out 0).trans rfl, (blk_cell BK309.out 1).trans rfl, (blk_cell BK309.out 2).trans rfl, (blk_cell BK309.out 3).trans rfl⟩ (fun hHeld => ?_)
           clear hK K
           refine norm_ (a' := ?_) ?_ ?_
           rotate_left
           ·show Act.put _ (some 16) _ = _
            pw_
           refine pure_ (i := 22) (N := some 35) (v := ?_) (a' := ?_) impl_mixFrames.z20 rfl rfl (any_of HT_.out (by kernel_rfl)) (fun _ _ _ h => h) (Or.inl ⟨by rfl, ?_⟩) ?_ ?_
           pv_
           exact norm_ (by first | (simp only [putAll, Act.put, List.setIfInBounds_toArray, List.set_cons_zero, List.set_cons_succ]; done) | (simp only [putAll, Act.put, List.setIfInBounds_toArray, List.set_cons_zero, List.set_cons_succ]; rfl)) (hJ3_9_15_21 (.slice Ao17 y312.length co17) _ ⟨hHeld, (by (with_reducible repeat (first | apply Kd.R_alloc | apply Kd.R_drewN | apply Kd.R_drew)); exact HO314.out), (by (with_reducible repeat (first | refine blk_drewN ?_ _ | refine blk_drew ?_ | refine blk_alloc ?_ _)); exact BK308.out), (by (with_reducible repeat (first | refine blk_drewN ?_ _ | refine blk_drew ?_ | refine blk_alloc ?_ _)); exact BK309.out), (by (with_reducible repeat (first | refine blk_drewN ?_ _ | refine blk_drew ?_ | refine blk_alloc ?_ _)); exact BK310.out), (by (with_reducible repeat (first | refine blk_drewN ?_ _ | refine blk_drew ?_ | refine blk_alloc ?_ _)); exact BK311.out), (by repeat (first | (with_reducible first | exact HB.out | apply below_alloc | apply pw_below_drewN | apply below_drew1 | refine below_set ?_ GE308.out | refine below_set ?_ GE309.out | refine below_set ?_ GE310.out | refine below_set ?_ GE311.out) | exact HB.out))⟩)
          ·skip
           refine box_step ?hg (N := 9) ?hd (cs := #[.slice none 0 0, .float .f32 0, .float .f32 0, .float .f32 0]) (t := 29) ?hr ?_; (case hd => rfl); (case hg => rfl); (case hr => first | (go_simp; done) | (go_simp; rfl) | (simp (disch := omega) only [w64_id]; go_simp; done) | (go_simp; simp (disch := omega) only [w64_id]; done))
           intro gb318 hg w15 hbox hb
           have n0_ := Aside0.mk (blk_below (g := gb308) (o := .cells #[.slice A0_0 l0_0.length c0_0, .float .f32 a0_1, .float .f32 a0_2, .float .f32 a0_3] 29 (0, 0)) (by (with_reducible repeat (first | refine blk_drewN ?_ _ | refine blk_drew ?_ | refine blk_alloc ?_ _)); exact BK308.out) hb)
           have n1_ := Aside0.mk (blk_below (g := gb309) (o := .cells #[.slice A1_0 l1_0.length c1_0, .float .f32 a1_1, .float .f32 a1_2, .float .f32 a1_3] 29 (0, 0)) (by (with_reducible repeat (first | refine blk_drewN ?_ _ | refine blk_drew ?_ | refine blk_alloc ?_ _)); exact BK309.out) hb)
           have n2_ := Aside0.mk (blk_below (g := gb310) (o := .cells #[.float .f32 a2] 25 (0, 0)) (by (with_reducible repeat (first | refine blk_drewN ?_ _ | refine blk_drew ?_ | refine blk_alloc ?_ _)); exact BK310.out) hb)
           have n3_ := Aside0.mk (blk_below (g := gb311) (o := .cells #[.slice none 0 0, .float .f32 0, .float .f32 0, .float .f32 0] 29 (0, 0)) (by (with_reducible repeat (first | refine blk_drewN ?_ _ | refine blk_drew ?_ | refine blk_alloc ?_ _)); exact BK311.out) hb)
           have n4_ := Aside0.mk (below_step (by repeat (first | (with_reducible first | exact HB.out | apply below_alloc | apply pw_below_drewN | apply below_drew1 | refine below_set ?_ GE308.out | refine below_set ?_ GE309.out | refine below_set ?_ GE310.out | refine below_set ?_ GE311.out) | exact HB.out)) hb)
           have n5_ := Aside0.mk (hbox)
           have n6_ := Aside0.mk ((by rw [hg]; exact (below_size (by repeat (first | (with_reducible first | exact HB.out | apply below_alloc | apply pw_below_drewN | apply below_drew1 | refine below_set ?_ GE308.out | refine below_set ?_ GE309.out | refine below_set ?_ GE310.out | refine below_set ?_ GE311.out) | exact HB.out))) : w.heap.size ≤ gb318))
           have n7_ := Aside0.mk ((by rw [hg]; exact (below_size (by repeat (first | (with_reducible first | exact HB.out | apply below_alloc | apply pw_below_drewN | apply below_drew1 | refine below_set ?_ GE308.out | refine below_set ?_ GE309.out | refine below_set ?_ GE310.out | refine below_set ?_ GE311.out) | exact HB.out))) : w.heap.size ≤ gb318))
           have n8_ := Aside0.mk ((by rw [hg]; exact Nat.ne_of_lt (blk_lt (g := gb308) (o := .cells #[.slice A0_0 l0_0.length c0_0, .float .f32 a0_1, .float .f32 a0_2, .float .f32 a0_3] 29 (0, 0)) (by (with_reducible repeat (first | refine blk_drewN ?_ _ | refine blk_drew ?_ | refine blk_alloc ?_ _)); exact BK308.out)) : gb308 ≠ gb318))
           have n9_ := Aside0.mk ((by rw [hg]; exact Nat.ne_of_gt (blk_lt (g := gb308) (o := .cells #[.slice A0_0 l0_0.length c0_0, .float .f32 a0_1, .float .f32 a0_2, .float .f32 a0_3] 29 (0, 0)) (by (with_reducible repeat (first | refine blk_drewN ?_ _ | refine blk_drew ?_ | refine blk_alloc ?_ _)); exact BK308.out)) : gb318 ≠ gb308))
           have n10_ := Aside0.mk ((by rw [hg]; exact Nat.ne_of_lt (blk_lt (g := gb309) (o := .cells #[.slice A1_0 l1_0.length c1_0, .float .f32 a1_1, .float .f32 a1_2, .float .f32 a1_3] 29 (0, 0)) (by (with_reducible repeat (first | refine blk_drewN ?_ _ | refine blk_drew ?_ | refine blk_alloc ?_ _)); exact BK309.out)) : gb309 ≠ gb318))
           have n11_ := Aside0.mk ((by rw [hg]; exact Nat.ne_of_gt (blk_lt (g := gb309) (o := .cells #[.slice A1_0 l1_0.length c1_0, .float .f32 a1_1, .float .f32 a1_2, .float .f32 a1_3] 29 (0, 0)) (by (with_reducible repeat (first | refine blk_drewN ?_ _ | refine blk_drew ?_ | refine blk_alloc ?_ _)); exact BK309.out)) : gb318 ≠ gb309))
           have n12_ := Aside0.mk ((by rw [hg]; exact Nat.ne_of_lt (blk_lt (g := gb310) (o := .cells #[.float .f32 a2] 25 (0, 0)) (by (with_reducible repeat (first | refine blk_drewN ?_ _ | refine blk_drew ?_ | refine blk_alloc ?_ _)); exact BK310.out)) : gb310 ≠ gb318))
           have n13_ := Aside0.mk ((by rw [hg]; exact Nat.ne_of_gt (blk_lt (g := gb310) (o := .cells #[.float .f32 a2] 25 (0, 0)) (by (with_reducible repeat (first | refine blk_drewN ?_ _ | refine blk_drew ?_ | refine blk_alloc ?_ _)); exact BK310.out)) : gb318 ≠ gb310))
           have n14_ := Aside0.mk ((by rw [hg]; exact Nat.ne_of_lt (blk_lt (g := gb311) (o := .cells #[.slice none 0 0, .float .f32 0, .float .f32 0, .float .f32 0] 29 (0, 0)) (by (with_reducible repeat (first | refine blk_drewN ?_ _ | refine blk_drew ?_ | refine blk_alloc ?_ _)); exact BK311.out)) : gb311 ≠ gb318))
           have n15_ := Aside0.mk ((by rw [hg]; exact Nat.ne_of_gt (blk_lt (g := gb311) (o := .cells #[.slice none 0 0, .float .f32 0, .float .f32 0, .float .f32 0] 29 (0, 0)) (by (with_reducible repeat (first | refine blk_drewN ?_ _ | refine blk_drew ?_ | refine blk_alloc ?_ _)); exact BK311.out)) : gb318 ≠ gb311))
           clear BK308
           clear BK309
           clear BK310
           clear BK311
           clear HB
           have BK308 := n0_
           have BK309 := n1_
           have BK310 := n2_
           have BK311 := n3_
           have HB := n4_
           have BK318 := n5_
           have GW318 := n6_
           have GE318 := n7_
           have NB308_318 := n8_
           have NB318_308 := n9_
           have NB309_318 := n10_
           have NB318_309 := n11_
           have NB310_318 := n12_
           have NB318_310 := n13_
           have NB311_318 := n14_
           have NB318_311 := n15_
           clear n0_ n1_ n2_ n3_ n4_ n5_ n6_ n7_ n8_ n9_ n10_ n11_ n12_ n13_ n14_ n15_
           clear hb hbox hg
           refine hK.out _ _ ⟨(blk_cell BK308.out 0).trans rfl, (blk_cell BK308.out 1).trans rfl, (blk_cell BK308.out 2).trans rfl, (blk_cell BK308.out 3).trans rfl, (blk_cell BK309.out 0).trans rfl, (blk_cell BK309.out 1).trans rfl, (blk_cell BK309.out 2).trans rfl, (blk_cell BK309.out 3).trans rfl⟩ (fun hHeld => ?_)
           clear hK K
           refine norm_ (a' := ?_) ?_ ?_
           rotate_left
           ·show Act.put _ (some 9) _ = _
            pw_
           exact norm_ (by first | (simp only [putAll, Act.put, List.setIfInBounds_toArray, List.set_cons_zero, List.set_cons_succ]; done) | (simp only [putAll, Act.put, List.setIfInBounds_toArray, List.set_cons_zero, List.set_cons_succ]; rfl)) (hJ9_15_21_23 (gb318) _ ⟨hHeld, (by (with_reducible repeat (first | refine blk_drewN ?_ _ | refine blk_drew ?_ | refine blk_alloc ?_ _)); exact BK308.out), (by (with_reducible repeat (first | refine blk_drewN ?_ _ | refine blk_drew ?_ | refine blk_alloc ?_ _)); exact BK309.out), (by (with_reducible repeat (first | refine blk_drewN ?_ _ | refine blk_drew ?_ | refine blk_alloc ?_ _)); exact BK310.out), (by (with_reducible repeat (first | refine blk_drewN ?_ _ | refine blk_drew ?_ | refine blk_alloc ?_ _)); exact BK311.out), (by (with_reducible repeat (first | refine blk_drewN ?_ _ | refine blk_drew ?_ | refine blk_alloc ?_ _)); exact BK318.out), GW318.out, GE318.out, NB308_318.out, NB318_308.out, NB309_318.out, NB318_309.out, NB310_318.out, NB318_310.out, NB311_318.out, NB318_311.out, (by repeat (first | (with_reducible first | exact HB.out | apply below_alloc | apply pw_below_drewN | apply below_drew1 | refine below_set ?_ GE308.out | refine below_set ?_ GE309.out | refine below_set ?_ GE310.out | refine below_set ?_ GE311.out | refine below_set ?_ GE318.out) | exact HB.out))⟩)
        ·skip
         rintro ⟨v313, gb318⟩ w17 ⟨hS_, h0_, h1_, h2_, h3_, h4_, h5_, h6_, h7_, h8_, h9_, h10_, h11_, h12_, h13_, h14_, h15_, h16_⟩
         have n0_ : Aside0 (Kd.R (Kd.float .f32) 25 w17 w.heap.size (fun k_ => k_ ≠ gb310) v313 y312) := ⟨h0_⟩
         have n1_ : Aside0 (w17.heap[gb308]? = some (.cells #[.slice A0_0 l0_0.length c0_0, .float .f32 a0_1, .float .f32 a0_2, .float .f32 a0_3] 29 (0, 0))) := ⟨h1_⟩
         have n2_ : Aside0 (w17.heap[gb309]? = some (.cells #[.slice A1_0 l1_0.length c1_0, .float .f32 a1_1, .float .f32 a1_2, .float .f32 a1_3] 29 (0, 0))) := ⟨h2_⟩
         have n3_ : Aside0 (w17.heap[gb310]? = some (.cells #[.float .f32 a2] 25 (0, 0))) := ⟨h3_⟩
         have n4_ : Aside0 (w17.heap[gb311]? = some (.cells #[.slice none 0 0, .float .f32 0, .float .f32 0, .float .f32 0] 29 (0, 0))) := ⟨h4_⟩
         have n5_ : Aside0 (w17.heap[gb318]? = some (.cells #[.slice none 0 0, .float .f32 0, .float .f32 0, .float .f32 0] 29 (0, 0))) := ⟨h5_⟩
         have n6_ : Aside0 (w.heap.size ≤ gb318) := ⟨h6_⟩
         have n7_ : Aside0 (w.heap.size ≤ gb318) := ⟨h7_⟩
         have n8_ : Aside0 (gb308 ≠ gb318) := ⟨h8_⟩
         have n9_ : Aside0 (gb318 ≠ gb308) := ⟨h9_⟩
         have n10_ : Aside0 (gb309 ≠ gb318) := ⟨h10_⟩
         have n11_ : Aside0 (gb318 ≠ gb309) := ⟨h11_⟩
         have n12_ : Aside0 (gb310 ≠ gb318) := ⟨h12_⟩
         have n13_ : Aside0 (gb318 ≠ gb310) := ⟨h13_⟩
         have n14_ : Aside0 (gb311 ≠ gb318) := ⟨h14_⟩
         have n15_ : Aside0 (gb318 ≠ gb311) := ⟨h15_⟩
         have n16_ : Aside0 (Below w.heap.size w w17) := ⟨h16_⟩
         clear BK308
         clear BK309
         clear BK310
         clear BK311
         clear HB
         clear h0_ h1_ h2_ h3_ h4_ h5_ h6_ h7_ h8_ h9_ h10_ h11_ h12_ h13_ h14_ h15_ h16_
         have HO314 := n0_
         have BK308 := n1_
         have BK309 := n2_
         have BK310 := n3_
         have BK311 := n4_
         have BK318 := n5_
         have GW318 := n6_
         have GE318 := n7_
         have NB308_318 := n8_
         have NB318_308 := n9_
         have NB309_318 := n10_
         have NB318_309 := n11_
         have NB310_318 := n12_
         have NB318_310 := n13_
         have NB311_318 := n14_
         have NB318_311 := n15_
         have HB := n16_
         clear n0_ n1_ n2_ n3_ n4_ n5_ n6_ n7_ n8_ n9_ n10_ n11_ n12_ n13_ n14_ n15_ n16_
         have hHeld : w17.cell? ⟨gb308, 0, none⟩ = some (.slice A0_0 l0_0.length c0_0) ∧ w17.cell? ⟨gb308, 1, none⟩ = some (.float .f32 a0_1) ∧ w17.cell? ⟨gb308, 2, none⟩ = some (.float .f32 a0_2) ∧ w17.cell? ⟨gb308, 3, none⟩ = some (.float .f32 a0_3) ∧ w17.cell? ⟨gb309, 0, none⟩ = some (.slice A1_0 l1_0.length c1_0) ∧ w17.cell? ⟨gb309, 1, none⟩ = some (.float .f32 a1_1) ∧ w17.cell? ⟨gb309, 2, none⟩ = some (.float .f32 a1_2) ∧ w17.cell? ⟨gb309, 3, none⟩ = some (.float .f32 a1_3) := hS_
         refine norm_ (a' := ?_) ?_ ?_
         rotate_left
         ·simp only [putAll, Act.put, List.setIfInBounds_toArray, List.set_cons_zero, List.set_cons_succ]
          rfl
         refine one_ (i := 15) (N := some 28) impl_mixFrames.z21 rfl rfl (one_of HT_.out (by kernel_rfl)) (by decide) (fun K hK => ?_)
         refine goesV_ #[.pointer (some ⟨gb310, 0, none⟩)] Try.func113 (by kernel_rfl) rfl #[.float .f32 a0_2, .float .f32 a1_2, .pointer (some ⟨gb310, 0, none⟩)] (by rfl) rfl rfl rfl (by (try simp only [List.map_toArray, List.map_cons, List.map_nil]); first | done | rfl | (simp only [List.length_drop, List.length_take]; rfl)) ?_
         with_reducible refine (impl_mixFrames_1.calls a0_2 a1_2 _ [(⟨a2⟩ : S25)] t316 _ ?side1 A7.out).mono ?_
         (case side1 => exact Kd.C_one (T := 25) (by (with_reducible repeat (first | refine blk_drewN ?_ _ | refine blk_drew ?_ | refine blk_alloc ?_ _)); exact BK310.out) (k25_mk _ (⟨a2⟩ : S25) ))
         rintro e w' ⟨rfl, ⟨nd, rfl⟩⟩
         refine ⟨_, rfl, ?_⟩
         refine hK.out _ _ ⟨(blk_cell BK308.out 0).trans rfl, (blk_cell BK308.out 1).trans rfl, (blk_cell BK308.out 2).trans rfl, (blk_cell BK308.out 3).trans rfl, (blk_cell BK309.out 0).trans rfl, (blk_cell BK309.out 1).trans rfl, (blk_cell BK309.out 2).trans rfl, (blk_cell BK309.out 3).trans rfl⟩ (fun hHeld => ?_)
         clear hK K
         refine norm_ (a' := ?_) ?_ ?_
         rotate_left
         ·show Act.put _ (some 28) _ = _
          pw_
         exact norm_ (by first | (simp only [putAll, Act.put, List.setIfInBounds_toArray, List.set_cons_zero, List.set_cons_succ]; done) | (simp only [putAll, Act.put, List.setIfInBounds_toArray, List.set_cons_zero, List.set_cons_succ]; rfl)) (hJ3_9_15_23 (v313, gb318) _ ⟨hHeld, (by (with_reducible repeat (first | apply Kd.R_alloc | apply Kd.R_drewN | apply Kd.R_drew)); exact HO314.out), (by (with_reducible repeat (first | refine blk_drewN ?_ _ | refine blk_drew ?_ | refine blk_alloc ?_ _)); exact BK308.out), (by (with_reducible repeat (first | refine blk_drewN ?_ _ | refine blk_drew ?_ | refine blk_alloc ?_ _)); exact BK309.out), (by (with_reducible repeat (first | refine blk_drewN ?_ _ | refine blk_drew ?_ | refine blk_alloc ?_ _)); exact BK310.out), (by (with_reducible repeat (first | refine blk_drewN ?_ _ | refine blk_drew ?_ | refine blk_alloc ?_ _)); exact BK311.out), (by (with_reducible repeat (first | refine blk_drewN ?_ _ | refine blk_drew ?_ | refine blk_alloc ?_ _)); exact BK318.out), GW318.out, GE318.out, NB308_318.out, NB318_308.out, NB309_318.out, NB318_309.out, NB310_318.out, NB318_310.out, NB311_318.out, NB318_311.out, (by repeat (first | (with_reducible first | exact HB.out | apply below_alloc | apply pw_below_drewN | apply below_drew1 | refine below_set ?_ GE308.out | refine below_set ?_ GE309.out | refine below_set ?_ GE310.out | refine below_set ?_ GE311.out | refine below_set ?_ GE318.out) | exact HB.out))⟩)
       ·skip
        rintro v313 w16 ⟨hS_, h0_, h1_, h2_, h3_, h4_, h5_⟩
        have n0_ : Aside0 (Kd.R (Kd.float .f32) 25 w16 w.heap.size (fun k_ => k_ ≠ gb310) v313 y312) := ⟨h0_⟩
        have n1_ : Aside0 (w16.heap[gb308]? = some (.cells #[.slice A0_0 l0_0.length c0_0, .float .f32 a0_1, .float .f32 a0_2, .float .f32 a0_3] 29 (0, 0))) := ⟨h1_⟩
        have n2_ : Aside0 (w16.heap[gb309]? = some (.cells #[.slice A1_0 l1_0.length c1_0, .float .f32 a1_1, .float .f32 a1_2, .float .f32 a1_3] 29 (0, 0))) := ⟨h2_⟩
        have n3_ : Aside0 (w16.heap[gb310]? = some (.cells #[.float .f32 a2] 25 (0, 0))) := ⟨h3_⟩
        have n4_ : Aside0 (w16.heap[gb311]? = some (.cells #[.slice none 0 0, .float .f32 0, .float .f32 0, .float .f32 0] 29 (0, 0))) := ⟨h4_⟩
        have n5_ : Aside0 (Below w.heap.size w w16) := ⟨h5_⟩
        clear BK308
        clear BK309
        clear BK310
        clear BK311
        clear HB
        clear h0_ h1_ h2_ h3_ h4_ h5_
        have HO314 := n0_
        have BK308 := n1_
        have BK309 := n2_
        have BK310 := n3_
        have BK311 := n4_
        have HB := n5_
        clear n0_ n1_ n2_ n3_ n4_ n5_
        have hHeld : w16.cell? ⟨gb308, 0, none⟩ = some (.slice A0_0 l0_0.length c0_0) ∧ w16.cell? ⟨gb308, 1, none⟩ = some (.float .f32 a0_1) ∧ w16.cell? ⟨gb308, 2, none⟩ = some (.float .f32 a0_2) ∧ w16.cell? ⟨gb308, 3, none⟩ = some (.float .f32 a0_3) ∧ w16.cell? ⟨gb309, 0, none⟩ = some (.slice A1_0 l1_0.length c1_0) ∧ w16.cell? ⟨gb309, 1, none⟩ = some (.float .f32 a1_1) ∧ w16.cell? ⟨gb309, 2, none⟩ = some (.float .f32 a1_2) ∧ w16.cell? ⟨gb309, 3, none⟩ = some (.float .f32 a1_3) := hS_
        refine norm_ (a' := ?_) ?_ ?_
        rotate_left
        ·simp only [putAll, Act.put, List.setIfInBounds_toArray, List.set_cons_zero, List.set_cons_succ]
         rfl
        refine two_ (i := 21) (j := 23) (Ni := some 34) (Nj := some 9) impl_mixFrames.z34 impl_mixFrames.z21 rfl rfl rfl rfl (two_of HT_.out (by kernel_rfl)) (by decide) (by decide) (fun K hK => ?_) (fun K hK => ?_)
        ·skip
         refine goesV_ #[.pointer (some ⟨gb310, 0, none⟩)] Try.func113 (by kernel_rfl) rfl #[.float .f32 a0_3, .float .f32 a1_3, .pointer (some ⟨gb310, 0, none⟩)] (by rfl) rfl rfl rfl (by (try simp only [List.map_toArray, List.map_cons, List.map_nil]); first | done | rfl | (simp only [List.length_drop, List.length_take]; rfl)) ?_
         with_reducible refine (impl_mixFrames_1.calls a0_3 a1_3 _ [(⟨a2⟩ : S25)] t317 _ ?side1 A8.out).mono ?_
         (case side1 => exact Kd.C_one (T := 25) (by (with_reducible repeat (first | refine blk_drewN ?_ _ | refine blk_drew ?_ | refine blk_alloc ?_ _)); exact BK310.out) (k25_mk _ (⟨a2⟩ : S25) ))
         rintro e w' ⟨rfl, ⟨nd, rfl⟩⟩
         refine ⟨_, rfl, ?_⟩
         obtain ⟨Ao17, co17, eo17⟩ := Kd.R_slice HO314.out
         (first | subst eo17 | (injection eo17 with f1_ f2_ f3_; have f4_ := f1_.symm; have f5_ := f3_.symm; clear f1_ f2_ f3_; subst f4_; subst f5_))
         refine hK.out _ _ ⟨(blk_cell BK308.out 0).trans rfl, (blk_cell BK308.out 1).trans rfl, (blk_cell BK308.out 2).trans rfl, (blk_cell BK308.out 3).trans rfl, (blk_cell BK309.out 0).trans rfl, (blk_cell BK309.out 1).trans rfl, (blk_cell BK309.out 2).trans rfl, (blk_cell BK309.out 3).trans rfl⟩ (fun hHeld => ?_)
         clear hK K
         refine norm_ (a' := ?_) ?_ ?_
         rotate_left
         ·show Act.put _ (some 34) _ = _
          pw_
         refine pure_ (i := 22) (N := some 35) (v := ?_) (a' := ?_) impl_mixFrames.z20 rfl rfl (any_of HT_.out (by kernel_rfl)) (fun _ _ _ h => h) (Or.inl ⟨by rfl, ?_⟩) ?_ ?_
         pv_
         exact norm_ (by first | (simp only [putAll, Act.put, List.setIfInBounds_toArray, List.set_cons_zero, List.set_cons_succ]; done) | (simp only [putAll, Act.put, List.setIfInBounds_toArray, List.set_cons_zero, List.set_cons_succ]; rfl)) (hJ3_9_15_21 (.slice Ao17 y312.length co17) _ ⟨hHeld, (by (with_reducible repeat (first | apply Kd.R_alloc | apply Kd.R_drewN | apply Kd.R_drew)); exact HO314.out), (by (with_reducible repeat (first | refine blk_drewN ?_ _ | refine blk_drew ?_ | refine blk_alloc ?_ _)); exact BK308.out), (by (with_reducible repeat (first | refine blk_drewN ?_ _ | refine blk_drew ?_ | refine blk_alloc ?_ _)); exact BK309.out), (by (with_reducible repeat (first | refine blk_drewN ?_ _ | refine blk_drew ?_ | refine blk_alloc ?_ _)); exact BK310.out), (by (with_reducible repeat (first | refine blk_drewN ?_ _ | refine blk_drew ?_ | refine blk_alloc ?_ _)); exact BK311.out), (by repeat (first | (with_reducible first | exact HB.out | apply below_alloc | apply pw_below_drewN | apply below_drew1 | refine below_set ?_ GE308.out | refine below_set ?_ GE309.out | refine below_set ?_ GE310.out | refine below_set ?_ GE311.out) | exact HB.out))⟩)
        ·skip
         refine box_step ?hg (N := 9) ?hd (cs := #[.slice none 0 0, .float .f32 0, .float .f32 0, .float .f32 0]) (t := 29) ?hr ?_; (case hd => rfl); (case hg => rfl); (case hr => first | (go_simp; done) | (go_simp; rfl) | (simp (disch := omega) only [w64_id]; go_simp; done) | (go_simp; simp (disch := omega) only [w64_id]; done))
         intro gb318 hg w17 hbox hb
         have n0_ := Aside0.mk (Kd.R_below (by (with_reducible repeat (first | apply Kd.R_alloc | apply Kd.R_drewN | apply Kd.R_drew)); exact HO314.out) hb)
         have n1_ := Aside0.mk (blk_below (g := gb308) (o := .cells #[.slice A0_0 l0_0.length c0_0, .float .f32 a0_1, .float .f32 a0_2, .float .f32 a0_3] 29 (0, 0)) (by (with_reducible repeat (first | refine blk_drewN ?_ _ | refine blk_drew ?_ | refine blk_alloc ?_ _)); exact BK308.out) hb)
         have n2_ := Aside0.mk (blk_below (g := gb309) (o := .cells #[.slice A1_0 l1_0.length c1_0, .float .f32 a1_1, .float .f32 a1_2, .float .f32 a1_3] 29 (0, 0)) (by (with_reducible repeat (first | refine blk_drewN ?_ _ | refine blk_drew ?_ | refine blk_alloc ?_ _)); exact BK309.out) hb)
         have n3_ := Aside0.mk (blk_below (g := gb310) (o := .cells #[.float .f32 a2] 25 (0, 0)) (by (with_reducible repeat (first | refine blk_drewN ?_ _ | refine blk_drew ?_ | refine blk_alloc ?_ _)); exact BK310.out) hb)
         have n4_ := Aside0.mk (blk_below (g := gb311) (o := .cells #[.slice none 0 0, .float .f32 0, .float .f32 0, .float .f32 0] 29 (0, 0)) (by (with_reducible repeat (first | refine blk_drewN ?_ _ | refine blk_drew ?_ | refine blk_alloc ?_ _)); exact BK311.out) hb)
         have n5_ := Aside0.mk (below_step (by repeat (first | (with_reducible first | exact HB.out | apply below_alloc | apply pw_below_drewN | apply below_drew1 | refine below_set ?_ GE308.out | refine below_set ?_ GE309.out | refine below_set ?_ GE310.out | refine below_set ?_ GE311.out) | exact HB.out)) hb)
         have n6_ := Aside0.mk (hbox)
         have n7_ := Aside0.mk ((by rw [hg]; exact (below_size (by repeat (first | (with_reducible first | exact HB.out | apply below_alloc | apply pw_below_drewN | apply below_drew1 | refine below_set ?_ GE308.out | refine below_set ?_ GE309.out | refine below_set ?_ GE310.out | refine below_set ?_ GE311.out) | exact HB.out))) : w.heap.size ≤ gb318))
         have n8_ := Aside0.mk ((by rw [hg]; exact (below_size (by repeat (first | (with_reducible first | exact HB.out | apply below_alloc | apply pw_below_drewN | apply below_drew1 | refine below_set ?_ GE308.out | refine below_set ?_ GE309.out | refine below_set ?_ GE310.out | refine below_set ?_ GE311.out) | exact HB.out))) : w.heap.size ≤ gb318))
         have n9_ := Aside0.mk ((by rw [hg]; exact Nat.ne_of_lt (blk_lt (g := gb308) (o := .cells #[.slice A0_0 l0_0.length c0_0, .float .f32 a0_1, .float .f32 a0_2, .float .f32 a0_3] 29 (0, 0)) (by (with_reducible repeat (first | refine blk_drewN ?_ _ | refine blk_drew ?_ | refine blk_alloc ?_ _)); exact BK308.out)) : gb308 ≠ gb318))
         have n10_ := Aside0.mk ((by rw [hg]; exact Nat.ne_of_gt (blk_lt (g := gb308) (o := .cells #[.slice A0_0 l0_0.length c0_0, .float .f32 a0_1, .float .f32 a0_2, .float .f32 a0_3] 29 (0, 0)) (by (with_reducible repeat (first | refine blk_drewN ?_ _ | refine blk_drew ?_ | refine blk_alloc ?_ _)); exact BK308.out)) : gb318 ≠ gb308))
         have n11_ := Aside0.mk ((by rw [hg]; exact Nat.ne_of_lt (blk_lt (g := gb309) (o := .cells #[.slice A1_0 l1_0.length c1_0, .float .f32 a1_1, .float .f32 a1_2, .float .f32 a1_3] 29 (0, 0)) (by (with_reducible repeat (first | refine blk_drewN ?_ _ | refine blk_drew ?_ | refine blk_alloc ?_ _)); exact BK309.out)) : gb309 ≠ gb318))
         have n12_ := Aside0.mk ((by rw [hg]; exact Nat.ne_of_gt (blk_lt (g := gb309) (o := .cells #[.slice A1_0 l1_0.length c1_0, .float .f32 a1_1, .float .f32 a1_2, .float .f32 a1_3] 29 (0, 0)) (by (with_reducible repeat (first | refine blk_drewN ?_ _ | refine blk_drew ?_ | refine blk_alloc ?_ _)); exact BK309.out)) : gb318 ≠ gb309))
         have n13_ := Aside0.mk ((by rw [hg]; exact Nat.ne_of_lt (blk_lt (g := gb310) (o := .cells #[.float .f32 a2] 25 (0, 0)) (by (with_reducible repeat (first | refine blk_drewN ?_ _ | refine blk_drew ?_ | refine blk_alloc ?_ _)); exact BK310.out)) : gb310 ≠ gb318))
         have n14_ := Aside0.mk ((by rw [hg]; exact Nat.ne_of_gt (blk_lt (g := gb310) (o := .cells #[.float .f32 a2] 25 (0, 0)) (by (with_reducible repeat (first | refine blk_drewN ?_ _ | refine blk_drew ?_ | refine blk_alloc ?_ _)); exact BK310.out)) : gb318 ≠ gb310))
         have n15_ := Aside0.mk ((by rw [hg]; exact Nat.ne_of_lt (blk_lt (g := gb311) (o := .cells #[.slice none 0 0, .float .f32 0, .float .f32 0, .float .f32 0] 29 (0, 0)) (by (with_reducible repeat (first | refine blk_drewN ?_ _ | refine blk_drew ?_ | refine blk_alloc ?_ _)); exact BK311.out)) : gb311 ≠ gb318))
         have n16_ := Aside0.mk ((by rw [hg]; exact Nat.ne_of_gt (blk_lt (g := gb311) (o := .cells #[.slice none 0 0, .float .f32 0, .float .f32 0, .float .f32 0] 29 (0, 0)) (by (with_reducible repeat (first | refine blk_drewN ?_ _ | refine blk_drew ?_ | refine blk_alloc ?_ _)); exact BK311.out)) : gb318 ≠ gb311))
         clear HO314
         clear BK308
         clear BK309
         clear BK310
         clear BK311
         clear HB
         have HO314 := n0_
         have BK308 := n1_
         have BK309 := n2_
         have BK310 := n3_
         have BK311 := n4_
         have HB := n5_
         have BK318 := n6_
         have GW318 := n7_
         have GE318 := n8_
         have NB308_318 := n9_
         have NB318_308 := n10_
         have NB309_318 := n11_
         have NB318_309 := n12_
         have NB310_318 := n13_
         have NB318_310 := n14_
         have NB311_318 := n15_
         have NB318_311 := n16_
         clear n0_ n1_ n2_ n3_ n4_ n5_ n6_ n7_ n8_ n9_ n10_ n11_ n12_ n13_ n14_ n15_ n16_
         clear hb hbox hg
         refine hK.out _ _ ⟨(blk_cell BK308.out 0).trans rfl, (blk_cell BK308.out 1).trans rfl, (blk_cell BK308.out 2).trans rfl, (blk_cell BK308.out 3).trans rfl, (blk_cell BK309.out 0).trans rfl, (blk_cell BK309.out 1).trans rfl, (blk_cell BK309.out 2).trans rfl, (blk_cell BK309.out 3).trans rfl⟩ (fun hHeld => ?_)
         clear hK K
         refine norm_ (a' := ?_) ?_ ?_
         rotate_left
         ·show Act.put _ (some 9) _ = _
          pw_
         exact norm_ (by first | (simp only [putAll, Act.put, List.setIfInBounds_toArray, List.set_cons_zero, List.set_cons_succ]; done) | (simp only [putAll, Act.put, List.setIfInBounds_toArray, List.set_cons_zero, List.set_cons_succ]; rfl)) (hJ3_9_15_23 (v313, gb318) _ ⟨hHeld, (by (with_reducible repeat (first | apply Kd.R_alloc | apply Kd.R_drewN | apply Kd.R_drew)); exact HO314.out), (by (with_reducible repeat (first | refine blk_drewN ?_ _ | refine blk_drew ?_ | refine blk_alloc ?_ _)); exact BK308.out), (by (with_reducible repeat (first | refine blk_drewN ?_ _ | refine blk_drew ?_ | refine blk_alloc ?_ _)); exact BK309.out), (by (with_reducible repeat (first | refine blk_drewN ?_ _ | refine blk_drew ?_ | refine blk_alloc ?_ _)); exact BK310.out), (by (with_reducible repeat (first | refine blk_drewN ?_ _ | refine blk_drew ?_ | refine blk_alloc ?_ _)); exact BK311.out), (by (with_reducible repeat (first | refine blk_drewN ?_ _ | refine blk_drew ?_ | refine blk_alloc ?_ _)); exact BK318.out), GW318.out, GE318.out, NB308_318.out, NB318_308.out, NB309_318.out, NB318_309.out, NB310_318.out, NB318_310.out, NB311_318.out, NB318_311.out, (by repeat (first | (with_reducible first | exact HB.out | apply below_alloc | apply pw_below_drewN | apply below_drew1 | refine below_set ?_ GE308.out | refine below_set ?_ GE309.out | refine below_set ?_ GE310.out | refine below_set ?_ GE311.out | refine below_set ?_ GE318.out) | exact HB.out))⟩)
      ·skip
       rintro gb318 w15 ⟨hS_, h0_, h1_, h2_, h3_, h4_, h5_, h6_, h7_, h8_, h9_, h10_, h11_, h12_, h13_, h14_, h15_⟩
       have n0_ : Aside0 (w15.heap[gb308]? = some (.cells #[.slice A0_0 l0_0.length c0_0, .float .f32 a0_1, .float .f32 a0_2, .float .f32 a0_3] 29 (0, 0))) := ⟨h0_⟩
       have n1_ : Aside0 (w15.heap[gb309]? = some (.cells #[.slice A1_0 l1_0.length c1_0, .float .f32 a1_1, .float .f32 a1_2, .float .f32 a1_3] 29 (0, 0))) := ⟨h1_⟩
       have n2_ : Aside0 (w15.heap[gb310]? = some (.cells #[.float .f32 a2] 25 (0, 0))) := ⟨h2_⟩
       have n3_ : Aside0 (w15.heap[gb311]? = some (.cells #[.slice none 0 0, .float .f32 0, .float .f32 0, .float .f32 0] 29 (0, 0))) := ⟨h3_⟩
       have n4_ : Aside0 (w15.heap[gb318]? = some (.cells #[.slice none 0 0, .float .f32 0, .float .f32 0, .float .f32 0] 29 (0, 0))) := ⟨h4_⟩
       have n5_ : Aside0 (w.heap.size ≤ gb318) := ⟨h5_⟩
       have n6_ : Aside0 (w.heap.size ≤ gb318) := ⟨h6_⟩
       have n7_ : Aside0 (gb308 ≠ gb318) := ⟨h7_⟩
       have n8_ : Aside0 (gb318 ≠ gb308) := ⟨h8_⟩
       have n9_ : Aside0 (gb309 ≠ gb318) := ⟨h9_⟩
       have n10_ : Aside0 (gb318 ≠ gb309) := ⟨h10_⟩
       have n11_ : Aside0 (gb310 ≠ gb318) := ⟨h11_⟩
       have n12_ : Aside0 (gb318 ≠ gb310) := ⟨h12_⟩
       have n13_ : Aside0 (gb311 ≠ gb318) := ⟨h13_⟩
       have n14_ : Aside0 (gb318 ≠ gb311) := ⟨h14_⟩
       have n15_ : Aside0 (Below w.heap.size w w15) := ⟨h15_⟩
       clear BK308
       clear BK309
       clear BK310
       clear BK311
       clear HB
       clear h0_ h1_ h2_ h3_ h4_ h5_ h6_ h7_ h8_ h9_ h10_ h11_ h12_ h13_ h14_ h15_
       have BK308 := n0_
       have BK309 := n1_
       have BK310 := n2_
       have BK311 := n3_
       have BK318 := n4_
       have GW318 := n5_
       have GE318 := n6_
       have NB308_318 := n7_
       have NB318_308 := n8_
       have NB309_318 := n9_
       have NB318_309 := n10_
       have NB310_318 := n11_
       have NB318_310 := n12_
       have NB311_318 := n13_
       have NB318_311 := n14_
       have HB := n15_
       clear n0_ n1_ n2_ n3_ n4_ n5_ n6_ n7_ n8_ n9_ n10_ n11_ n12_ n13_ n14_ n15_
       have hHeld : w15.cell? ⟨gb308, 0, none⟩ = some (.slice A0_0 l0_0.length c0_0) ∧ w15.cell? ⟨gb308, 1, none⟩ = some (.float .f32 a0_1) ∧ w15.cell? ⟨gb308, 2, none⟩ = some (.float .f32 a0_2) ∧ w15.cell? ⟨gb308, 3, none⟩ = some (.float .f32 a0_3) ∧ w15.cell? ⟨gb309, 0, none⟩ = some (.slice A1_0 l1_0.length c1_0) ∧ w15.cell? ⟨gb309, 1, none⟩ = some (.float .f32 a1_1) ∧ w15.cell? ⟨gb309, 2, none⟩ = some (.float .f32 a1_2) ∧ w15.cell? ⟨gb309, 3, none⟩ = some (.float .f32 a1_3) := hS_
       refine norm_ (a' := ?_) ?_ ?_
       rotate_left
       ·simp only [putAll, Act.put, List.setIfInBounds_toArray, List.set_cons_zero, List.set_cons_succ]
        rfl
       refine one_ (i := 3) (N := some 16) impl_mixFrames.z35 rfl rfl (one_of HT_.out (by kernel_rfl)) (by decide) (fun K hK => ?_)
       refine Kd.R_make_step (Kd.float .f32) _ 25 (by rfl) (N := 16) rfl 24 _ _ rfl (l0_0.length : Int) rfl rfl Try.underlying24 (.float .f32 0) 4 info25 rfl (by decide) (by omega) 0 (ok := fun k_ => k_ ≠ gb310) (okp := fun _ => False) rfl (fun _ hk => hk.elim) (Nat.ne_of_gt (blk_lt (by (with_reducible repeat (first | refine blk_drewN ?_ _ | refine blk_drew ?_ | refine blk_alloc ?_ _)); exact BK310.out))) (of_decide_eq_true (by first | (with_reducible assumption) | assumption)) (Nat.le_trans (Nat.mul_le_mul_right _ (of_decide_eq_true (by first | (with_reducible assumption) | assumption) : (l0_0.length : Int).toNat ≤ 70368744177664)) (by omega)) (Below.refl _ _) (Nat.le_refl _) ?_
       intro v313 w16 ho17 hb hg_ hnew_
       clear hg_ hnew_
       (first | rw [← Ny312.out] at ho17 | (simp only [Int.reduceToNat] at ho17; rw [← Ny312.out] at ho17))
       have n0_ := Aside0.mk (Kd.R_lower ho17 (below_size (by repeat (first | (with_reducible first | exact HB.out | apply below_alloc | apply pw_below_drewN | apply below_drew1 | refine below_set ?_ GE308.out | refine below_set ?_ GE309.out | refine below_set ?_ GE310.out | refine below_set ?_ GE311.out | refine below_set ?_ GE318.out) | exact HB.out))))
       have n1_ := Aside0.mk (blk_below (g := gb308) (o := .cells #[.slice A0_0 l0_0.length c0_0, .float .f32 a0_1, .float .f32 a0_2, .float .f32 a0_3] 29 (0, 0)) (by (with_reducible repeat (first | refine blk_drewN ?_ _ | refine blk_drew ?_ | refine blk_alloc ?_ _)); exact BK308.out) hb)
       have n2_ := Aside0.mk (blk_below (g := gb309) (o := .cells #[.slice A1_0 l1_0.length c1_0, .float .f32 a1_1, .float .f32 a1_2, .float .f32 a1_3] 29 (0, 0)) (by (with_reducible repeat (first | refine blk_drewN ?_ _ | refine blk_drew ?_ | refine blk_alloc ?_ _)); exact BK309.out) hb)
       have n3_ := Aside0.mk (blk_below (g := gb310) (o := .cells #[.float .f32 a2] 25 (0, 0)) (by (with_reducible repeat (first | refine blk_drewN ?_ _ | refine blk_drew ?_ | refine blk_alloc ?_ _)); exact BK310.out) hb)
       have n4_ := Aside0.mk (blk_below (g := gb311) (o := .cells #[.slice none 0 0, .float .f32 0, .float .f32 0, .float .f32 0] 29 (0, 0)) (by (with_reducible repeat (first | refine blk_drewN ?_ _ | refine blk_drew ?_ | refine blk_alloc ?_ _)); exact BK311.out) hb)
       have n5_ := Aside0.mk (blk_below (g := gb318) (o := .cells #[.slice none 0 0, .float .f32 0, .float .f32 0, .float .f32 0] 29 (0, 0)) (by (with_reducible repeat (first | refine blk_drewN ?_ _ | refine blk_drew ?_ | refine blk_alloc ?_ _)); exact BK318.out) hb)
       have n6_ := Aside0.mk (below_step (by repeat (first | (with_reducible first | exact HB.out | apply below_alloc | apply pw_below_drewN | apply below_drew1 | refine below_set ?_ GE308.out | refine below_set ?_ GE309.out | refine below_set ?_ GE310.out | refine below_set ?_ GE311.out | refine below_set ?_ GE318.out) | exact HB.out)) hb)
       clear BK308
       clear BK309
       clear BK310
       clear BK311
       clear BK318
       clear HB
       have HO314 := n0_
       have BK308 := n1_
       have BK309 := n2_
       have BK310 := n3_
       have BK311 := n4_
       have BK318 := n5_
       have HB := n6_
       clear n0_ n1_ n2_ n3_ n4_ n5_ n6_
       clear hb ho17
       obtain ⟨Ao18, co18, eo18⟩ := Kd.R_slice HO314.out
       (first | subst eo18 | (injection eo18 with f1_ f2_ f3_; have f4_ := f1_.symm; have f5_ := f3_.symm; clear f1_ f2_ f3_; subst f4_; subst f5_))
       refine hK.out _ _ ⟨(blk_cell BK308.out 0).trans rfl, (blk_cell BK308.out 1).trans rfl, (blk_cell BK308.out 2).trans rfl, (blk_cell BK308.out 3).trans rfl, (blk_cell BK309.out 0).trans rfl, (blk_cell BK309.out 1).trans rfl, (blk_cell BK309.out 2).trans rfl, (blk_cell BK309.out 3).trans rfl⟩ (fun hHeld => ?_)
       clear hK K
       refine norm_ (a' := ?_) ?_ ?_
       rotate_left
       ·show Act.put _ (some 16) _ = _
        pw_
       refine pure_ (i := 22) (N := some 35) (v := ?_) (a' := ?_) impl_mixFrames.z19 rfl rfl (any_of HT_.out (by kernel_rfl)) (fun _ _ _ h => h) (Or.inl ⟨by rfl, ?_⟩) ?_ ?_
       pv_
       exact norm_ (by first | (simp only [putAll, Act.put, List.setIfInBounds_toArray, List.set_cons_zero, List.set_cons_succ]; done) | (simp only [putAll, Act.put, List.setIfInBounds_toArray, List.set_cons_zero, List.set_cons_succ]; rfl)) (hJ3_9_15_21_23 (.slice Ao18 y312.length co18, gb318) _ ⟨hHeld, (by (with_reducible repeat (first | apply Kd.R_alloc | apply Kd.R_drewN | apply Kd.R_drew)); exact HO314.out), (by (with_reducible repeat (first | refine blk_drewN ?_ _ | refine blk_drew ?_ | refine blk_alloc ?_ _)); exact BK308.out), (by (with_reducible repeat (first | refine blk_drewN ?_ _ | refine blk_drew ?_ | refine blk_alloc ?_ _)); exact BK309.out), (by (with_reducible repeat (first | refine blk_drewN ?_ _ | refine blk_drew ?_ | refine blk_alloc ?_ _)); exact BK310.out), (by (with_reducible repeat (first | refine blk_drewN ?_ _ | refine blk_drew ?_ | refine blk_alloc ?_ _)); exact BK311.out), (by (with_reducible repeat (first | refine blk_drewN ?_ _ | refine blk_drew ?_ | refine blk_alloc ?_ _)); exact BK318.out), GW318.out, GE318.out, NB308_318.out, NB318_308.out, NB309_318.out, NB318_309.out, NB310_318.out, NB318_310.out, NB311_318.out, NB318_311.out, (by repeat (first | (with_reducible first | exact HB.out | apply below_alloc | apply pw_below_drewN | apply below_drew1 | refine below_set ?_ GE308.out | refine below_set ?_ GE309.out | refine below_set ?_ GE310.out | refine below_set ?_ GE311.out | refine below_set ?_ GE318.out) | exact HB.out))⟩)
     ·skip
      rintro ⟨v313, gb318⟩ w17 ⟨hS_, h0_, h1_, h2_, h3_, h4_, h5_, h6_, h7_, h8_, h9_, h10_, h11_, h12_, h13_, h14_, h15_, h16_⟩
      have n0_ : Aside0 (Kd.R (Kd.float .f32) 25 w17 w.heap.size (fun k_ => k_ ≠ gb310) v313 y312) := ⟨h0_⟩
      have n1_ : Aside0 (w17.heap[gb308]? = some (.cells #[.slice A0_0 l0_0.length c0_0, .float .f32 a0_1, .float .f32 a0_2, .float .f32 a0_3] 29 (0, 0))) := ⟨h1_⟩
      have n2_ : Aside0 (w17.heap[gb309]? = some (.cells #[.slice A1_0 l1_0.length c1_0, .float .f32 a1_1, .float .f32 a1_2, .float .f32 a1_3] 29 (0, 0))) := ⟨h2_⟩
      have n3_ : Aside0 (w17.heap[gb310]? = some (.cells #[.float .f32 a2] 25 (0, 0))) := ⟨h3_⟩
      have n4_ : Aside0 (w17.heap[gb311]? = some (.cells #[.slice none 0 0, .float .f32 0, .float .f32 0, .float .f32 0] 29 (0, 0))) := ⟨h4_⟩
      have n5_ : Aside0 (w17.heap[gb318]? = some (.cells #[.slice none 0 0, .float .f32 0, .float .f32 0, .float .f32 0] 29 (0, 0))) := ⟨h5_⟩
      have n6_ : Aside0 (w.heap.size ≤ gb318) := ⟨h6_⟩
      have n7_ : Aside0 (w.heap.size ≤ gb318) := ⟨h7_⟩
      have n8_ : Aside0 (gb308 ≠ gb318) := ⟨h8_⟩
      have n9_ : Aside0 (gb318 ≠ gb308) := ⟨h9_⟩
      have n10_ : Aside0 (gb309 ≠ gb318) := ⟨h10_⟩
      have n11_ : Aside0 (gb318 ≠ gb309) := ⟨h11_⟩
      have n12_ : Aside0 (gb310 ≠ gb318) := ⟨h12_⟩
      have n13_ : Aside0 (gb318 ≠ gb310) := ⟨h13_⟩
      have n14_ : Aside0 (gb311 ≠ gb318) := ⟨h14_⟩
      have n15_ : Aside0 (gb318 ≠ gb311) := ⟨h15_⟩
      have n16_ : Aside0 (Below w.heap.size w w17) := ⟨h16_⟩
      clear BK308
      clear BK309
      clear BK310
      clear BK311
      clear HB
      clear h0_ h1_ h2_ h3_ h4_ h5_ h6_ h7_ h8_ h9_ h10_ h11_ h12_ h13_ h14_ h15_ h16_
      have HO314 := n0_
      have BK308 := n1_
      have BK309 := n2_
      have BK310 := n3_
      have BK311 := n4_
      have BK318 := n5_
      have GW318 := n6_
      have GE318 := n7_
      have NB308_318 := n8_
      have NB318_308 := n9_
      have NB309_318 := n10_
      have NB318_309 := n11_
      have NB310_318 := n12_
      have NB318_310 := n13_
      have NB311_318 := n14_
      have NB318_311 := n15_
      have HB := n16_
      clear n0_ n1_ n2_ n3_ n4_ n5_ n6_ n7_ n8_ n9_ n10_ n11_ n12_ n13_ n14_ n15_ n16_
      have hHeld : w17.cell? ⟨gb308, 0, none⟩ = some (.slice A0_0 l0_0.length c0_0) ∧ w17.cell? ⟨gb308, 1, none⟩ = some (.float .f32 a0_1) ∧ w17.cell? ⟨gb308, 2, none⟩ = some (.float .f32 a0_2) ∧ w17.cell? ⟨gb308, 3, none⟩ = some (.float .f32 a0_3) ∧ w17.cell? ⟨gb309, 0, none⟩ = some (.slice A1_0 l1_0.length c1_0) ∧ w17.cell? ⟨gb309, 1, none⟩ = some (.float .f32 a1_1) ∧ w17.cell? ⟨gb309, 2, none⟩ = some (.float .f32 a1_2) ∧ w17.cell? ⟨gb309, 3, none⟩ = some (.float .f32 a1_3) := hS_
      refine norm_ (a' := ?_) ?_ ?_
      rotate_left
      ·simp only [putAll, Act.put, List.setIfInBounds_toArray, List.set_cons_zero, List.set_cons_succ]
       rfl
      refine one_ (i := 21) (N := some 34) impl_mixFrames.z35 rfl rfl (one_of HT_.out (by kernel_rfl)) (by decide) (fun K hK => ?_)
      refine goesV_ #[.pointer (some ⟨gb310, 0, none⟩)] Try.func113 (by kernel_rfl) rfl #[.float .f32 a0_3, .float .f32 a1_3, .pointer (some ⟨gb310, 0, none⟩)] (by rfl) rfl rfl rfl (by (try simp only [List.map_toArray, List.map_cons, List.map_nil]); first | done | rfl | (simp only [List.length_drop, List.length_take]; rfl)) ?_
      with_reducible refine (impl_mixFrames_1.calls a0_3 a1_3 _ [(⟨a2⟩ : S25)] t317 _ ?side1 A8.out).mono ?_
      (case side1 => exact Kd.C_one (T := 25) (by (with_reducible repeat (first | refine blk_drewN ?_ _ | refine blk_drew ?_ | refine blk_alloc ?_ _)); exact BK310.out) (k25_mk _ (⟨a2⟩ : S25) ))
      rintro e w' ⟨rfl, ⟨nd, rfl⟩⟩
      refine ⟨_, rfl, ?_⟩
      obtain ⟨Ao18, co18, eo18⟩ := Kd.R_slice HO314.out
      (first | subst eo18 | (injection eo18 with f1_ f2_ f3_; have f4_ := f1_.symm; have f5_ := f3_.symm; clear f1_ f2_ f3_; subst f4_; subst f5_))
      refine hK.out _ _ ⟨(blk_cell BK308.out 0).trans rfl, (blk_cell BK308.out 1).trans rfl, (blk_cell BK308.out 2).trans rfl, (blk_cell BK308.out 3).trans rfl, (blk_cell BK309.out 0).trans rfl, (blk_cell BK309.out 1).trans rfl, (blk_cell BK309.out 2).trans rfl, (blk_cell BK309.out 3).trans rfl⟩ (fun hHeld => ?_)
      clear hK K
      refine norm_ (a' := ?_) ?_ ?_
      rotate_left
      ·show Act.put _ (some 34) _ = _
       pw_
      refine pure_ (i := 22) (N := some 35) (v := ?_) (a' := ?_) impl_mixFrames.z19 rfl rfl (any_of HT_.out (by kernel_rfl)) (fun _ _ _ h => h) (Or.inl ⟨by rfl, ?_⟩) ?_ ?_
      pv_
      exact norm_ (by first | (simp only [putAll, Act.put, List.setIfInBounds_toArray, List.set_cons_zero, List.set_cons_succ]; done) | (simp only [putAll, Act.put, List.setIfInBounds_toArray, List.set_cons_zero, List.set_cons_succ]; rfl)) (hJ3_9_15_21_23 (.slice Ao18 y312.length co18, gb318) _ ⟨hHeld, (by (with_reducible repeat (first | apply Kd.R_alloc | apply Kd.R_drewN | apply Kd.R_drew)); exact HO314.out), (by (with_reducible repeat (first | refine blk_drewN ?_ _ | refine blk_drew ?_ | refine blk_alloc ?_ _)); exact BK308.out), (by (with_reducible repeat (first | refine blk_drewN ?_ _ | refine blk_drew ?_ | refine blk_alloc ?_ _)); exact BK309.out), (by (with_reducible repeat (first | refine blk_drewN ?_ _ | refine blk_drew ?_ | refine blk_alloc ?_ _)); exact BK310.out), (by (with_reducible repeat (first | refine blk_drewN ?_ _ | refine blk_drew ?_ | refine blk_alloc ?_ _)); exact BK311.out), (by (with_reducible repeat (first | refine blk_drewN ?_ _ | refine blk_drew ?_ | refine blk_alloc ?_ _)); exact BK318.out), GW318.out, GE318.out, NB308_318.out, NB318_308.out, NB309_318.out, NB318_309.out, NB310_318.out, NB318_310.out, NB311_318.out, NB318_311.out, (by repeat (first | (with_reducible first | exact HB.out | apply below_alloc | apply pw_below_drewN | apply below_drew1 | refine below_set ?_ GE308.out | refine below_set ?_ GE309.out | refine below_set ?_ GE310.out | refine below_set ?_ GE311.out | refine below_set ?_ GE318.out) | exact HB.out))⟩)
    ·skip
     rintro v313 w17 ⟨hS_, h0_, h1_, h2_, h3_, h4_, h5_⟩
     have n0_ : Aside0 (Kd.R (Kd.float .f32) 25 w17 w.heap.size (fun k_ => k_ ≠ gb310) v313 y312) := ⟨h0_⟩
     have n1_ : Aside0 (w17.heap[gb308]? = some (.cells #[.slice A0_0 l0_0.length c0_0, .float .f32 a0_1, .float .f32 a0_2, .float .f32 a0_3] 29 (0, 0))) := ⟨h1_⟩
     have n2_ : Aside0 (w17.heap[gb309]? = some (.cells #[.slice A1_0 l1_0.length c1_0, .float .f32 a1_1, .float .f32 a1_2, .float .f32 a1_3] 29 (0, 0))) := ⟨h2_⟩
     have n3_ : Aside0 (w17.heap[gb310]? = some (.cells #[.float .f32 a2] 25 (0, 0))) := ⟨h3_⟩
     have n4_ : Aside0 (w17.heap[gb311]? = some (.cells #[.slice none 0 0, .float .f32 0, .float .f32 0, .float .f32 0] 29 (0, 0))) := ⟨h4_⟩
     have n5_ : Aside0 (Below w.heap.size w w17) := ⟨h5_⟩
     clear BK308
     clear BK309
     clear BK310
     clear BK311
     clear HB
     clear h0_ h1_ h2_ h3_ h4_ h5_
     have HO314 := n0_
     have BK308 := n1_
     have BK309 := n2_
     have BK310 := n3_
     have BK311 := n4_
     have HB := n5_
     clear n0_ n1_ n2_ n3_ n4_ n5_
     have hHeld : w17.cell? ⟨gb308, 0, none⟩ = some (.slice A0_0 l0_0.length c0_0) ∧ w17.cell? ⟨gb308, 1, none⟩ = some (.float .f32 a0_1) ∧ w17.cell? ⟨gb308, 2, none⟩ = some (.float .f32 a0_2) ∧ w17.cell? ⟨gb308, 3, none⟩ = some (.float .f32 a0_3) ∧ w17.cell? ⟨gb309, 0, none⟩ = some (.slice A1_0 l1_0.length c1_0) ∧ w17.cell? ⟨gb309, 1, none⟩ = some (.float .f32 a1_1) ∧ w17.cell? ⟨gb309, 2, none⟩ = some (.float .f32 a1_2) ∧ w17.cell? ⟨gb309, 3, none⟩ = some (.float .f32 a1_3) := hS_
     obtain ⟨Ao18, co18, eo18⟩ := Kd.R_slice HO314.out
     (first | subst eo18 | (injection eo18 with f1_ f2_ f3_; have f4_ := f1_.symm; have f5_ := f3_.symm; clear f1_ f2_ f3_; subst f4_; subst f5_))
     refine norm_ (a' := ?_) ?_ ?_
     rotate_left
     ·simp only [putAll, Act.put, List.setIfInBounds_toArray, List.set_cons_zero, List.set_cons_succ]
      rfl
     refine one_ (i := 23) (N := some 9) impl_mixFrames.z19 rfl rfl (one_of HT_.out (by kernel_rfl)) (by decide) (fun K hK => ?_)
     refine box_step ?hg (N := 9) ?hd (cs := #[.slice none 0 0, .float .f32 0, .float .f32 0, .float .f32 0]) (t := 29) ?hr ?_; (case hd => rfl); (case hg => rfl); (case hr => first | (go_simp; done) | (go_simp; rfl) | (simp (disch := omega) only [w64_id]; go_simp; done) | (go_simp; simp (disch := omega) only [w64_id]; done))
     intro gb318 hg w19 hbox hb
     have n0_ := Aside0.mk (Kd.R_below (by (with_reducible repeat (first | apply Kd.R_alloc | apply Kd.R_drewN | apply Kd.R_drew)); exact HO314.out) hb)
     have n1_ := Aside0.mk (blk_below (g := gb308) (o := .cells #[.slice A0_0 l0_0.length c0_0, .float .f32 a0_1, .float .f32 a0_2, .float .f32 a0_3] 29 (0, 0)) (by (with_reducible repeat (first | refine blk_drewN ?_ _ | refine blk_drew ?_ | refine blk_alloc ?_ _)); exact BK308.out) hb)
     have n2_ := Aside0.mk (blk_below (g := gb309) (o := .cells #[.slice A1_0 l1_0.length c1_0, .float .f32 a1_1, .float .f32 a1_2, .float .f32 a1_3] 29 (0, 0)) (by (with_reducible repeat (first | refine blk_drewN ?_ _ | refine blk_drew ?_ | refine blk_alloc ?_ _)); exact BK309.out) hb)
     have n3_ := Aside0.mk (blk_below (g := gb310) (o := .cells #[.float .f32 a2] 25 (0, 0)) (by (with_reducible repeat (first | refine blk_drewN ?_ _ | refine blk_drew ?_ | refine blk_alloc ?_ _)); exact BK310.out) hb)
     have n4_ := Aside0.mk (blk_below (g := gb311) (o := .cells #[.slice none 0 0, .float .f32 0, .float .f32 0, .float .f32 0] 29 (0, 0)) (by (with_reducible repeat (first | refine blk_drewN ?_ _ | refine blk_drew ?_ | refine blk_alloc ?_ _)); exact BK311.out) hb)
     have n5_ := Aside0.mk (below_step (by repeat (first | (with_reducible first | exact HB.out | apply below_alloc | apply pw_below_drewN | apply below_drew1 | refine below_set ?_ GE308.out | refine below_set ?_ GE309.out | refine below_set ?_ GE310.out | refine below_set ?_ GE311.out) | exact HB.out)) hb)
     have n6_ := Aside0.mk (hbox)
     have n7_ := Aside0.mk ((by rw [hg]; exact (below_size (by repeat (first | (with_reducible first | exact HB.out | apply below_alloc | apply pw_below_drewN | apply below_drew1 | refine below_set ?_ GE308.out | refine below_set ?_ GE309.out | refine below_set ?_ GE310.out | refine below_set ?_ GE311.out) | exact HB.out))) : w.heap.size ≤ gb318))
     have n8_ := Aside0.mk ((by rw [hg]; exact (below_size (by repeat (first | (with_reducible first | exact HB.out | apply below_alloc | apply pw_below_drewN | apply below_drew1 | refine below_set ?_ GE308.out | refine below_set ?_ GE309.out | refine below_set ?_ GE310.out | refine below_set ?_ GE311.out) | exact HB.out))) : w.heap.size ≤ gb318))
     have n9_ := Aside0.mk ((by rw [hg]; exact Nat.ne_of_lt (blk_lt (g := gb308) (o := .cells #[.slice A0_0 l0_0.length c0_0, .float .f32 a0_1, .float .f32 a0_2, .float .f32 a0_3] 29 (0, 0)) (by (with_reducible repeat (first | refine blk_drewN ?_ _ | refine blk_drew ?_ | refine blk_alloc ?_ _)); exact BK308.out)) : gb308 ≠ gb318))
     have n10_ := Aside0.mk ((by rw [hg]; exact Nat.ne_of_gt (blk_lt (g := gb308) (o := .cells #[.slice A0_0 l0_0.length c0_0, .float .f32 a0_1, .float .f32 a0_2, .float .f32 a0_3] 29 (0, 0)) (by (with_reducible repeat (first | refine blk_drewN ?_ _ | refine blk_drew ?_ | refine blk_alloc ?_ _)); exact BK308.out)) : gb318 ≠ gb308))
     have n11_ := Aside0.mk ((by rw [hg]; exact Nat.ne_of_lt (blk_lt (g := gb309) (o := .cells #[.slice A1_0 l1_0.length c1_0, .float .f32 a1_1, .float .f32 a1_2, .float .f32 a1_3] 29 (0, 0)) (by (with_reducible repeat (first | refine blk_drewN ?_ _ | refine blk_drew ?_ | refine blk_alloc ?_ _)); exact BK309.out)) : gb309 ≠ gb318))
     have n12_ := Aside0.mk ((by rw [hg]; exact Nat.ne_of_gt (blk_lt (g := gb309) (o := .cells #[.slice A1_0 l1_0.length c1_0, .float .f32 a1_1, .float .f32 a1_2, .float .f32 a1_3] 29 (0, 0)) (by (with_reducible repeat (first | refine blk_drewN ?_ _ | refine blk_drew ?_ | refine blk_alloc ?_ _)); exact BK309.out)) : gb318 ≠ gb309))
     have n13_ := Aside0.mk ((by rw [hg]; exact Nat.ne_of_lt (blk_lt (g := gb310) (o := .cells #[.float .f32 a2] 25 (0, 0)) (by (with_reducible repeat (first | refine blk_drewN ?_ _ | refine blk_drew ?_ | refine blk_alloc ?_ _)); exact BK310.out)) : gb310 ≠ gb318))
     have n14_ := Aside0.mk ((by rw [hg]; exact Nat.ne_of_gt (blk_lt (g := gb310) (o := .cells #[.float .f32 a2] 25 (0, 0)) (by (with_reducible repeat (first | refine blk_drewN ?_ _ | refine blk_drew ?_ | refine blk_alloc ?_ _)); exact BK310.out)) : gb318 ≠ gb310))
     have n15_ := Aside0.mk ((by rw [hg]; exact Nat.ne_of_lt (blk_lt (g := gb311) (o := .cells #[.slice none 0 0, .float .f32 0, .float .f32 0, .float .f32 0] 29 (0, 0)) (by (with_reducible repeat (first | refine blk_drewN ?_ _ | refine blk_drew ?_ | refine blk_alloc ?_ _)); exact BK311.out)) : gb311 ≠ gb318))
     have n16_ := Aside0.mk ((by rw [hg]; exact Nat.ne_of_gt (blk_lt (g := gb311) (o := .cells #[.slice none 0 0, .float .f32 0, .float .f32 0, .float .f32 0] 29 (0, 0)) (by (with_reducible repeat (first | refine blk_drewN ?_ _ | refine blk_drew ?_ | refine blk_alloc ?_ _)); exact BK311.out)) : gb318 ≠ gb311))
     clear HO314
     clear BK308
     clear BK309
     clear BK310
     clear BK311
     clear HB
     have HO314 := n0_
     have BK308 := n1_
     have BK309 := n2_
     have BK310 := n3_
     have BK311 := n4_
     have HB := n5_
     have BK318 := n6_
     have GW318 := n7_
     have GE318 := n8_
     have NB308_318 := n9_
     have NB318_308 := n10_
     have NB309_318 := n11_
     have NB318_309 := n12_
     have NB310_318 := n13_
     have NB318_310 := n14_
     have NB311_318 := n15_
     have NB318_311 := n16_
     clear n0_ n1_ n2_ n3_ n4_ n5_ n6_ n7_ n8_ n9_ n10_ n11_ n12_ n13_ n14_ n15_ n16_
     clear hb hbox hg
     refine hK.out _ _ ⟨(blk_cell BK308.out 0).trans rfl, (blk_cell BK308.out 1).trans rfl, (blk_cell BK308.out 2).trans rfl, (blk_cell BK308.out 3).trans rfl, (blk_cell BK309.out 0).trans rfl, (blk_cell BK309.out 1).trans rfl, (blk_cell BK309.out 2).trans rfl, (blk_cell BK309.out 3).trans rfl⟩ (fun hHeld => ?_)
     clear hK K
     refine norm_ (a' := ?_) ?_ ?_
     rotate_left
     ·show Act.put _ (some 9) _ = _
      pw_
     exact norm_ (by first | (simp only [putAll, Act.put, List.setIfInBounds_toArray, List.set_cons_zero, List.set_cons_succ]; done) | (simp only [putAll, Act.put, List.setIfInBounds_toArray, List.set_cons_zero, List.set_cons_succ]; rfl)) (hJ3_9_15_21_23 (.slice Ao18 y312.length co18, gb318) _ ⟨hHeld, (by (with_reducible repeat (first | apply Kd.R_alloc | apply Kd.R_drewN | apply Kd.R_drew)); exact HO314.out), (by (with_reducible repeat (first | refine blk_drewN ?_ _ | refine blk_drew ?_ | refine blk_alloc ?_ _)); exact BK308.out), (by (with_reducible repeat (first | refine blk_drewN ?_ _ | refine blk_drew ?_ | refine blk_alloc ?_ _)); exact BK309.out), (by (with_reducible repeat (first | refine blk_drewN ?_ _ | refine blk_drew ?_ | refine blk_alloc ?_ _)); exact BK310.out), (by (with_reducible repeat (first | refine blk_drewN ?_ _ | refine blk_drew ?_ | refine blk_alloc ?_ _)); exact BK311.out), (by (with_reducible repeat (first | refine blk_drewN ?_ _ | refine blk_drew ?_ | refine blk_alloc ?_ _)); exact BK318.out), GW318.out, GE318.out, NB308_318.out, NB318_308.out, NB309_318.out, NB318_309.out, NB310_318.out, NB318_310.out, NB311_318.out, NB318_311.out, (by repeat (first | (with_reducible first | exact HB.out | apply below_alloc | apply pw_below_drewN | apply below_drew1 | refine below_set ?_ GE308.out | refine below_set ?_ GE309.out | refine below_set ?_ GE310.out | refine below_set ?_ GE311.out | refine below_set ?_ GE318.out) | exact HB.out))⟩)
   rintro ⟨v313, gb318⟩ w18 ⟨hS_, h0_, h1_, h2_, h3_, h4_, h5_, h6_, h7_, h8_, h9_, h10_, h11_, h12_, h13_, h14_, h15_, h16_⟩
   have n0_ : Aside0 (Kd.R (Kd.float .f32) 25 w18 w.heap.size (fun k_ => k_ ≠ gb310) v313 y312) := ⟨h0_⟩
   have n1_ : Aside0 (w18.heap[gb308]? = some (.cells #[.slice A0_0 l0_0.length c0_0, .float .f32 a0_1, .float .f32 a0_2, .float .f32 a0_3] 29 (0, 0))) := ⟨h1_⟩
   have n2_ : Aside0 (w18.heap[gb309]? = some (.cells #[.slice A1_0 l1_0.length c1_0, .float .f32 a1_1, .float .f32 a1_2, .float .f32 a1_3] 29 (0, 0))) := ⟨h2_⟩
   have n3_ : Aside0 (w18.heap[gb310]? = some (.cells #[.float .f32 a2] 25 (0, 0))) := ⟨h3_⟩
   have n4_ : Aside0 (w18.heap[gb311]? = some (.cells #[.slice none 0 0, .float .f32 0, .float .f32 0, .float .f32 0] 29 (0, 0))) := ⟨h4_⟩
   have n5_ : Aside0 (w18.heap[gb318]? = some (.cells #[.slice none 0 0, .float .f32 0, .float .f32 0, .float .f32 0] 29 (0, 0))) := ⟨h5_⟩
   have n6_ : Aside0 (w.heap.size ≤ gb318) := ⟨h6_⟩
   have n7_ : Aside0 (w.heap.size ≤ gb318) := ⟨h7_⟩
   have n8_ : Aside0 (gb308 ≠ gb318) := ⟨h8_⟩
   have n9_ : Aside0 (gb318 ≠ gb308) := ⟨h9_⟩
   have n10_ : Aside0 (gb309 ≠ gb318) := ⟨h10_⟩
   have n11_ : Aside0 (gb318 ≠ gb309) := ⟨h11_⟩
   have n12_ : Aside0 (gb310 ≠ gb318) := ⟨h12_⟩
   have n13_ : Aside0 (gb318 ≠ gb310) := ⟨h13_⟩
   have n14_ : Aside0 (gb311 ≠ gb318) := ⟨h14_⟩
   have n15_ : Aside0 (gb318 ≠ gb311) := ⟨h15_⟩
   have n16_ : Aside0 (Below w.heap.size w w18) := ⟨h16_⟩
   clear BK308
   clear BK309
   clear BK310
   clear BK311
   clear HB
   clear h0_ h1_ h2_ h3_ h4_ h5_ h6_ h7_ h8_ h9_ h10_ h11_ h12_ h13_ h14_ h15_ h16_
   have HO314 := n0_
   have BK308 := n1_
   have BK309 := n2_
   have BK310 := n3_
   have BK311 := n4_
   have BK318 := n5_
   have GW318 := n6_
   have GE318 := n7_
   have NB308_318 := n8_
   have NB318_308 := n9_
   have NB309_318 := n10_
   have NB318_309 := n11_
   have NB310_318 := n12_
   have NB318_310 := n13_
   have NB311_318 := n14_
   have NB318_311 := n15_
   have HB := n16_
   clear n0_ n1_ n2_ n3_ n4_ n5_ n6_ n7_ n8_ n9_ n10_ n11_ n12_ n13_ n14_ n15_ n16_
   have hHeld : w18.cell? ⟨gb308, 0, none⟩ = some (.slice A0_0 l0_0.length c0_0) ∧ w18.cell? ⟨gb308, 1, none⟩ = some (.float .f32 a0_1) ∧ w18.cell? ⟨gb308, 2, none⟩ = some (.float .f32 a0_2) ∧ w18.cell? ⟨gb308, 3, none⟩ = some (.float .f32 a0_3) ∧ w18.cell? ⟨gb309, 0, none⟩ = some (.slice A1_0 l1_0.length c1_0) ∧ w18.cell? ⟨gb309, 1, none⟩ = some (.float .f32 a1_1) ∧ w18.cell? ⟨gb309, 2, none⟩ = some (.float .f32 a1_2) ∧ w18.cell? ⟨gb309, 3, none⟩ = some (.float .f32 a1_3) := hS_
   obtain ⟨Ao19, co19, eo19⟩ := Kd.R_slice HO314.out
   (first | subst eo19 | (injection eo19 with f1_ f2_ f3_; have f4_ := f1_.symm; have f5_ := f3_.symm; clear f1_ f2_ f3_; subst f4_; subst f5_))
   refine norm_ (a' := ?_) ?_ ?_
   rotate_left
   ·simp only [putAll, Act.put, List.setIfInBounds_toArray, List.set_cons_zero, List.set_cons_succ]
    rfl
   refine one_ (i := 24) (N := none) impl_mixFrames.z36 rfl rfl (one_of HT_.out (by kernel_rfl)) (by decide) (fun K hK => ?_)
   have hs20 : w18.cell? ⟨gb318, 0, none⟩ = some (.slice none 0 0) := (blk_cell BK318.out 0).trans rfl
   have hfs20 := blk_frozen BK318.out 0
   have hns20_0 := NB308_318.out
   have hns20_1 := NB309_318.out
   have hns20_2 := NB310_318.out
   have hns20_3 := NB311_318.out
   have hms20_0 := NB318_308.out
   have hms20_1 := NB318_309.out
   have hms20_2 := NB318_310.out
   have hms20_3 := NB318_311.out
   have hs21 : w18.cell? ⟨gb318, 1, none⟩ = some (.float .f32 0) := (blk_cell BK318.out 1).trans rfl
   have hfs21 := blk_frozen BK318.out 1
   have hns21_0 := NB308_318.out
   have hns21_1 := NB309_318.out
   have hns21_2 := NB310_318.out
   have hns21_3 := NB311_318.out
   have hms21_0 := NB318_308.out
   have hms21_1 := NB318_309.out
   have hms21_2 := NB318_310.out
   have hms21_3 := NB318_311.out
   have hs22 : w18.cell? ⟨gb318, 2, none⟩ = some (.float .f32 0) := (blk_cell BK318.out 2).trans rfl
   have hfs22 := blk_frozen BK318.out 2
   have hns22_0 := NB308_318.out
   have hns22_1 := NB309_318.out
   have hns22_2 := NB310_318.out
   have hns22_3 := NB311_318.out
   have hms22_0 := NB318_308.out
   have hms22_1 := NB318_309.out
   have hms22_2 := NB318_310.out
   have hms22_3 := NB318_311.out
   have hs23 : w18.cell? ⟨gb318, 3, none⟩ = some (.float .f32 0) := (blk_cell BK318.out 3).trans rfl
   have hfs23 := blk_frozen BK318.out 3
   have hns23_0 := NB308_318.out
   have hns23_1 := NB309_318.out
   have hns23_2 := NB310_318.out
   have hns23_3 := NB311_318.out
   have hms23_0 := NB318_308.out
   have hms23_1 := NB318_309.out
   have hms23_2 := NB318_310.out
   have hms23_3 := NB318_311.out
   refine skip_ (w1 := ?_) (by rfl) rfl ?_ ?_
   rotate_left
   ·go_simp
    rfl
   refine hK.out _ _ ⟨((cell_far (p := ⟨gb318, _, none⟩) NB308_318.out _).trans (((cell_far (p := ⟨gb318, _, none⟩) NB308_318.out _).trans (((cell_far (p := ⟨gb318, _, none⟩) NB308_318.out _).trans (((cell_far (p := ⟨gb318, _, none⟩) NB308_318.out _).trans (hHeld.1)))))))), ((cell_far (p := ⟨gb318, _, none⟩) NB308_318.out _).trans (((cell_far (p := ⟨gb318, _, none⟩) NB308_318.out _).trans (((cell_far (p := ⟨gb318, _, none⟩) NB308_318.out _).trans (((cell_far (p := ⟨gb318, _, none⟩) NB308_318.out _).trans (hHeld.2.1)))))))), ((cell_far (p := ⟨gb318, _, none⟩) NB308_318.out _).trans (((cell_far (p := ⟨gb318, _, none⟩) NB308_318.out _).trans (((cell_far (p := ⟨gb318, _, none⟩) NB308_318.out _).trans (((cell_far (p := ⟨gb318, _, none⟩) NB308_318.out _).trans (hHeld.2.2.1)))))))), ((cell_far (p := ⟨gb318, _, none⟩) NB308_318.out _).trans (((cell_far (p := ⟨gb318, _, none⟩) NB308_318.out _).trans (((cell_far (p := ⟨gb318, _, none⟩) NB308_318.out _).trans (((cell_far (p := ⟨gb318, _, none⟩) NB308_318.out _).trans (hHeld.2.2.2.1)))))))), ((cell_far (p := ⟨gb318, _, none⟩) NB309_318.out _).trans (((cell_far (p := ⟨gb318, _, none⟩) NB309_318.out _).trans (((cell_far (p := ⟨gb318, _, none⟩) NB309_318.out _).trans (((cell_far (p := ⟨gb318, _, none⟩) NB309_318.out _).trans (hHeld.2.2.2.2.1)))))))), ((cell_far (p := ⟨gb318, _, none⟩) NB309_318.out _).trans (((cell_far (p := ⟨gb318, _, none⟩) NB309_318.out _).trans (((cell_far (p := ⟨gb318, _, none⟩) NB309_318.out _).trans (((cell_far (p := ⟨gb318, _, none⟩) NB309_318.out _).trans (hHeld.2.2.2.2.2.1)))))))), ((cell_far (p := ⟨gb318, _, none⟩) NB309_318.out _).trans (((cell_far (p := ⟨gb318, _, none⟩) NB309_318.out _).trans (((cell_far (p := ⟨gb318, _, none⟩) NB309_318.out _).trans (((cell_far (p := ⟨gb318, _, none⟩) NB309_318.out _).trans (hHeld.2.2.2.2.2.2.1)))))))), ((cell_far (p := ⟨gb318, _, none⟩) NB309_318.out _).trans (((cell_far (p := ⟨gb318, _, none⟩) NB309_318.out _).trans (((cell_far (p := ⟨gb318, _, none⟩) NB309_318.out _).trans (((cell_far (p := ⟨gb318, _, none⟩) NB309_318.out _).trans (hHeld.2.2.2.2.2.2.2))))))))⟩ (fun hHeld => ?_)
   clear hK K
   refine done_ (done_of HT_.out (by kernel_rfl)) ?_
   have hnb24 := NB308_309.out
   have hnc24 := NB309_308.out
   have hnb25 := NB308_310.out
   have hnc25 := NB310_308.out
   have hnb26 := NB308_311.out
   have hnc26 := NB311_308.out
   have hnb27 := NB308_318.out
   have hnc27 := NB318_308.out
   have hcz28_0 : w18.cell? ⟨gb308, 0, none⟩ = some (.slice A0_0 l0_0.length c0_0) := (blk_cell BK308.out 0).trans rfl
   have hcz28_1 : w18.cell? ⟨gb308, 1, none⟩ = some (.float .f32 a0_1) := (blk_cell BK308.out 1).trans rfl
   have hcz28_2 : w18.cell? ⟨gb308, 2, none⟩ = some (.float .f32 a0_2) := (blk_cell BK308.out 2).trans rfl
   have hcz28_3 : w18.cell? ⟨gb308, 3, none⟩ = some (.float .f32 a0_3) := (blk_cell BK308.out 3).trans rfl
   have hfz28_0 := blk_frozen BK308.out 0
   have hfz28_1 := blk_frozen BK308.out 1
   have hfz28_2 := blk_frozen BK308.out 2
   have hfz28_3 := blk_frozen BK308.out 3
   try go_wp2
   go_loopg [39] k (fun kq v39 w' => ∃ (x39_1 : Int) (x319000_1 : List Nat) (u319000 : Value), v39 = .int .i64 x39_1 ∧ Aside0 (impl_mixFrames.l0 kq l0_0 (l0_0.length : Int) x39_1 l1_0 a1_1 a1_2 a1_3 a2 x319000_1 t315 t316 t317 = some (r1, r2, r3, r4, r5)) ∧ Aside0 (kq ≤ k) ∧ Aside0 (Kd.R (Kd.float .f32) 25 w' w.heap.size (fun k_ => k_ ≠ gb310) u319000 x319000_1) ∧ Aside0 (w'.heap[gb308]? = some (.cells #[(.slice A0_0 l0_0.length c0_0), .float .f32 a0_1, .float .f32 a0_2, .float .f32 a0_3] 29 (0, 0))) ∧ Aside0 (w'.heap[gb309]? = some (.cells #[(.slice A1_0 l1_0.length c1_0), .float .f32 a1_1, .float .f32 a1_2, .float .f32 a1_3] 29 (0, 0))) ∧ Aside0 (w'.heap[gb310]? = some (.cells #[.float .f32 a2] 25 (0, 0))) ∧ Aside0 (w'.heap[gb311]? = some (.cells #[(.slice none 0 0), .float .f32 0, .float .f32 0, .float .f32 0] 29 (0, 0))) ∧ Aside0 (w'.heap[gb318]? = some (.cells #[u319000, .float .f32 t315, .float .f32 t316, .float .f32 t317] 29 (0, 0))) ∧ Aside0 (Below w.heap.size w w'))
   case atStart => exact ⟨(0), (y312), (.slice Ao19 y312.length co19), (by first | rfl | (simp; done) | (simp [*]; done)), H', ⟨Nat.le_refl _⟩, ⟨by (with_reducible repeat (first | apply Kd.R_alloc | apply Kd.R_drewN | apply Kd.R_drew)); exact Kd.R_mono (Kd.R_far (p := ⟨gb318, 3, none⟩) (Kd.R_far (p := ⟨gb318, 2, none⟩) (Kd.R_far (p := ⟨gb318, 1, none⟩) (Kd.R_far (p := ⟨gb318, 0, none⟩) (Kd.R_types HO314.out BK318.out (by decide)) (fun _ hk => hk.2) (.slice Ao19 y312.length co19)) (fun _ hk => hk.2) (.float .f32 t315)) (fun _ hk => hk.2) (.float .f32 t316)) (fun _ hk => hk.2) (.float .f32 t317)) (fun _ hk => hk.1)⟩, ⟨by (with_reducible repeat (first | refine blk_drewN ?_ _ | refine blk_drew ?_ | refine blk_alloc ?_ _)); refine blk_far ?_ NB308_318.out _; (with_reducible repeat (first | refine blk_drewN ?_ _ | refine blk_drew ?_ | refine blk_alloc ?_ _)); refine blk_far ?_ NB308_318.out _; (with_reducible repeat (first | refine blk_drewN ?_ _ | refine blk_drew ?_ | refine blk_alloc ?_ _)); refine blk_far ?_ NB308_318.out _; (with_reducible repeat (first | refine blk_drewN ?_ _ | refine blk_drew ?_ | refine blk_alloc ?_ _)); refine blk_far ?_ NB308_318.out _; (with_reducible repeat (first | refine blk_drewN ?_ _ | refine blk_drew ?_ | refine blk_alloc ?_ _)); exact BK308.out⟩, ⟨by (with_reducible repeat (first | refine blk_drewN ?_ _ | refine blk_drew ?_ | refine blk_alloc ?_ _)); refine blk_far ?_ NB309_318.out _; (with_reducible repeat (first | refine blk_drewN ?_ _ | refine blk_drew ?_ | refine blk_alloc ?_ _)); refine blk_far ?_ NB309_318.out _; (with_reducible repeat (first | refine blk_drewN ?_ _ | refine blk_drew ?_ | refine blk_alloc ?_ _)); refine blk_far ?_ NB309_318.out _; (with_reducible repeat (first | refine blk_drewN ?_ _ | refine blk_drew ?_ | refine blk_alloc ?_ _)); refine blk_far ?_ NB309_318.out _; (with_reducible repeat (first | refine blk_drewN ?_ _ | refine blk_drew ?_ | refine blk_alloc ?_ _)); exact BK309.out⟩, ⟨by (with_reducible repeat (first | refine blk_drewN ?_ _ | refine blk_drew ?_ | refine blk_alloc ?_ _)); refine blk_far ?_ NB310_318.out _; (with_reducible repeat (first | refine blk_drewN ?_ _ | refine blk_drew ?_ | refine blk_alloc ?_ _)); refine blk_far ?_ NB310_318.out _; (with_reducible repeat (first | refine blk_drewN ?_ _ | refine blk_drew ?_ | refine blk_alloc ?_ _)); refine blk_far ?_ NB310_318.out _; (with_reducible repeat (first | refine blk_drewN ?_ _ | refine blk_drew ?_ | refine blk_alloc ?_ _)); refine blk_far ?_ NB310_318.out _; (with_reducible repeat (first | refine blk_drewN ?_ _ | refine blk_drew ?_ | refine blk_alloc ?_ _)); exact BK310.out⟩, ⟨by (with_reducible repeat (first | refine blk_drewN ?_ _ | refine blk_drew ?_ | refine blk_alloc ?_ _)); refine blk_far ?_ NB311_318.out _; (with_reducible repeat (first | refine blk_drewN ?_ _ | refine blk_drew ?_ | refine blk_alloc ?_ _)); refine blk_far ?_ NB311_318.out _; (with_reducible repeat (first | refine blk_drewN ?_ _ | refine blk_drew ?_ | refine blk_alloc ?_ _)); refine blk_far ?_ NB311_318.out _; (with_reducible repeat (first | refine blk_drewN ?_ _ | refine blk_drew ?_ | refine blk_alloc ?_ _)); refine blk_far ?_ NB311_318.out _; (with_reducible repeat (first | refine blk_drewN ?_ _ | refine blk_drew ?_ | refine blk_alloc ?_ _)); exact BK311.out⟩, ⟨by (with_reducible repeat (first | refine blk_drewN ?_ _ | refine blk_drew ?_ | refine blk_alloc ?_ _)); refine blk_put (cs := #[.slice Ao19 y312.length co19, .float .f32 t315, .float .f32 t316, .float .f32 0]) ?_ 3 _ rfl; (with_reducible repeat (first | refine blk_drewN ?_ _ | refine blk_drew ?_ | refine blk_alloc ?_ _)); refine blk_put (cs := #[.slice Ao19 y312.length co19, .float .f32 t315, .float .f32 0, .float .f32 0]) ?_ 2 _ rfl; (with_reducible repeat (first | refine blk_drewN ?_ _ | refine blk_drew ?_ | refine blk_alloc ?_ _)); refine blk_put (cs := #[.slice Ao19 y312.length co19, .float .f32 0, .float .f32 0, .float .f32 0]) ?_ 1 _ rfl; (with_reducible repeat (first | refine blk_drewN ?_ _ | refine blk_drew ?_ | refine blk_alloc ?_ _)); refine blk_put (cs := #[.slice none 0 0, .float .f32 0, .float .f32 0, .float .f32 0]) ?_ 0 _ rfl; (with_reducible repeat (first | refine blk_drewN ?_ _ | refine blk_drew ?_ | refine blk_alloc ?_ _)); exact BK318.out⟩, ⟨by repeat (first | (with_reducible first | exact HB.out | apply below_alloc | apply pw_below_drewN | apply below_drew1 | refine below_set ?_ GE308.out | refine below_set ?_ GE309.out | refine below_set ?_ GE310.out | refine below_set ?_ GE311.out | refine below_set ?_ GE318.out) | exact HB.out)⟩⟩
   case round =>
    clear H'
    try clear c1
    try clear c2
    try clear p2
    try clear c11
    try clear c24
    try clear c25
    try clear c26
    try clear c27
    try clear hcz28_0
    try clear hcz28_1
    try clear hcz28_2
    try clear hcz28_3
    try clear hfz28_0
    try clear hfz28_1
    try clear hfz28_2
    try clear hfz28_3
    obtain ⟨x39_1, x319000_1, u319000, rfl, HA, HK1, HO_319000, BK308, BK309, BK310, BK311, BK318, HB⟩ := hrel
    cases gk with
    | zero => exact absurd HA.out (by simp [impl_mixFrames.l0])
    | succ k1 =>
     have H := HA.out
     clear HA
     simp only [impl_mixFrames.l0] at H
     by_cases c29 : x39_1 < (l0_0.length : Int)
     ·rw [if_pos c29] at H
      have c29b0 : decide (x39_1 < (l0_0.length : Int)) = true := decide_eq_true c29
      clear c29
      by_cases c30 : 0 ≤ x39_1
      ·rw [if_pos c30] at H
       have c30b0 : decide (0 ≤ x39_1) = true := decide_eq_true c30
       clear c30
       by_cases c31 : x39_1 < (l0_0.length : Int)
       ·rw [if_pos c31] at H
        have c31b0 : decide (x39_1 < (l0_0.length : Int)) = true := decide_eq_true c31
        clear c31
        by_cases c32 : x39_1 < (l1_0.length : Int)
        ·rw [if_pos c32] at H
         have c32b0 : decide (x39_1 < (l1_0.length : Int)) = true := decide_eq_true c32
         clear c32
         replace H := Option.bind_eq_some_iff.mp H
         obtain ⟨t321, A330, H⟩ := H
         replace H : (if x39_1 < (x319000_1.length : Int) then (impl_mixFrames.l0 k1 l0_0 (l0_0.length : Int) (wrap64 (x39_1 + 1)) l1_0 a1_1 a1_2 a1_3 a2 (x319000_1.set (x39_1 : Int).toNat t321) t315 t316 t317) else (none)) = some (r1, r2, r3, r4, r5) := H
         have A33 := Aside0.mk A330
         clear A330
         by_cases c34 : x39_1 < (x319000_1.length : Int)
         ·rw [if_pos c34] at H
          have c34b0 : decide (x39_1 < (x319000_1.length : Int)) = true := decide_eq_true c34
          clear c34
          obtain ⟨y322, hy322⟩ : ∃ y_ : List Nat, y_ = (x319000_1.set (x39_1 : Int).toNat t321) := ⟨_, rfl⟩
          replace H : (impl_mixFrames.l0 k1 l0_0 (l0_0.length : Int) (wrap64 (x39_1 + 1)) l1_0 a1_1 a1_2 a1_3 a2 y322 t315 t316 t317) = some (r1, r2, r3, r4, r5) := by first | (rw [hy322]; with_reducible exact H) | (have H2_ := (Option.bind_some _ _).symm.trans H; rw [hy322]; with_reducible exact H2_) | (have H2_ := (Option.bind_some _ _).symm.trans H; with_reducible exact H2_) | with_reducible exact H | (rw [hy322]; exact H) | exact H
          have Ny322 := Aside0.mk hy322
          clear hy322
          have H' := Aside0.mk H
          clear H
          have p319 : 0 ≤ (x39_1 : Int) := of_decide_eq_true (by first | (with_reducible assumption) | assumption)
          have q319 : x39_1 < (l0_0.length : Int) := of_decide_eq_true (by first | (with_reducible assumption) | assumption)
          obtain ⟨ad319, e319, hx319_0⟩ := Kd.at_float HR0_0.out x39_1 p319 q319
          cases e319
          replace hx319_0 := (HB.out.cell (World.block_lt_of_cell? w _ hx319_0)).trans hx319_0
          replace p319 := eq_true p319
          replace q319 := eq_true q319
          try go_wp2
          have n0_ := Aside0.mk (Kd.R_drew HO_319000.out)
          have n1_ := Aside0.mk (blk_drew BK308.out)
          have n2_ := Aside0.mk (blk_drew BK309.out)
          have n3_ := Aside0.mk (blk_drew BK310.out)
          have n4_ := Aside0.mk (blk_drew BK311.out)
          have n5_ := Aside0.mk (blk_drew BK318.out)
          have n6_ := Aside0.mk (below_drew1 HB.out)
          clear HO_319000
          clear BK308
          clear BK309
          clear BK310
          clear BK311
          clear BK318
          clear HB
          have HO_319000 := n0_
          have BK308 := n1_
          have BK309 := n2_
          have BK310 := n3_
          have BK311 := n4_
          have BK318 := n5_
          have HB := n6_
          clear n0_ n1_ n2_ n3_ n4_ n5_ n6_
          have p320 : 0 ≤ (x39_1 : Int) := of_decide_eq_true (by first | (with_reducible assumption) | assumption)
          have q320 : x39_1 < (l1_0.length : Int) := of_decide_eq_true (by first | (with_reducible assumption) | assumption)
          obtain ⟨ad320, e320, hx320_0⟩ := Kd.at_float HR1_0.out x39_1 p320 q320
          have hw320_0 := hx320_0
          cases e320
          replace hx320_0 := (HB.out.cell (World.block_lt_of_cell? w _ hx320_0)).trans hx320_0
          replace p320 := eq_true p320
          replace q320 := eq_true q320
          refine start_ (n := 13) (S := fun w' => w'.cell? ⟨gb318, 0, none⟩ = some (u319000) ∧ w'.cell? ⟨gb318, 1, none⟩ = some (.float .f32 t315) ∧ w'.cell? ⟨gb318, 2, none⟩ = some (.float .f32 t316) ∧ w'.cell? ⟨gb318, 3, none⟩ = some (.float .f32 t317) ∧ w'.cell? ⟨gb309, 0, none⟩ = some (.slice (some ad320) l1_0.length c1_0) ∧ w'.cell? ⟨gb309, 1, none⟩ = some (.float .f32 a1_1) ∧ w'.cell? ⟨gb309, 2, none⟩ = some (.float .f32 a1_2) ∧ w'.cell? ⟨gb309, 3, none⟩ = some (.float .f32 a1_3) ∧ w'.cell? (ad320.add (x39_1).toNat) = some (.float .f32 (rdOf (0 : Nat) l1_0 x39_1))) (ds := [12]) #[false, false, false, false, false, false, false, false, false, false, false, false, false] (by kernel_rfl) rfl rfl ⟨(blk_cell BK318.out 0).trans rfl, (blk_cell BK318.out 1).trans rfl, (blk_cell BK318.out 2).trans rfl, (blk_cell BK318.out 3).trans rfl, (blk_cell BK309.out 0).trans rfl, (blk_cell BK309.out 1).trans rfl, (blk_cell BK309.out 2).trans rfl, (blk_cell BK309.out 3).trans rfl, (cu_ HB.out hw320_0)⟩ (fun hHeld => ?_); refine with_tabW impl_mixFrames.tab6 impl_mixFrames.bits6 (fun HT_ HW_ => ?_)
          generalize wr.drew = w36 at HO_319000 BK308 BK309 BK310 BK311 BK318 HB hx320_0 hHeld ⊢
          refine pure_ (i := 0) (N := some 44) (v := ?_) (a' := ?_) #[true, false, false, false, false, false, false, false, false, false, false, false, false] rfl rfl (any_of HT_.out (by kernel_rfl)) (fun _ _ _ h => h) (Or.inl ⟨by rfl, ?_⟩) ?_ ?_
          pv_
          refine pure_ (i := 2) (N := some 46) (v := ?_) (a' := ?_) #[true, false, true, false, false, false, false, false, false, false, false, false, false] rfl rfl (any_of HT_.out (by kernel_rfl)) (fun _ _ _ h => h) (Or.inl ⟨by rfl, ?_⟩) ?_ ?_
          pv_
          refine pure_ (i := 3) (N := some 47) (v := ?_) (a' := ?_) #[true, false, true, true, false, false, false, false, false, false, false, false, false] rfl rfl (any_of HT_.out (by kernel_rfl)) (fun _ _ _ h => h) (Or.inl ⟨by rfl, ?_⟩) ?_ ?_
          pv_
          refine pure_ (i := 4) (N := some 48) (v := ?_) (a' := ?_) #[true, false, true, true, true, false, false, false, false, false, false, false, false] rfl rfl (any_of HT_.out (by kernel_rfl)) (fun _ _ _ h => h) (Or.inl ⟨by rfl, ?_⟩) ?_ ?_
          pv_
          refine pure_ (i := 5) (N := some 49) (v := ?_) (a' := ?_) #[true, false, true, true, true, true, false, false, false, false, false, false, false] rfl rfl (any_of HT_.out (by kernel_rfl)) (fun _ _ _ h => h) (Or.inl ⟨by rfl, ?_⟩) ?_ ?_
          pv_
          refine pure_ (i := 7) (N := some 51) (v := ?_) (a' := ?_) #[true, false, true, true, true, true, false, true, false, false, false, false, false] rfl rfl (any_of HT_.out (by kernel_rfl)) (fun _ _ _ h => h) (Or.inl ⟨by rfl, ?_⟩) ?_ ?_
          pv_
          refine take_ (i := 1) (N := some 45) (v := ?_) (a' := ?_) #[true, true, true, true, true, true, false, true, false, false, false, false, false] rfl rfl (take_ofW HT_.out HW_.out (by kernel_rfl)) (fun _ _ _ h => h) (Or.inl ⟨by rfl, ?_⟩) hHeld ?_ ?_
          rotate_left
          ·rintro w' ⟨s0, s1, s2, s3, s4, s5, s6, s7, s8⟩
           go_simp
           with_reducible rfl
          rotate_left
          ·pw_
          refine take_ (i := 6) (N := some 50) (v := ?_) (a' := ?_) #[true, true, true, true, true, true, true, true, false, false, false, false, false] rfl rfl (take_ofW HT_.out HW_.out (by kernel_rfl)) (fun _ _ _ h => h) (Or.inl ⟨by rfl, ?_⟩) hHeld ?_ ?_
          rotate_left
          ·rintro w' ⟨s0, s1, s2, s3, s4, s5, s6, s7, s8⟩
           go_simp
           with_reducible rfl
          rotate_left
          ·pw_
          refine pure_ (i := 8) (N := some 52) (v := ?_) (a' := ?_) #[true, true, true, true, true, true, true, true, true, false, false, false, false] rfl rfl (any_of HT_.out (by kernel_rfl)) (fun _ _ _ h => h) (Or.inl ⟨by rfl, ?_⟩) ?_ ?_
          pv_
          refine take_ (i := 9) (N := some 53) (v := ?_) (a' := ?_) #[true, true, true, true, true, true, true, true, true, true, false, false, false] rfl rfl (take_ofW HT_.out HW_.out (by kernel_rfl)) (fun _ _ _ h => h) (Or.inl ⟨by rfl, ?_⟩) hHeld ?_ ?_
          rotate_left
          ·rintro w' ⟨s0, s1, s2, s3, s4, s5, s6, s7, s8⟩
           go_simp
           with_reducible rfl
          rotate_left
          ·pw_
          refine one_ (i := 10) (N := some 54) #[true, true, true, true, true, true, true, true, true, true, true, false, false] rfl rfl (one_of HT_.out (by kernel_rfl)) (by decide) (fun K hK => ?_)
          refine goesV_ #[.pointer (some ⟨gb310, 0, none⟩)] Try.func113 (by kernel_rfl) rfl #[.float .f32 (rdOf (0 : Nat) l0_0 x39_1), .float .f32 (rdOf (0 : Nat) l1_0 x39_1), .pointer (some ⟨gb310, 0, none⟩)] (by rfl) rfl rfl rfl (by (try simp only [List.map_toArray, List.map_cons, List.map_nil]); first | done | rfl | (simp only [List.length_drop, List.length_take]; rfl)) ?_
          with_reducible refine (impl_mixFrames_1.calls (rdOf (0 : Nat) l0_0 x39_1) (rdOf (0 : Nat) l1_0 x39_1) _ [(⟨a2⟩ : S25)] t321 _ ?side1 A33.out).mono ?_
          (case side1 => exact Kd.C_one (T := 25) (by (with_reducible repeat (first | refine blk_drewN ?_ _ | refine blk_drew ?_ | refine blk_alloc ?_ _)); exact BK310.out) (k25_mk _ (⟨a2⟩ : S25) ))
          rintro e w' ⟨rfl, ⟨nd, rfl⟩⟩
          refine ⟨_, rfl, ?_⟩
          have p35 : 0 ≤ (x39_1 : Int) := of_decide_eq_true (by first | (with_reducible assumption) | assumption)
          have q35 : (x39_1 : Int) < ((x319000_1.length : Int) : Int) := of_decide_eq_true (by first | (with_reducible assumption) | assumption)
          obtain ⟨go35, co35, eo35, gb35, gl35, cl35, HG35⟩ := Kd.R_form HO_319000.out (by omega)
          (first | cases eo35 | (injection eo35 with ea_ en_ ec_; (first | subst ea_ | (injection ea_ with ea_; subst ea_)); subst ec_; clear en_))
          have GB35 := Aside0.mk gb35
          have GG35 := Aside0.mk HG35
          clear gb35 gl35 HG35
          obtain ⟨hx35_0, hf35_0⟩ := Kd.R_celln 0 HO_319000.out (x39_1 : Int) p35 q35
          replace p35 := eq_true p35
          replace q35 := eq_true q35
          have HP37 := Kd.R_putn HO_319000.out (x39_1 : Int) t321
          rw [← Ny322.out] at HP37
          have HQ37 := Aside0.mk HP37
          clear HP37
          refine hK.out _ _ ⟨(blk_cell BK318.out 0).trans rfl, (blk_cell BK318.out 1).trans rfl, (blk_cell BK318.out 2).trans rfl, (blk_cell BK318.out 3).trans rfl, (blk_cell BK309.out 0).trans rfl, (blk_cell BK309.out 1).trans rfl, (blk_cell BK309.out 2).trans rfl, (blk_cell BK309.out 3).trans rfl, (cu_ HB.out hw320_0)⟩ (fun hHeld => ?_)
          clear hK K
          refine norm_ (a' := ?_) ?_ ?_
          rotate_left
          ·show Act.put _ (some 54) _ = _
           pw_
          refine pure_ (i := 11) (N := some 55) (v := ?_) (a' := ?_) #[true, true, true, true, true, true, true, true, true, true, true, true, false] rfl rfl (any_of HT_.out (by kernel_rfl)) (fun _ _ _ h => h) (Or.inl ⟨by rfl, ?_⟩) ?_ ?_
          pv_
          refine last_ (i := 12) (N := none) #[true, true, true, true, true, true, true, true, true, true, true, true, true] rfl rfl (one_of HT_.out (by kernel_rfl)) (by decide) (fun K hK => ?_)
          refine skip_ (w1 := ?_) (by rfl) rfl ?_ ?_
          rotate_left
          ·go_simp
           rfl
          refine hK.out _ _ ?_
          clear hK K
          refine done_ (done_of HT_.out (by kernel_rfl)) ?_
          try go_wp2
          go_roundg k1
          case measure => have := HK1.out; omega
          case rel => exact ⟨(wrap64 (x39_1 + 1)), (y322), (.slice (some ⟨go35, 0, none⟩) x319000_1.length co35), (by first | rfl | (simp; done) | (simp [*]; done)), H', ⟨by have := HK1.out; omega⟩, ⟨by (with_reducible repeat (first | apply Kd.R_alloc | apply Kd.R_drewN | apply Kd.R_drew)); exact HQ37.out⟩, ⟨by (with_reducible repeat (first | refine blk_drewN ?_ _ | refine blk_drew ?_ | refine blk_alloc ?_ _)); refine blk_far ?_ (by have h_ := Kd.R_ne HO_319000.out BK308.out (by decide); intro e_; exact h_ (by rw [e_]; rfl)) _; (with_reducible repeat (first | refine blk_drewN ?_ _ | refine blk_drew ?_ | refine blk_alloc ?_ _)); exact BK308.out⟩, ⟨by (with_reducible repeat (first | refine blk_drewN ?_ _ | refine blk_drew ?_ | refine blk_alloc ?_ _)); refine blk_far ?_ (by have h_ := Kd.R_ne HO_319000.out BK309.out (by decide); intro e_; exact h_ (by rw [e_]; rfl)) _; (with_reducible repeat (first | refine blk_drewN ?_ _ | refine blk_drew ?_ | refine blk_alloc ?_ _)); exact BK309.out⟩, ⟨by (with_reducible repeat (first | refine blk_drewN ?_ _ | refine blk_drew ?_ | refine blk_alloc ?_ _)); refine blk_far ?_ (fun e_ => (HO_319000.out.1 go35 rfl) e_.symm) _; (with_reducible repeat (first | refine blk_drewN ?_ _ | refine blk_drew ?_ | refine blk_alloc ?_ _)); exact BK310.out⟩, ⟨by (with_reducible repeat (first | refine blk_drewN ?_ _ | refine blk_drew ?_ | refine blk_alloc ?_ _)); refine blk_far ?_ (by have h_ := Kd.R_ne HO_319000.out BK311.out (by decide); intro e_; exact h_ (by rw [e_]; rfl)) _; (with_reducible repeat (first | refine blk_drewN ?_ _ | refine blk_drew ?_ | refine blk_alloc ?_ _)); exact BK311.out⟩, ⟨by (with_reducible repeat (first | refine blk_drewN ?_ _ | refine blk_drew ?_ | refine blk_alloc ?_ _)); refine blk_far ?_ (by have h_ := Kd.R_ne HO_319000.out BK318.out (by decide); intro e_; exact h_ (by rw [e_]; rfl)) _; (with_reducible repeat (first | refine blk_drewN ?_ _ | refine blk_drew ?_ | refine blk_alloc ?_ _)); exact BK318.out⟩, ⟨by repeat (first | (with_reducible first | exact HB.out | apply below_alloc | apply pw_below_drewN | apply below_drew1 | refine below_set ?_ GB35.out | refine below_set ?_ GE308.out | refine below_set ?_ GE309.out | refine below_set ?_ GE310.out | refine below_set ?_ GE311.out | refine below_set ?_ GE318.out) | exact HB.out)⟩⟩
         ·rw [if_neg c34] at H
          exact absurd H (by simp)
        ·rw [if_neg c32] at H
         exact absurd H (by simp)
       ·rw [if_neg c31] at H
        exact absurd H (by simp)
      ·rw [if_neg c30] at H
       exact absurd H (by simp)
     ·rw [if_neg c29] at H
      have c29b0 : decide (x39_1 < (l0_0.length : Int)) = false := decide_eq_false c29
      clear c29
      replace H := Option.bind_eq_some_iff.mp H
      obtain ⟨⟨t323, t326, t327, t328, t329⟩, A380, H⟩ := H
      replace H : (some (t323, t326, t327, t328, t329)) = some (r1, r2, r3, r4, r5) := H
      have A38 := Aside0.mk A380
      clear A380
      simp only [Option.some.injEq, Prod.mk.injEq] at H
      obtain ⟨rfl, rfl, rfl, rfl, rfl⟩ := H
      have hnb39 := NB318_308.out
      have hnc39 := NB308_318.out
      have hnb40 := NB318_309.out
      have hnc40 := NB309_318.out
      have hnb41 := NB318_310.out
      have hnc41 := NB310_318.out
      have hnb42 := NB318_311.out
      have hnc42 := NB311_318.out
      have hcz43_0 : wr.cell? ⟨gb318, 0, none⟩ = some (u319000) := (blk_cell BK318.out 0).trans rfl
      have hcz43_1 : wr.cell? ⟨gb318, 1, none⟩ = some (.float .f32 t315) := (blk_cell BK318.out 1).trans rfl
      have hcz43_2 : wr.cell? ⟨gb318, 2, none⟩ = some (.float .f32 t316) := (blk_cell BK318.out 2).trans rfl
      have hcz43_3 : wr.cell? ⟨gb318, 3, none⟩ = some (.float .f32 t317) := (blk_cell BK318.out 3).trans rfl
      have hfz43_0 := blk_frozen BK318.out 0
      have hfz43_1 := blk_frozen BK318.out 1
      have hfz43_2 := blk_frozen BK318.out 2
      have hfz43_3 := blk_frozen BK318.out 3
      obtain ⟨Ao44, co44, eo44⟩ := Kd.R_slice HO_319000.out
      subst eo44
      go_wp2_with (first | ((with_reducible refine gate_callee (f := 84) rfl ?_); refine goesL_ (some 58) rfl rfl Try.func84 (by kernel_rfl) rfl #[.agg #[.slice Ao44 x319000_1.length co44, .float .f32 t315, .float .f32 t316, .float .f32 t317]] rfl (by (try simp only [List.map_toArray, List.map_cons, List.map_nil]); first | done | rfl | (simp only [List.length_drop, List.length_take]; rfl)) ?_; (with_reducible refine (impl_checkedFrame.calls k1 (fun k_ => some k_ = (.slice Ao44 x319000_1.length co44 : Value).ownBlock) (.slice Ao44 x319000_1.length co44) x319000_1 t315 t316 t317 t323 t326 t327 t328 t329 w _ ?side1 ?side2 A38.out).mono ?_); (case side1 => repeat (first | (with_reducible first | exact HB.out | apply below_alloc | apply pw_below_drewN | apply below_drew1 | refine below_set ?_ GE308.out | refine below_set ?_ GE309.out | refine below_set ?_ GE310.out | refine below_set ?_ GE311.out | refine below_set ?_ GE318.out) | exact HB.out)); (case side2 => exact Kd.R_tight rfl HO_319000.out); rintro e w45 ⟨v324, rfl, ho0, hb, hkp⟩; refine ⟨_, rfl, ?_⟩; have n0_ := Aside0.mk (blk_kept (by (with_reducible repeat (first | refine blk_drewN ?_ _ | refine blk_drew ?_ | refine blk_alloc ?_ _)); exact BK308.out) hkp (fun hs_ => (fun e_ => (Kd.R_ne HO_319000.out BK308.out (by decide)) e_) hs_)); have n1_ := Aside0.mk (blk_kept (by (with_reducible repeat (first | refine blk_drewN ?_ _ | refine blk_drew ?_ | refine blk_alloc ?_ _)); exact BK309.out) hkp (fun hs_ => (fun e_ => (Kd.R_ne HO_319000.out BK309.out (by decide)) e_) hs_)); have n2_ := Aside0.mk (blk_kept (by (with_reducible repeat (first | refine blk_drewN ?_ _ | refine blk_drew ?_ | refine blk_alloc ?_ _)); exact BK310.out) hkp (fun hs_ => HO_319000.out.1 gb310 hs_.symm rfl)); have n3_ := Aside0.mk (blk_kept (by (with_reducible repeat (first | refine blk_drewN ?_ _ | refine blk_drew ?_ | refine blk_alloc ?_ _)); exact BK311.out) hkp (fun hs_ => (fun e_ => (Kd.R_ne HO_319000.out BK311.out (by decide)) e_) hs_)); have n4_ := Aside0.mk (blk_kept (by (with_reducible repeat (first | refine blk_drewN ?_ _ | refine blk_drew ?_ | refine blk_alloc ?_ _)); exact BK318.out) hkp (fun hs_ => (fun e_ => (Kd.R_ne HO_319000.out BK318.out (by decide)) e_) hs_)); have n5_ := Aside0.mk (Kd.R_mono (ok' := fun k_ => True) ho0 (fun k_ hk_ => trivial)); have n6_ := Aside0.mk (hb); clear BK308; clear BK309; clear BK310; clear BK311; clear BK318; clear HB; clear HO_319000; have BK308 := n0_; have BK309 := n1_; have BK310 := n2_; have BK311 := n3_; have BK318 := n4_; have HO325 := n5_; have HB := n6_; clear n0_ n1_ n2_ n3_ n4_ n5_ n6_; (try clear hb); (try clear hkp); (try clear ho0); obtain ⟨Ao46, co46, eo46⟩ := Kd.R_slice HO325.out; subst eo46; have hnb47 := NB311_308.out; have hnc47 := NB308_311.out; have hnb48 := NB311_309.out; have hnc48 := NB309_311.out; have hnb49 := NB311_310.out; have hnc49 := NB310_311.out; have hcz50_0 : w45.cell? ⟨gb311, 0, none⟩ = some (.slice none 0 0) := (blk_cell BK311.out 0).trans rfl; have hcz50_1 : w45.cell? ⟨gb311, 1, none⟩ = some (.float .f32 0) := (blk_cell BK311.out 1).trans rfl; have hcz50_2 : w45.cell? ⟨gb311, 2, none⟩ = some (.float .f32 0) := (blk_cell BK311.out 2).trans rfl; have hcz50_3 : w45.cell? ⟨gb311, 3, none⟩ = some (.float .f32 0) := (blk_cell BK311.out 3).trans rfl; have hfz50_0 := blk_frozen BK311.out 0; have hfz50_1 := blk_frozen BK311.out 1; have hfz50_2 := blk_frozen BK311.out 2; have hfz50_3 := blk_frozen BK311.out 3))
      refine bodyPost_ret (results_ct rfl _ _ gb311 29 #[.slice Ao46 t323.length co46, .float .f32 t326, .float .f32 t327, .float .f32 t328] (0, 0) _ rfl (by (with_reducible repeat (first | refine blk_drewN ?_ _ | refine blk_drew ?_ | refine blk_alloc ?_ _)); refine blk_put (cs := #[.slice Ao46 t323.length co46, .float .f32 t326, .float .f32 t327, .float .f32 0]) ?_ 3 _ rfl; (with_reducible repeat (first | refine blk_drewN ?_ _ | refine blk_drew ?_ | refine blk_alloc ?_ _)); refine blk_put (cs := #[.slice Ao46 t323.length co46, .float .f32 t326, .float .f32 0, .float .f32 0]) ?_ 2 _ rfl; (with_reducible repeat (first | refine blk_drewN ?_ _ | refine blk_drew ?_ | refine blk_alloc ?_ _)); refine blk_put (cs := #[.slice Ao46 t323.length co46, .float .f32 0, .float .f32 0, .float .f32 0]) ?_ 1 _ rfl; (with_reducible repeat (first | refine blk_drewN ?_ _ | refine blk_drew ?_ | refine blk_alloc ?_ _)); refine blk_put (cs := #[.slice none 0 0, .float .f32 0, .float .f32 0, .float .f32 0]) ?_ 0 _ rfl; (with_reducible repeat (first | refine blk_drewN ?_ _ | refine blk_drew ?_ | refine blk_alloc ?_ _)); exact BK311.out) Try.underlying29 rfl (by kernel_rfl)) rfl ?_
      exact ⟨_, by first | rfl | (simp [errW_none, errW_some] <;> rfl) | (simp [*, errW_none, errW_some] <;> rfl), by (with_reducible repeat (first | apply Kd.R_alloc | apply Kd.R_drewN | apply Kd.R_drew)); exact Kd.R_mono (Kd.R_far (p := ⟨gb311, 3, none⟩) (Kd.R_far (p := ⟨gb311, 2, none⟩) (Kd.R_far (p := ⟨gb311, 1, none⟩) (Kd.R_far (p := ⟨gb311, 0, none⟩) (Kd.R_types HO325.out BK311.out (by decide)) (fun _ hk => hk.2) (.slice Ao46 t323.length co46)) (fun _ hk => hk.2) (.float .f32 t326)) (fun _ hk => hk.2) (.float .f32 t327)) (fun _ hk => hk.2) (.float .f32 t328)) (fun _ hk => trivial), by repeat (first | (with_reducible first | exact HB.out | apply below_alloc | apply pw_below_drewN | apply below_drew1 | refine below_set ?_ GE308.out | refine below_set ?_ GE309.out | refine below_set ?_ GE310.out | refine below_set ?_ GE311.out | refine below_set ?_ GE318.out) | exact HB.out)⟩
  ·rw [if_neg c5] at H
   exact absurd H (by simp)
 ·rw [if_neg c4] at H
  exact absurd H (by simp)
end Go.Proofs.Yteooifighndmkaa.PFnExactFrameAt
