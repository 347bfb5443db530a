import Derived.Test.YtoiaojdkgagblaaPFnExactValidDeskx0
import Derived.Test.YtoiaojdkgagblaaPFnExactValidDeskx5
namespace Go.Proofs.Ytoiaojdkgagblaa.PFnExactValidDesk
open Go.RowKit Go.Proofs.YtoiaojdkgagblaaW.PrintWords Go.Proofs.YtoiaojdkgagblaaW.PrintLast Go.Proofs.YtoiaojdkgagblaaW.PrintMore
open Go.Proofs.YtoiaojdkgagblaaW.PrintFl
attribute [local go_sem high] binOp_feq binOp_fne binOp_fls binOp_fle binOp_fgr binOp_fge binOp_sle binOp_sgt
attribute [local go_sem] run_fopr run_fconv run_fint run_stf run_stc ext_f32bits ext_f64bits ext_f32frombits
attribute [local go_sem] max2_int min2_int max_two min_two max_three min_three max_four min_four
set_option linter.unusedVariables false
set_option linter.unusedSimpArgs false
abbrev spec_l06Are.z0 : Array Bool := #[false, false, false, false, false, false, false, false, false, false, false, false, false, false, false, false, false, false, false, false, false, false, false, false, false, false, false, false, false, false, false, false, false, false, false, false, false]
abbrev spec_l06Are.z1 : Array Bool := #[true, false, false, false, false, false, false, false, false, false, false, false, false, false, false, false, false, false, false, false, false, false, false, false, false, false, false, false, false, false, false, false, false, false, false, false, false]
abbrev spec_l06Are.z2 : Array Bool := #[true, true, false, false, false, false, false, false, false, false, false, false, false, false, false, false, false, false, false, false, false, false, false, false, false, false, false, false, false, false, false, false, false, false, false, false, false]
abbrev spec_l06Are.z3 : Array Bool := #[true, true, true, false, false, false, false, false, false, false, false, false, false, false, false, false, false, false, false, false, false, false, false, false, false, false, false, false, false, false, false, false, false, false, false, false, false]
abbrev spec_l06Are.z4 : Array Bool := #[true, true, true, true, false, false, false, false, false, false, false, false, false, false, false, false, false, false, false, false, false, false, false, false, false, false, false, false, false, false, false, false, false, false, false, false, false]
abbrev spec_l06Are.z5 : Array Bool := #[true, true, true, true, true, false, false, false, false, false, false, false, false, false, false, false, false, false, false, false, false, false, false, false, false, false, false, false, false, false, false, false, false, false, false, false, false]
abbrev spec_l06Are.z6 : Array Bool := #[true, true, true, true, true, true, false, false, false, false, false, false, false, false, false, false, false, false, false, false, false, false, false, false, false, false, false, false, false, false, false, false, false, false, false, false, false]
abbrev spec_l06Are.z7 : Array Bool := #[true, true, true, true, true, true, true, false, false, false, false, false, false, false, false, false, false, false, false, false, false, false, false, false, false, false, false, false, false, false, false, false, false, false, false, false, false]
abbrev spec_l06Are.z8 : Array Bool := #[true, true, true, true, true, true, true, true, false, false, false, false, false, false, false, false, false, false, false, false, false, false, false, false, false, false, false, false, false, false, false, false, false, false, false, false, false]
abbrev spec_l06Are.z9 : Array Bool := #[true, true, true, true, true, true, true, true, true, false, false, false, false, false, false, false, false, false, false, false, false, false, false, false, false, false, false, false, false, false, false, false, false, false, false, false, false]
abbrev spec_l06Are.z10 : Array Bool := #[true, true, true, true, true, true, true, true, true, true, false, false, false, false, false, false, false, false, false, false, false, false, false, false, false, false, false, false, false, false, false, false, false, false, false, false, false]
abbrev spec_l06Are.z11 : Array Bool := #[true, true, true, true, true, true, true, true, true, true, false, false, true, false, false, false, false, false, false, false, false, false, false, false, false, false, false, false, false, false, false, false, false, false, false, false, false]
abbrev spec_l06Are.z12 : Array Bool := #[true, true, true, true, true, true, true, true, true, true, false, false, true, true, false, false, false, false, false, false, false, false, false, false, false, false, false, false, false, false, false, false, false, false, false, false, false]
abbrev spec_l06Are.z13 : Array Bool := #[true, true, true, true, true, true, true, true, true, true, false, false, true, true, true, false, false, false, false, false, false, false, false, false, false, false, false, false, false, false, false, false, false, false, false, false, false]
abbrev spec_l06Are.z14 : Array Bool := #[true, true, true, true, true, true, true, true, true, true, true, false, true, true, true, false, false, false, false, false, false, false, false, false, false, false, false, false, false, false, false, false, false, false, false, false, false]
abbrev spec_l06Are.z15 : Array Bool := #[true, true, true, true, true, true, true, true, true, true, true, true, true, true, true, false, false, false, false, false, false, false, false, false, false, false, false, false, false, false, false, false, false, false, false, false, false]
abbrev spec_l06Are.z16 : Array Bool := #[true, true, true, true, true, true, true, true, true, true, true, true, true, true, true, true, false, false, false, false, false, false, false, false, false, false, false, false, false, false, false, false, false, false, false, false, false]
abbrev spec_l06Are.z17 : Array Bool := #[true, true, true, true, true, true, true, true, true, true, true, true, true, true, true, true, true, false, false, false, false, false, false, false, false, false, false, false, false, false, false, false, false, false, false, false, false]
abbrev spec_l06Are.z18 : Array Bool := #[true, true, true, true, true, true, true, true, true, true, true, true, true, true, true, true, true, true, false, false, false, false, false, false, false, false, false, false, false, false, false, false, false, false, false, false, false]
abbrev spec_l06Are.z19 : Array Bool := #[true, true, true, true, true, true, true, true, true, true, true, true, true, true, true, true, true, true, true, false, false, false, false, false, false, false, false, false, false, false, false, false, false, false, false, false, false]
abbrev spec_l06Are.z20 : Array Bool := #[true, true, true, true, true, true, true, true, true, true, true, true, true, true, true, true, true, true, true, true, false, false, false, false, false, false, false, false, false, false, false, false, false, false, false, false, false]
abbrev spec_l06Are.z21 : Array Bool := #[true, true, true, true, true, true, true, true, true, true, true, true, true, true, true, true, true, true, true, true, true, false, false, false, false, false, false, false, false, false, false, false, false, false, false, false, false]
abbrev spec_l06Are.z22 : Array Bool := #[true, true, true, true, true, true, true, true, true, true, true, true, true, true, true, true, true, true, true, true, true, true, false, false, false, false, false, false, false, false, false, false, false, false, false, false, false]
abbrev spec_l06Are.z23 : Array Bool := #[true, true, true, true, true, true, true, true, true, true, true, true, true, true, true, true, true, true, true, true, true, true, true, false, false, false, false, false, false, false, false, false, false, false, false, false, false]
abbrev spec_l06Are.z24 : Array Bool := #[true, true, true, true, true, true, true, true, true, true, true, true, true, true, true, true, true, true, true, true, true, true, true, true, false, false, false, false, false, false, false, false, false, false, false, false, false]
abbrev spec_l06Are.z25 : Array Bool := #[true, true, true, true, true, true, true, true, true, true, true, true, true, true, true, true, true, true, true, true, true, true, true, true, true, false, false, false, false, false, false, false, false, false, false, false, false]
abbrev spec_l06Are.z26 : Array Bool := #[true, true, true, true, true, true, true, true, true, true, true, true, true, true, true, true, true, true, true, true, true, true, true, true, true, true, false, false, false, false, false, false, false, false, false, false, false]
abbrev spec_l06Are.z27 : Array Bool := #[true, true, true, true, true, true, true, true, true, true, true, true, true, true, true, true, true, true, true, true, true, true, true, true, true, true, true, false, false, false, false, false, false, false, false, false, false]
abbrev spec_l06Are.z28 : Array Bool := #[true, true, true, true, true, true, true, true, true, true, true, true, true, true, true, true, true, true, true, true, true, true, true, true, true, true, true, false, true, false, false, false, false, false, false, false, false]
abbrev spec_l06Are.z29 : Array Bool := #[true, true, true, true, true, true, true, true, true, true, true, true, true, true, true, true, true, true, true, true, true, true, true, true, true, true, true, false, true, true, false, false, false, false, false, false, false]
abbrev spec_l06Are.z30 : Array Bool := #[true, true, true, true, true, true, true, true, true, true, true, true, true, true, true, true, true, true, true, true, true, true, true, true, true, true, true, false, true, true, true, false, false, false, false, false, false]
abbrev spec_l06Are.z31 : Array Bool := #[true, true, true, true, true, true, true, true, true, true, true, true, true, true, true, true, true, true, true, true, true, true, true, true, true, true, true, false, true, true, true, true, false, false, false, false, false]
abbrev spec_l06Are.z32 : Array Bool := #[true, true, true, true, true, true, true, true, true, true, true, true, true, true, true, true, true, true, true, true, true, true, true, true, true, true, true, false, true, true, true, true, true, false, false, false, false]
abbrev spec_l06Are.z33 : Array Bool := #[true, true, true, true, true, true, true, true, true, true, true, true, true, true, true, true, true, true, true, true, true, true, true, true, true, true, true, true, true, true, true, true, true, false, false, false, false]
abbrev spec_l06Are.z34 : Array Bool := #[true, true, true, true, true, true, true, true, true, true, true, true, true, true, true, true, true, true, true, true, true, true, true, true, true, true, true, true, true, true, true, true, true, true, false, false, false]
abbrev spec_l06Are.z35 : Array Bool := #[true, true, true, true, true, true, true, true, true, true, true, true, true, true, true, true, true, true, true, true, true, true, true, true, true, true, true, true, true, true, true, true, true, true, true, false, false]
abbrev spec_l06Are.z36 : Array Bool := #[true, true, true, true, true, true, true, true, true, true, true, true, true, true, true, true, true, true, true, true, true, true, true, true, true, true, true, true, true, true, true, true, true, true, true, true, false]
abbrev spec_l06Are.z37 : Array Bool := #[true, true, true, true, true, true, true, true, true, true, true, true, true, true, true, true, true, true, true, true, true, true, true, true, true, true, true, true, true, true, true, true, true, true, true, true, true]
abbrev spec_l06Are.z38 : Array Bool := #[true, true, true, true, true, true, true, true, true, true, true, true, true, true, true, true, true, true, true, true, true, true, true, true, true, true, true, true, false, false, false, false, false, false, false, false, false]
abbrev spec_l06Are.z39 : Array Bool := #[true, true, true, true, true, true, true, true, true, true, true, true, true, true, true, true, true, true, true, true, true, true, true, true, true, true, true, true, true, false, false, false, false, false, false, false, false]
abbrev spec_l06Are.z40 : Array Bool := #[true, true, true, true, true, true, true, true, true, true, true, true, true, true, true, true, true, true, true, true, true, true, true, true, true, true, true, true, true, true, false, false, false, false, false, false, false]
abbrev spec_l06Are.z41 : Array Bool := #[true, true, true, true, true, true, true, true, true, true, true, true, true, true, true, true, true, true, true, true, true, true, true, true, true, true, true, true, true, true, true, false, false, false, false, false, false]
abbrev spec_l06Are.z42 : Array Bool := #[true, true, true, true, true, true, true, true, true, true, true, true, true, true, true, true, true, true, true, true, true, true, true, true, true, true, true, true, true, true, true, true, false, false, false, false, false]
abbrev spec_l06Are.z43 : Array Bool := #[true, true, true, true, true, true, true, true, true, true, true, false, false, false, false, false, false, false, false, false, false, false, false, false, false, false, false, false, false, false, false, false, false, false, false, false, false]
abbrev spec_l06Are.z44 : Array Bool := #[true, true, true, true, true, true, true, true, true, true, true, true, false, false, false, false, false, false, false, false, false, false, false, false, false, false, false, false, false, false, false, false, false, false, false, false, false]
abbrev spec_l06Are.z45 : Array Bool := #[true, true, true, true, true, true, true, true, true, true, true, true, true, false, false, false, false, false, false, false, false, false, false, false, false, false, false, false, false, false, false, false, false, false, false, false, false]
abbrev spec_l06Are.z46 : Array Bool := #[true, true, true, true, true, true, true, true, true, true, true, true, true, true, false, false, false, false, false, false, false, false, false, false, false, false, false, false, false, false, false, false, false, false, false, false, false]
mutual
def spec_l06Are.l0 : Nat → List (S138) → Int → Option (Bool)
 | 0, _, _ => none
 | k + 1, x0, x3 => if x3 < (x0.length : Int) then (spec_l06Are.j1 k x0 x3 (decide ((x0.length : Int) ≤ 16))) else (spec_l06Are.j1 k x0 x3 false)
def spec_l06Are.j1 : Nat → List (S138) → Int → Bool → Option (Bool)
 | 0, _, _, _ => none
 | k + 1, x0, x3, x12 => if x12 = true then (if 0 ≤ x3 then (if x3 < (x0.length : Int) then ((spec_l06Sound.f k [rd_T138 x0 x3]).bind fun t205 => (if t205 = true then (if 0 < (x0.length : Int) then (if (((rd_T138 x0 x3).f1).length : Int) = (((rd_T138 x0 0).f1).length : Int) then (if x3 > 0 then (if 0 ≤ (wrap64 (x3 - 1)) then (if (wrap64 (x3 - 1)) < (x0.length : Int) then (if ((Op.bytesLess (((rd_T138 x0 (wrap64 (x3 - 1))).f0).toList) (((rd_T138 x0 x3).f0).toList)) = true) then (spec_l06Are.l0 k x0 (wrap64 (x3 + 1))) else (some false)) else (none)) else (none)) else (spec_l06Are.l0 k x0 (wrap64 (x3 + 1)))) else (some false)) else (none)) else (some false))) else (none)) else (none)) else (some (decide ((x0.length : Int) ≤ 16)))
end
def spec_l06Are.f (k : Nat) (l0 : List (S138)) : Option (Bool) := spec_l06Are.l0 k l0 0
theorem spec_l06Are.mono_l : ∀ k, (∀ y0 y1, LeO (spec_l06Are.l0 k y0 y1) (spec_l06Are.l0 (k + 1) y0 y1)) ∧ (∀ y0 y1 y2, LeO (spec_l06Are.j1 k y0 y1 y2) (spec_l06Are.j1 (k + 1) y0 y1 y2))
 | 0 => ⟨fun _ _ r h => by simp [spec_l06Are.l0] at h, fun _ _ _ r h => by simp [spec_l06Are.j1] at h⟩
 | k + 1 => by
  obtain ⟨ih0, ih1⟩ := spec_l06Are.mono_l k
  refine ⟨?_, ?_⟩
  ·intro y0 y1
   unfold spec_l06Are.l0
   repeat' first
   | (with_reducible exact ih0 _ _)
   | (with_reducible exact ih1 _ _ _)
   | (with_reducible exact spec_l06Sound.mono _ _)
   | (with_reducible exact LeO.refl _)
   | (with_reducible exact LeO.none _)
   | (with_reducible refine LeO.ite ?_ ?_)
   | (with_reducible refine LeO.bind ?_ (fun _ => ?_))
   | exact ih0 _ _
   | exact ih1 _ _ _
   | exact spec_l06Sound.mono _ _
   | exact LeO.none _
   | refine LeO.ite ?_ ?_
   | refine LeO.bind ?_ (fun _ => ?_)
  ·intro y0 y1 y2
   unfold spec_l06Are.j1
   repeat' first
   | (with_reducible exact ih0 _ _)
   | (with_reducible exact ih1 _ _ _)
   | (with_reducible exact spec_l06Sound.mono _ _)
   | (with_reducible exact LeO.refl _)
   | (with_reducible exact LeO.none _)
   | (with_reducible refine LeO.ite ?_ ?_)
   | (with_reducible refine LeO.bind ?_ (fun _ => ?_))
   | exact ih0 _ _
   | exact ih1 _ _ _
   | exact spec_l06Sound.mono _ _
   | exact LeO.none _
   | refine LeO.ite ?_ ?_
   | refine LeO.bind ?_ (fun _ => ?_)
theorem spec_l06Are.mono : ∀ a0 k, LeO (spec_l06Are.f k a0) (spec_l06Are.f (k + 1) a0) := by
 intro a0 k
 obtain ⟨ih0, ih1⟩ := spec_l06Are.mono_l k
 unfold spec_l06Are.f
 repeat' first
   | (with_reducible exact ih0 _ _)
   | (with_reducible exact ih1 _ _ _)
   | (with_reducible exact spec_l06Sound.mono _ _)
   | (with_reducible exact LeO.refl _)
   | (with_reducible exact LeO.none _)
   | (with_reducible refine LeO.ite ?_ ?_)
   | (with_reducible refine LeO.bind ?_ (fun _ => ?_))
   | exact ih0 _ _
   | exact ih1 _ _ _
   | exact spec_l06Sound.mono _ _
   | exact LeO.none _
   | refine LeO.ite ?_ ?_
   | refine LeO.bind ?_ (fun _ => ?_)
def spec_l06Are.T4 : Bool × List (List Nat × List Nat) := (true, [([], []), ([], []), ([0, 1], [0, 1]), ([2], [2]), ([3], [3]), ([4, 3], [4]), ([5], [5]), ([5], [5]), ([6, 7, 5], [5, 6, 7]), ([8, 5], [5, 8]), ([9, 5], [5, 9]), ([10, 5], [5, 10]), ([5], [5]), ([12, 5], [5, 12]), ([13, 5], [5, 13]), ([14, 5], [5, 14]), ([15, 5], [5, 15]), ([11, 16, 5], [5, 11, 16]), ([5, 17], [5, 17]), ([18, 5], [18]), ([19], [19]), ([20, 19], [19, 20]), ([21, 19, 19], [19, 21]), ([22], [22]), ([22], [22]), ([23, 24, 22], [22, 23, 24]), ([25, 22], [22, 25]), ([26, 22], [22, 26]), ([22], [22]), ([22], [22]), ([29, 22], [22, 29]), ([28, 30, 22], [22, 28, 30]), ([31, 22], [22, 31]), ([32, 22], [22, 32]), ([27, 33, 22], [22, 27, 33]), ([22, 34, 19], [19, 22, 34]), ([19, 35], [19, 35])])
def spec_l06Are.B4 : List Nat := [0, 0, 3, 7, 15, 31, 63, 63, 255, 511, 1023, 2047, 63, 4159, 12351, 28735, 61503, 131071, 262143, 524287, 1048575, 2097151, 4194303, 8388607, 8388607, 33554431, 67108863, 134217727, 8388607, 8388607, 545259519, 1887436799, 4034920447, 8329887743, 17179869183, 34359738367, 68719476735]
theorem spec_l06Are.tab4 : rtab .any (opsOf Try.f98 4) = spec_l06Are.T4 := by kernel_rfl
theorem spec_l06Are.bits4 : waitsOk spec_l06Are.T4.2 spec_l06Are.B4 = true := by kernel_rfl
set_option maxHeartbeats 8000000 in
set_option maxRecDepth 100000 in
theorem spec_l06Are.calls (k : Nat) (A0 : Option Addr) (c0 : Nat) (l0 : List (S138)) (r : Bool) (w : World) (hr0 : Kd.C k138 w A0 l0.length l0) (hc0 : l0.length ≤ c0) (h : spec_l06Are.f k l0 = some r) :
  Calls Try.prog 98 #[.slice A0 l0.length c0] w fun e w' => e = .returned (.bool r) ∧ Below w.heap.size w w' := by
 have hu26 := Try.underlying26
 have hu9 := Try.underlying9
 have HR0 := Aside0.mk hr0
 have HC0 := Aside0.mk hc0
 clear hr0 hc0
 have HB := Aside0.mk (Below.refl w.heap.size w)
 have H : (spec_l06Are.l0 k l0 0) = some r := h
 clear h
 have H' := Aside0.mk H
 clear H
 go_enter Try.func98, Try.ntmps98
 go_wp2
 go_loopg [3] k (fun kq v3 w' => ∃ (x3_1 : Int), v3 = .int .i64 x3_1 ∧ Aside0 (spec_l06Are.l0 kq l0 x3_1 = some r) ∧ Aside0 (kq ≤ k) ∧ Aside0 (Below w.heap.size w w'))
 case atStart => exact ⟨(0), (by first | rfl | (simp; done) | (simp [*]; done)), H', ⟨Nat.le_refl _⟩, ⟨by repeat (first | (with_reducible first | exact HB.out | apply below_alloc | apply pw_below_drewN | apply below_drew1) | exact HB.out)⟩⟩
 case round =>
  clear H'
  obtain ⟨x3_1, rfl, HA, HK1, HB⟩ := hrel
  cases gk with
  | zero => exact absurd HA.out (by simp [spec_l06Are.l0])
  | succ k1 =>
   have H := HA.out
   clear HA
   simp only [spec_l06Are.l0] at H
   have HC2 := Aside0.mk H
   clear H
   go_upto_region 2 with (fail)
   go_cut [12] (fun v12 wc => ∃ (kq : Nat) (x12_1 : Bool), v12 = .bool x12_1 ∧ Aside0 (spec_l06Are.j1 kq l0 x3_1 x12_1 = some r) ∧ Aside0 (kq ≤ k1) ∧ Aside0 (Below w.heap.size w wc))
   case first =>
    have H := HC2.out
    clear HC2
    by_cases c3 : x3_1 < (l0.length : Int)
    ·rw [if_pos c3] at H
     have c3b0 : decide (x3_1 < (l0.length : Int)) = true := decide_eq_true c3
     clear c3
     (first | rw [c3b0] | (simp only [i64_w, i32_w]; rw [c3b0]) | skip)
     have H' := Aside0.mk H
     clear H
     go_wp2
     go_meet
     case rel => exact ⟨_, (decide ((l0.length : Int) ≤ 16)), (by first | rfl | (simp; done) | (simp [*]; done)), H', ⟨by have := HK1.out; first | omega | exact Nat.le_refl _⟩, ⟨by repeat (first | (with_reducible first | exact HB.out | apply below_alloc | apply pw_below_drewN | apply below_drew1) | exact HB.out)⟩⟩
    ·rw [if_neg c3] at H
     have c3b0 : decide (x3_1 < (l0.length : Int)) = false := decide_eq_false c3
     clear c3
     (first | rw [c3b0] | (simp only [i64_w, i32_w]; rw [c3b0]) | skip)
     have H' := Aside0.mk H
     clear H
     go_wp2
     go_meet
     case rel => exact ⟨_, (false), (by first | rfl | (simp; done) | (simp [*]; done)), H', ⟨by have := HK1.out; first | omega | exact Nat.le_refl _⟩, ⟨by repeat (first | (with_reducible first | exact HB.out | apply below_alloc | apply pw_below_drewN | apply below_drew1) | exact HB.out)⟩⟩
   case rest =>
    clear HC2
    try clear p2
    try clear c3
    try clear c3b0
    obtain ⟨kq, x12_1, rfl, HA, HJ1, HB⟩ := hcut
    cases kq with
    | zero => exact absurd HA.out (by simp [spec_l06Are.j1])
    | succ kj1 =>
     have H := HA.out
     clear HA
     simp only [spec_l06Are.j1] at H
     by_cases c4 : x12_1 = true
     ·subst c4
      have H1 : (if 0 ≤ x3_1 then (if x3_1 < (l0.length : Int) then ((spec_l06Sound.f kj1 [rd_T138 l0 x3_1]).bind fun t205 => (if t205 = true then (if 0 < (l0.length : Int) then (if (((rd_T138 l0 x3_1).f1).length : Int) = (((rd_T138 l0 0).f1).length : Int) then (if x3_1 > 0 then (if 0 ≤ (wrap64 (x3_1 - 1)) then (if (wrap64 (x3_1 - 1)) < (l0.length : Int) then (if ((Op.bytesLess (((rd_T138 l0 (wrap64 (x3_1 - 1))).f0).toList) (((rd_T138 l0 x3_1).f0).toList)) = true) then (spec_l06Are.l0 kj1 l0 (wrap64 (x3_1 + 1))) else (some false)) else (none)) else (none)) else (spec_l06Are.l0 kj1 l0 (wrap64 (x3_1 + 1)))) else (some false)) else (none)) else (some false))) else (none)) else (none)) = some r := by rw [if_pos rfl] at H; exact H
      clear H
      have H := H1
      clear H1
      by_cases c5 : 0 ≤ x3_1
      ·rw [if_pos c5] at H
       have c5b0 : decide (0 ≤ x3_1) = true := decide_eq_true c5
       clear c5
       by_cases c6 : x3_1 < (l0.length : Int)
       ·rw [if_pos c6] at H
        have c6b0 : decide (x3_1 < (l0.length : Int)) = true := decide_eq_true c6
        clear c6
        replace H := Option.bind_eq_some_iff.mp H
        obtain ⟨t205, A70, H⟩ := H
        replace H : (if t205 = true then (if 0 < (l0.length : Int) then (if (((rd_T138 l0 x3_1).f1).length : Int) = (((rd_T138 l0 0).f1).length : Int) then (if x3_1 > 0 then (if 0 ≤ (wrap64 (x3_1 - 1)) then (if (wrap64 (x3_1 - 1)) < (l0.length : Int) then (if ((Op.bytesLess (((rd_T138 l0 (wrap64 (x3_1 - 1))).f0).toList) (((rd_T138 l0 x3_1).f0).toList)) = true) then (spec_l06Are.l0 kj1 l0 (wrap64 (x3_1 + 1))) else (some false)) else (none)) else (none)) else (spec_l06Are.l0 kj1 l0 (wrap64 (x3_1 + 1)))) else (some false)) else (none)) else (some false)) = some r := H
        have A7 := Aside0.mk A70
        clear A70
        by_cases c8 : t205 = true
        ·subst c8
         have H1 : (if 0 < (l0.length : Int) then (if (((rd_T138 l0 x3_1).f1).length : Int) = (((rd_T138 l0 0).f1).length : Int) then (if x3_1 > 0 then (if 0 ≤ (wrap64 (x3_1 - 1)) then (if (wrap64 (x3_1 - 1)) < (l0.length : Int) then (if ((Op.bytesLess (((rd_T138 l0 (wrap64 (x3_1 - 1))).f0).toList) (((rd_T138 l0 x3_1).f0).toList)) = true) then (spec_l06Are.l0 kj1 l0 (wrap64 (x3_1 + 1))) else (some false)) else (none)) else (none)) else (spec_l06Are.l0 kj1 l0 (wrap64 (x3_1 + 1)))) else (some false)) else (none)) = some r := by rw [if_pos rfl] at H; exact H
         clear H
         have H := H1
         clear H1
         by_cases c9 : 0 < (l0.length : Int)
         ·rw [if_pos c9] at H
          have c9b0 : decide (0 < (l0.length : Int)) = true := decide_eq_true c9
          have c9b1 : decide (0 < l0.length) = true := decide_eq_true (by omega)
          clear c9
          by_cases c10 : (((rd_T138 l0 x3_1).f1).length : Int) = (((rd_T138 l0 0).f1).length : Int)
          ·rw [if_pos c10] at H
           have c10b0 : ((((rd_T138 l0 x3_1).f1).length : Int) == (((rd_T138 l0 0).f1).length : Int)) = true := beq_iff_eq.mpr c10
           have c10b1 : ((((rd_T138 l0 x3_1).f1).length : Int) != (((rd_T138 l0 0).f1).length : Int)) = false := bne_eq_false_iff_eq.mpr c10
           have c10b2 : (((rd_T138 l0 x3_1).f1).length == ((rd_T138 l0 0).f1).length) = true := by first | simpa using c10 | (simp at c10 ⊢; omega)
           clear c10
           by_cases c11 : x3_1 > 0
           ·rw [if_pos c11] at H
            have c11b0 : decide (0 < x3_1) = true := decide_eq_true c11
            clear c11
            obtain ⟨ji12, hji12⟩ : ∃ j_ : Int, (wrap64 (x3_1 - 1)) = j_ := ⟨_, rfl⟩
            replace H : (if 0 ≤ (ji12) then (if (ji12) < (l0.length : Int) then (if ((Op.bytesLess (((rd_T138 l0 (ji12)).f0).toList) (((rd_T138 l0 x3_1).f0).toList)) = true) then (spec_l06Are.l0 kj1 l0 (wrap64 (x3_1 + 1))) else (some false)) else (none)) else (none)) = some r := by first | (rw [hji12] at H; exact H) | (simp only [hji12] at H ⊢; exact H)
            (try rw [hji12] at A7)
            have hji12w : (IntKind.i64.wrap (x3_1 - 1)) = ji12 := (i64_w _).trans hji12
            by_cases c13 : 0 ≤ (ji12)
            ·rw [if_pos c13] at H
             have c13b0 : decide (0 ≤ (ji12)) = true := decide_eq_true c13
             clear c13
             by_cases c14 : (ji12) < (l0.length : Int)
             ·rw [if_pos c14] at H
              have c14b0 : decide ((ji12) < (l0.length : Int)) = true := decide_eq_true c14
              clear c14
              by_cases c15 : ((Op.bytesLess (((rd_T138 l0 (ji12)).f0).toList) (((rd_T138 l0 x3_1).f0).toList)) = true)
              ·rw [if_pos c15] at H
               have c15b0 : (Op.bytesLess (((rd_T138 l0 (ji12)).f0).toList) (((rd_T138 l0 x3_1).f0).toList)) = true := c15
               clear c15
               have H' := Aside0.mk H
               clear H
               try go_wp2
               have n0_ := Aside0.mk (below_drew1 HB.out)
               clear HB
               have HB := n0_
               clear n0_
               have p204 : 0 ≤ (x3_1 : Int) := of_decide_eq_true (by first | (with_reducible assumption) | assumption)
               have q204 : x3_1 < (l0.length : Int) := of_decide_eq_true (by first | (with_reducible assumption) | assumption)
               obtain ⟨ad204, A204_1, c204_1, e204, hx204_0, hx204_1, hx204_2, hx204_3, hx204_4, hx204_5, hl204_1, hi204_1⟩ := at_T138 HR0.out x3_1 p204 q204
               have hw204_5 := hx204_5
               have hw204_4 := hx204_4
               have hw204_3 := hx204_3
               have hw204_2 := hx204_2
               have hw204_1 := hx204_1
               have hw204_0 := hx204_0
               cases e204
               replace hx204_0 := (HB.out.cell (World.block_lt_of_cell? w _ hx204_0)).trans hx204_0
               replace hx204_1 := (HB.out.cell (World.block_lt_of_cell? w _ hx204_1)).trans hx204_1
               replace hx204_2 := (HB.out.cell (World.block_lt_of_cell? w _ hx204_2)).trans hx204_2
               replace hx204_3 := (HB.out.cell (World.block_lt_of_cell? w _ hx204_3)).trans hx204_3
               replace hx204_4 := (HB.out.cell (World.block_lt_of_cell? w _ hx204_4)).trans hx204_4
               replace hx204_5 := (HB.out.cell (World.block_lt_of_cell? w _ hx204_5)).trans hx204_5
               have HR204_1 := Aside0.mk hi204_1
               have HC204_1 := Aside0.mk hl204_1
               clear hi204_1 hl204_1
               replace p204 := eq_true p204
               replace q204 := eq_true q204
               have p206 : 0 ≤ (x3_1 : Int) := of_decide_eq_true (by first | (with_reducible assumption) | assumption)
               have q206 : x3_1 < (l0.length : Int) := of_decide_eq_true (by first | (with_reducible assumption) | assumption)
               obtain ⟨ad206, A206_1, c206_1, e206, hx206_0, hx206_1, hx206_2, hx206_3, hx206_4, hx206_5, hl206_1, hi206_1⟩ := at_T138 HR0.out x3_1 p206 q206
               have hw206_5 := hx206_5
               have hw206_4 := hx206_4
               have hw206_3 := hx206_3
               have hw206_2 := hx206_2
               have hw206_1 := hx206_1
               have hw206_0 := hx206_0
               obtain rfl : ad204 = ad206 := (by injection e206)
               replace hx206_0 := (HB.out.cell (World.block_lt_of_cell? w _ hx206_0)).trans hx206_0
               replace hx206_1 := (HB.out.cell (World.block_lt_of_cell? w _ hx206_1)).trans hx206_1
               replace hx206_2 := (HB.out.cell (World.block_lt_of_cell? w _ hx206_2)).trans hx206_2
               replace hx206_3 := (HB.out.cell (World.block_lt_of_cell? w _ hx206_3)).trans hx206_3
               replace hx206_4 := (HB.out.cell (World.block_lt_of_cell? w _ hx206_4)).trans hx206_4
               replace hx206_5 := (HB.out.cell (World.block_lt_of_cell? w _ hx206_5)).trans hx206_5
               have HR206_1 := Aside0.mk hi206_1
               have HC206_1 := Aside0.mk hl206_1
               clear hi206_1 hl206_1
               replace p206 := eq_true p206
               replace q206 := eq_true q206
               have ea_ := Option.some.inj (hx204_1.symm.trans hx206_1)
               injection ea_ with ea_ en_ ec_
               subst ea_
               subst ec_
               clear en_
               have p207 : 0 ≤ (0 : Int) := (by omega)
               have q207 : 0 < (l0.length : Int) := of_decide_eq_true (by first | (with_reducible assumption) | assumption)
               obtain ⟨ad207, A207_1, c207_1, e207, hx207_0, hx207_1, hx207_2, hx207_3, hx207_4, hx207_5, hl207_1, hi207_1⟩ := at_T138 HR0.out 0 p207 q207
               have hw207_5 := hx207_5
               (try rw [show ((0 : Int)).toNat = 0 from rfl] at hw207_5)
               (try rw [show 0 * 6 = 0 from rfl] at hw207_5)
               (try rw [Addr.add_zero'] at hw207_5)
               have hw207_4 := hx207_4
               (try rw [show ((0 : Int)).toNat = 0 from rfl] at hw207_4)
               (try rw [show 0 * 6 = 0 from rfl] at hw207_4)
               (try rw [Addr.add_zero'] at hw207_4)
               have hw207_3 := hx207_3
               (try rw [show ((0 : Int)).toNat = 0 from rfl] at hw207_3)
               (try rw [show 0 * 6 = 0 from rfl] at hw207_3)
               (try rw [Addr.add_zero'] at hw207_3)
               have hw207_2 := hx207_2
               (try rw [show ((0 : Int)).toNat = 0 from rfl] at hw207_2)
               (try rw [show 0 * 6 = 0 from rfl] at hw207_2)
               (try rw [Addr.add_zero'] at hw207_2)
               have hw207_1 := hx207_1
               (try rw [show ((0 : Int)).toNat = 0 from rfl] at hw207_1)
               (try rw [show 0 * 6 = 0 from rfl] at hw207_1)
               (try rw [Addr.add_zero'] at hw207_1)
               have hw207_0 := hx207_0
               (try rw [show ((0 : Int)).toNat = 0 from rfl] at hw207_0)
               (try rw [show 0 * 6 = 0 from rfl] at hw207_0)
               (try rw [Addr.add_zero'] at hw207_0)
               obtain rfl : ad204 = ad207 := (by injection e207)
               have qi207 : (0 < l0.length) = True := eq_true (by omega)
               (try rw [show ((0 : Int)).toNat = 0 from rfl] at hx207_0)
               (try rw [show 0 * 6 = 0 from rfl] at hx207_0)
               (try rw [Addr.add_zero'] at hx207_0)
               (try rw [show ((0 : Int)).toNat = 0 from rfl] at hx207_1)
               (try rw [show 0 * 6 = 0 from rfl] at hx207_1)
               (try rw [Addr.add_zero'] at hx207_1)
               (try rw [show ((0 : Int)).toNat = 0 from rfl] at hx207_2)
               (try rw [show 0 * 6 = 0 from rfl] at hx207_2)
               (try rw [Addr.add_zero'] at hx207_2)
               (try rw [show ((0 : Int)).toNat = 0 from rfl] at hx207_3)
               (try rw [show 0 * 6 = 0 from rfl] at hx207_3)
               (try rw [Addr.add_zero'] at hx207_3)
               (try rw [show ((0 : Int)).toNat = 0 from rfl] at hx207_4)
               (try rw [show 0 * 6 = 0 from rfl] at hx207_4)
               (try rw [Addr.add_zero'] at hx207_4)
               (try rw [show ((0 : Int)).toNat = 0 from rfl] at hx207_5)
               (try rw [show 0 * 6 = 0 from rfl] at hx207_5)
               (try rw [Addr.add_zero'] at hx207_5)
               replace hx207_0 := (HB.out.cell (World.block_lt_of_cell? w _ hx207_0)).trans hx207_0
               replace hx207_1 := (HB.out.cell (World.block_lt_of_cell? w _ hx207_1)).trans hx207_1
               replace hx207_2 := (HB.out.cell (World.block_lt_of_cell? w _ hx207_2)).trans hx207_2
               replace hx207_3 := (HB.out.cell (World.block_lt_of_cell? w _ hx207_3)).trans hx207_3
               replace hx207_4 := (HB.out.cell (World.block_lt_of_cell? w _ hx207_4)).trans hx207_4
               replace hx207_5 := (HB.out.cell (World.block_lt_of_cell? w _ hx207_5)).trans hx207_5
               have HR207_1 := Aside0.mk hi207_1
               have HC207_1 := Aside0.mk hl207_1
               clear hi207_1 hl207_1
               replace p207 := eq_true p207
               replace q207 := eq_true q207
               have p208 : 0 ≤ (x3_1 : Int) := of_decide_eq_true (by first | (with_reducible assumption) | assumption)
               have q208 : x3_1 < (l0.length : Int) := of_decide_eq_true (by first | (with_reducible assumption) | assumption)
               obtain ⟨ad208, A208_1, c208_1, e208, hx208_0, hx208_1, hx208_2, hx208_3, hx208_4, hx208_5, hl208_1, hi208_1⟩ := at_T138 HR0.out x3_1 p208 q208
               have hw208_5 := hx208_5
               have hw208_4 := hx208_4
               have hw208_3 := hx208_3
               have hw208_2 := hx208_2
               have hw208_1 := hx208_1
               have hw208_0 := hx208_0
               obtain rfl : ad204 = ad208 := (by injection e208)
               replace hx208_0 := (HB.out.cell (World.block_lt_of_cell? w _ hx208_0)).trans hx208_0
               replace hx208_1 := (HB.out.cell (World.block_lt_of_cell? w _ hx208_1)).trans hx208_1
               replace hx208_2 := (HB.out.cell (World.block_lt_of_cell? w _ hx208_2)).trans hx208_2
               replace hx208_3 := (HB.out.cell (World.block_lt_of_cell? w _ hx208_3)).trans hx208_3
               replace hx208_4 := (HB.out.cell (World.block_lt_of_cell? w _ hx208_4)).trans hx208_4
               replace hx208_5 := (HB.out.cell (World.block_lt_of_cell? w _ hx208_5)).trans hx208_5
               have HR208_1 := Aside0.mk hi208_1
               have HC208_1 := Aside0.mk hl208_1
               clear hi208_1 hl208_1
               replace p208 := eq_true p208
               replace q208 := eq_true q208
               have ea_ := Option.some.inj (hx204_1.symm.trans hx208_1)
               injection ea_ with ea_ en_ ec_
               subst ea_
               subst ec_
               clear en_
               have p209 : 0 ≤ ((ji12) : Int) := of_decide_eq_true (by first | (with_reducible assumption) | assumption)
               have q209 : (ji12) < (l0.length : Int) := of_decide_eq_true (by first | (with_reducible assumption) | assumption)
               obtain ⟨ad209, A209_1, c209_1, e209, hx209_0, hx209_1, hx209_2, hx209_3, hx209_4, hx209_5, hl209_1, hi209_1⟩ := at_T138 HR0.out (ji12) p209 q209
               have hw209_5 := hx209_5
               have hw209_4 := hx209_4
               have hw209_3 := hx209_3
               have hw209_2 := hx209_2
               have hw209_1 := hx209_1
               have hw209_0 := hx209_0
               obtain rfl : ad204 = ad209 := (by injection e209)
               replace hx209_0 := (HB.out.cell (World.block_lt_of_cell? w _ hx209_0)).trans hx209_0
               replace hx209_1 := (HB.out.cell (World.block_lt_of_cell? w _ hx209_1)).trans hx209_1
               replace hx209_2 := (HB.out.cell (World.block_lt_of_cell? w _ hx209_2)).trans hx209_2
               replace hx209_3 := (HB.out.cell (World.block_lt_of_cell? w _ hx209_3)).trans hx209_3
               replace hx209_4 := (HB.out.cell (World.block_lt_of_cell? w _ hx209_4)).trans hx209_4
               replace hx209_5 := (HB.out.cell (World.block_lt_of_cell? w _ hx209_5)).trans hx209_5
               have HR209_1 := Aside0.mk hi209_1
               have HC209_1 := Aside0.mk hl209_1
               clear hi209_1 hl209_1
               replace p209 := eq_true p209
               replace q209 := eq_true q209
               refine start_ (n := 37) (S := fun w' => w'.cell? (ad204.add ((x3_1).toNat * 6)) = some (.string ((rd_T138 l0 x3_1).f0)) ∧ w'.cell? ⟨(ad204.add ((x3_1).toNat * 6)).block, (ad204.add ((x3_1).toNat * 6)).off + 1, none⟩ = some (.slice A204_1 ((rd_T138 l0 x3_1).f1).length c204_1) ∧ w'.cell? ⟨(ad204.add ((x3_1).toNat * 6)).block, (ad204.add ((x3_1).toNat * 6)).off + 2, none⟩ = some (.float .f32 ((rd_T138 l0 x3_1).f2)) ∧ w'.cell? ⟨(ad204.add ((x3_1).toNat * 6)).block, (ad204.add ((x3_1).toNat * 6)).off + 3, none⟩ = some (.float .f32 ((rd_T138 l0 x3_1).f3)) ∧ w'.cell? ⟨(ad204.add ((x3_1).toNat * 6)).block, (ad204.add ((x3_1).toNat * 6)).off + 4, none⟩ = some (.float .f32 ((rd_T138 l0 x3_1).f4)) ∧ w'.cell? ⟨(ad204.add ((x3_1).toNat * 6)).block, (ad204.add ((x3_1).toNat * 6)).off + 5, none⟩ = some (.float .f32 ((rd_T138 l0 x3_1).f5)) ∧ w'.cell? (ad204.add ((x3_1).toNat * 6)) = some (.string ((rd_T138 l0 x3_1).f0)) ∧ w'.cell? ⟨(ad204.add ((x3_1).toNat * 6)).block, (ad204.add ((x3_1).toNat * 6)).off + 1, none⟩ = some (.slice A204_1 ((rd_T138 l0 x3_1).f1).length c204_1) ∧ w'.cell? ⟨(ad204.add ((x3_1).toNat * 6)).block, (ad204.add ((x3_1).toNat * 6)).off + 2, none⟩ = some (.float .f32 ((rd_T138 l0 x3_1).f2)) ∧ w'.cell? ⟨(ad204.add ((x3_1).toNat * 6)).block, (ad204.add ((x3_1).toNat * 6)).off + 3, none⟩ = some (.float .f32 ((rd_T138 l0 x3_1).f3)) ∧ w'.cell? ⟨(ad204.add ((x3_1).toNat * 6)).block, (ad204.add ((x3_1).toNat * 6)).off + 4, none⟩ = some (.float .f32 ((rd_T138 l0 x3_1).f4)) ∧ w'.cell? ⟨(ad204.add ((x3_1).toNat * 6)).block, (ad204.add ((x3_1).toNat * 6)).off + 5, none⟩ = some (.float .f32 ((rd_T138 l0 x3_1).f5)) ∧ w'.cell? ad204 = some (.string ((rd_T138 l0 0).f0)) ∧ w'.cell? ⟨ad204.block, ad204.off + 1, none⟩ = some (.slice A207_1 ((rd_T138 l0 0).f1).length c207_1) ∧ w'.cell? ⟨ad204.block, ad204.off + 2, none⟩ = some (.float .f32 ((rd_T138 l0 0).f2)) ∧ w'.cell? ⟨ad204.block, ad204.off + 3, none⟩ = some (.float .f32 ((rd_T138 l0 0).f3)) ∧ w'.cell? ⟨ad204.block, ad204.off + 4, none⟩ = some (.float .f32 ((rd_T138 l0 0).f4)) ∧ w'.cell? ⟨ad204.block, ad204.off + 5, none⟩ = some (.float .f32 ((rd_T138 l0 0).f5)) ∧ w'.cell? (ad204.add ((x3_1).toNat * 6)) = some (.string ((rd_T138 l0 x3_1).f0)) ∧ w'.cell? ⟨(ad204.add ((x3_1).toNat * 6)).block, (ad204.add ((x3_1).toNat * 6)).off + 1, none⟩ = some (.slice A204_1 ((rd_T138 l0 x3_1).f1).length c204_1) ∧ w'.cell? ⟨(ad204.add ((x3_1).toNat * 6)).block, (ad204.add ((x3_1).toNat * 6)).off + 2, none⟩ = some (.float .f32 ((rd_T138 l0 x3_1).f2)) ∧ w'.cell? ⟨(ad204.add ((x3_1).toNat * 6)).block, (ad204.add ((x3_1).toNat * 6)).off + 3, none⟩ = some (.float .f32 ((rd_T138 l0 x3_1).f3)) ∧ w'.cell? ⟨(ad204.add ((x3_1).toNat * 6)).block, (ad204.add ((x3_1).toNat * 6)).off + 4, none⟩ = some (.float .f32 ((rd_T138 l0 x3_1).f4)) ∧ w'.cell? ⟨(ad204.add ((x3_1).toNat * 6)).block, (ad204.add ((x3_1).toNat * 6)).off + 5, none⟩ = some (.float .f32 ((rd_T138 l0 x3_1).f5)) ∧ w'.cell? (ad204.add (((ji12)).toNat * 6)) = some (.string ((rd_T138 l0 (ji12)).f0)) ∧ w'.cell? ⟨(ad204.add (((ji12)).toNat * 6)).block, (ad204.add (((ji12)).toNat * 6)).off + 1, none⟩ = some (.slice A209_1 ((rd_T138 l0 (ji12)).f1).length c209_1) ∧ w'.cell? ⟨(ad204.add (((ji12)).toNat * 6)).block, (ad204.add (((ji12)).toNat * 6)).off + 2, none⟩ = some (.float .f32 ((rd_T138 l0 (ji12)).f2)) ∧ w'.cell? ⟨(ad204.add (((ji12)).toNat * 6)).block, (ad204.add (((ji12)).toNat * 6)).off + 3, none⟩ = some (.float .f32 ((rd_T138 l0 (ji12)).f3)) ∧ w'.cell? ⟨(ad204.add (((ji12)).toNat * 6)).block, (ad204.add (((ji12)).toNat * 6)).off + 4, none⟩ = some (.float .f32 ((rd_T138 l0 (ji12)).f4)) ∧ w'.cell? ⟨(ad204.add (((ji12)).toNat * 6)).block, (ad204.add (((ji12)).toNat * 6)).off + 5, none⟩ = some (.float .f32 ((rd_T138 l0 (ji12)).f5))) (ds := []) spec_l06Are.z0 (by kernel_rfl) rfl rfl ⟨(cu_ HB.out hw204_0), (cu_ HB.out hw204_1), (cu_ HB.out hw204_2), (cu_ HB.out hw204_3), (cu_ HB.out hw204_4), (cu_ HB.out hw204_5), (cu_ HB.out hw206_0), (cu_ HB.out hw206_1), (cu_ HB.out hw206_2), (cu_ HB.out hw206_3), (cu_ HB.out hw206_4), (cu_ HB.out hw206_5), (cu_ HB.out hw207_0), (cu_ HB.out hw207_1), (cu_ HB.out hw207_2), (cu_ HB.out hw207_3), (cu_ HB.out hw207_4), (cu_ HB.out hw207_5), (cu_ HB.out hw208_0), (cu_ HB.out hw208_1), (cu_ HB.out hw208_2), (cu_ HB.out hw208_3), (cu_ HB.out hw208_4), (cu_ HB.out hw208_5), (cu_ HB.out hw209_0), (cu_ HB.out hw209_1), (cu_ HB.out hw209_2), (cu_ HB.out hw209_3), (cu_ HB.out hw209_4), (cu_ HB.out hw209_5)⟩ (fun hHeld => ?_); refine with_tabW spec_l06Are.tab4 spec_l06Are.bits4 (fun HT_ HW_ => ?_)
               generalize wc.drew = w16 at HB HR204_1 HR206_1 HR207_1 HR208_1 HR209_1 hx204_0 hx204_1 hx204_2 hx204_3 hx204_4 hx204_5 hx206_0 hx206_1 hx206_2 hx206_3 hx206_4 hx206_5 hx207_0 hx207_1 hx207_2 hx207_3 hx207_4 hx207_5 hx208_0 hx208_1 hx208_2 hx208_3 hx208_4 hx208_5 hx209_0 hx209_1 hx209_2 hx209_3 hx209_4 hx209_5 hHeld ⊢
               refine pure_ (i := 0) (N := some 15) (v := ?_) (a' := ?_) spec_l06Are.z1 rfl rfl (any_of HT_.out (by kernel_rfl)) (fun _ _ _ h => h) (Or.inl ⟨by rfl, ?_⟩) ?_ ?_
               pv_
               refine pure_ (i := 1) (N := some 16) (v := ?_) (a' := ?_) spec_l06Are.z2 rfl rfl (any_of HT_.out (by kernel_rfl)) (fun _ _ _ h => h) (Or.inl ⟨by rfl, ?_⟩) ?_ ?_
               pv_
               refine pure_ (i := 2) (N := some 17) (v := ?_) (a' := ?_) spec_l06Are.z3 rfl rfl (any_of HT_.out (by kernel_rfl)) (fun _ _ _ h => h) (Or.inl ⟨by rfl, ?_⟩) ?_ ?_
               pv_
               refine one_ (i := 3) (N := some 18) spec_l06Are.z4 rfl rfl (one_of HT_.out (by kernel_rfl)) (by decide) (fun K hK => ?_)
               refine goes_ Try.func166 (by kernel_rfl) rfl #[.pointer (some (Addr.add ad204 ((x3_1 : Int).toNat * 6)))] (by rfl) rfl rfl (by (try simp only [List.map_toArray, List.map_cons, List.map_nil]); first | done | rfl | (simp only [List.length_drop, List.length_take]; rfl)) ?_
               with_reducible refine (spec_l06Sound.calls kj1 _ [rd_T138 l0 x3_1] true _ ?side1 A7.out).mono ?_
               (case side1 => refine Kd.C_sub (z := z138) ?_ x3_1 (of_eq_true p204) (by first | exact of_eq_true q204 | omega); repeat (first | exact (Kd.C_below HR0.out HB.out) | (with_reducible refine Kd.C_alloc ?_ _) | (with_reducible refine Kd.C_drewN ?_ _) | (with_reducible refine Kd.C_drew ?_)))
               rintro e w' ⟨rfl, ⟨nd, rfl⟩⟩
               refine ⟨_, rfl, ?_⟩
               refine hK.out _ _ ⟨(cu_ HB.out hw204_0), (cu_ HB.out hw204_1), (cu_ HB.out hw204_2), (cu_ HB.out hw204_3), (cu_ HB.out hw204_4), (cu_ HB.out hw204_5), (cu_ HB.out hw206_0), (cu_ HB.out hw206_1), (cu_ HB.out hw206_2), (cu_ HB.out hw206_3), (cu_ HB.out hw206_4), (cu_ HB.out hw206_5), (cu_ HB.out hw207_0), (cu_ HB.out hw207_1), (cu_ HB.out hw207_2), (cu_ HB.out hw207_3), (cu_ HB.out hw207_4), (cu_ HB.out hw207_5), (cu_ HB.out hw208_0), (cu_ HB.out hw208_1), (cu_ HB.out hw208_2), (cu_ HB.out hw208_3), (cu_ HB.out hw208_4), (cu_ HB.out hw208_5), (cu_ HB.out hw209_0), (cu_ HB.out hw209_1), (cu_ HB.out hw209_2), (cu_ HB.out hw209_3), (cu_ HB.out hw209_4), (cu_ HB.out hw209_5)⟩ (fun hHeld => ?_)
               clear hK K
               refine norm_ (a' := ?_) ?_ ?_
               rotate_left
               ·show Act.put _ (some 18) _ = _
                pw_
               refine pure_ (i := 4) (N := some 19) (v := ?_) (a' := ?_) spec_l06Are.z5 rfl rfl (any_of HT_.out (by kernel_rfl)) (fun _ _ _ h => h) (Or.inl ⟨by rfl, ?_⟩) ?_ ?_
               pv_
               refine pure_ (i := 5) (N := some 20) (v := ?_) (a' := ?_) spec_l06Are.z6 rfl rfl (any_of HT_.out (by kernel_rfl)) (fun _ _ _ h => h) (Or.inl ⟨by rfl, ?_⟩) ?_ ?_
               pv_
               refine pure_ (i := 6) (N := some 21) (v := ?_) (a' := ?_) spec_l06Are.z7 rfl rfl (any_of HT_.out (by kernel_rfl)) (fun _ _ _ h => h) (Or.inl ⟨by rfl, ?_⟩) ?_ ?_
               pv_
               refine pure_ (i := 7) (N := some 22) (v := ?_) (a' := ?_) spec_l06Are.z8 rfl rfl (any_of HT_.out (by kernel_rfl)) (fun _ _ _ h => h) (Or.inl ⟨by rfl, ?_⟩) ?_ ?_
               pv_
               refine pure_ (i := 8) (N := some 23) (v := ?_) (a' := ?_) spec_l06Are.z9 rfl rfl (any_of HT_.out (by kernel_rfl)) (fun _ _ _ h => h) (Or.inl ⟨by rfl, ?_⟩) ?_ ?_
               pv_
               refine pure_ (i := 9) (N := some 24) (v := ?_) (a' := ?_) spec_l06Are.z10 rfl rfl (any_of HT_.out (by kernel_rfl)) (fun _ _ _ h => h) (Or.inl ⟨by rfl, ?_⟩) ?_ ?_
               pv_
               refine pure_ (i := 12) (N := some 27) (v := ?_) (a' := ?_) spec_l06Are.z11 rfl rfl (any_of HT_.out (by kernel_rfl)) (fun _ _ _ h => h) (Or.inl ⟨by rfl, ?_⟩) ?_ ?_
               pv_
               refine pure_ (i := 13) (N := some 28) (v := ?_) (a' := ?_) spec_l06Are.z12 rfl rfl (any_of HT_.out (by kernel_rfl)) (fun _ _ _ h => h) (Or.inl ⟨by rfl, ?_⟩) ?_ ?_
               pv_
               refine pure_ (i := 14) (N := some 29) (v := ?_) (a' := ?_) spec_l06Are.z13 rfl rfl (any_of HT_.out (by kernel_rfl)) (fun _ _ _ h => h) (Or.inl ⟨by rfl, ?_⟩) ?_ ?_
               pv_
               refine take_ (i := 10) (N := some 25) (v := ?_) (a' := ?_) spec_l06Are.z14 rfl rfl (take_ofW HT_.out HW_.out (by kernel_rfl)) (fun _ _ _ h => h) (Or.inl ⟨by rfl, ?_⟩) hHeld ?_ ?_
               rotate_left
               ·rintro w' ⟨s0, s1, s2, s3, s4, s5, s6, s7, s8, s9, s10, s11, s12, s13, s14, s15, s16, s17, s18, s19, s20, s21, s22, s23, s24, s25, s26, s27, s28, s29⟩
                go_simp
                with_reducible rfl
               rotate_left
               ·pw_
               refine pure_ (i := 11) (N := some 26) (v := ?_) (a' := ?_) spec_l06Are.z15 rfl rfl (any_of HT_.out (by kernel_rfl)) (fun _ _ _ h => h) (Or.inl ⟨by rfl, ?_⟩) ?_ ?_
               pv_
               refine take_ (i := 15) (N := some 30) (v := ?_) (a' := ?_) spec_l06Are.z16 rfl rfl (take_ofW HT_.out HW_.out (by kernel_rfl)) (fun _ _ _ h => h) (Or.inl ⟨by rfl, ?_⟩) hHeld ?_ ?_
               rotate_left
               ·rintro w' ⟨s0, s1, s2, s3, s4, s5, s6, s7, s8, s9, s10, s11, s12, s13, s14, s15, s16, s17, s18, s19, s20, s21, s22, s23, s24, s25, s26, s27, s28, s29⟩
                go_simp
                with_reducible rfl
               rotate_left
               ·pw_
               refine pure_ (i := 16) (N := some 31) (v := ?_) (a' := ?_) spec_l06Are.z17 rfl rfl (any_of HT_.out (by kernel_rfl)) (fun _ _ _ h => h) (Or.inl ⟨by rfl, ?_⟩) ?_ ?_
               pv_
               refine pure_ (i := 17) (N := some 32) (v := ?_) (a' := ?_) spec_l06Are.z18 rfl rfl (any_of HT_.out (by kernel_rfl)) (fun _ _ _ h => h) (Or.inl ⟨by rfl, ?_⟩) ?_ ?_
               pv_
               refine pure_ (i := 18) (N := some 33) (v := ?_) (a' := ?_) spec_l06Are.z19 rfl rfl (any_of HT_.out (by kernel_rfl)) (fun _ _ _ h => h) (Or.inl ⟨by rfl, ?_⟩) ?_ ?_
               pv_
               refine pure_ (i := 19) (N := some 34) (v := ?_) (a' := ?_) spec_l06Are.z20 rfl rfl (any_of HT_.out (by kernel_rfl)) (fun _ _ _ h => h) (Or.inl ⟨by rfl, ?_⟩) ?_ ?_
               pv_
               refine pure_ (i := 20) (N := some 35) (v := ?_) (a' := ?_) spec_l06Are.z21 rfl rfl (any_of HT_.out (by kernel_rfl)) (fun _ _ _ h => h) (Or.inl ⟨by rfl, ?_⟩) ?_ ?_
               pv_
               refine pure_ (i := 21) (N := some 36) (v := ?_) (a' := ?_) spec_l06Are.z22 rfl rfl (any_of HT_.out (by kernel_rfl)) (fun _ _ _ h => h) (Or.inl ⟨by rfl, ?_⟩) ?_ ?_
               pv_
               refine pure_ (i := 22) (N := some 37) (v := ?_) (a' := ?_) spec_l06Are.z23 rfl rfl (any_of HT_.out (by kernel_rfl)) (fun _ _ _ h => h) (Or.inl ⟨by rfl, ?_⟩) ?_ ?_
               pv_
               refine pure_ (i := 23) (N := some 38) (v := ?_) (a' := ?_) spec_l06Are.z24 rfl rfl (any_of HT_.out (by kernel_rfl)) (fun _ _ _ h => h) (Or.inl ⟨by rfl, ?_⟩) ?_ ?_
               pv_
               refine pure_ (i := 24) (N := some 39) (v := ?_) (a' := ?_) spec_l06Are.z25 rfl rfl (any_of HT_.out (by kernel_rfl)) (fun _ _ _ h => h) (Or.inl ⟨by rfl, ?_⟩) ?_ ?_
               pv_
               refine pure_ (i := 25) (N := some 40) (v := ?_) (a' := ?_) spec_l06Are.z26 rfl rfl (any_of HT_.out (by kernel_rfl)) (fun _ _ _ h => h) (Or.inl ⟨by rfl, ?_⟩) ?_ ?_
               pv_
               refine pure_ (i := 26) (N := some 41) (v := ?_) (a' := ?_) spec_l06Are.z27 rfl rfl (any_of HT_.out (by kernel_rfl)) (fun _ _ _ h => h) (Or.inl ⟨by rfl, ?_⟩) ?_ ?_
               pv_
               refine pure_ (i := 28) (N := some 43) (v := ?_) (a' := ?_) spec_l06Are.z28 rfl rfl (any_of HT_.out (by kernel_rfl)) (fun _ _ _ h => h) (Or.inl ⟨by rfl, ?_⟩) ?_ ?_
               pv_
               refine pure_ (i := 29) (N := some 44) (v := ?_) (a' := ?_) spec_l06Are.z29 rfl rfl (any_of HT_.out (by kernel_rfl)) (fun _ _ _ h => h) (Or.inl ⟨by rfl, ?_⟩) ?_ ?_
               pv_
               refine pure_ (i := 30) (N := some 45) (v := ?_) (a' := ?_) spec_l06Are.z30 rfl rfl (any_of HT_.out (by kernel_rfl)) (fun _ _ _ h => h) (Or.inl ⟨by rfl, ?_⟩) ?_ ?_
               pv_
               refine pure_ (i := 31) (N := some 46) (v := ?_) (a' := ?_) spec_l06Are.z31 rfl rfl (any_of HT_.out (by kernel_rfl)) (fun _ _ _ h => h) (Or.inl ⟨by rfl, ?_⟩) ?_ ?_
               pv_
               refine pure_ (i := 32) (N := some 47) (v := ?_) (a' := ?_) spec_l06Are.z32 rfl rfl (any_of HT_.out (by kernel_rfl)) (fun _ _ _ h => h) (Or.inl ⟨by rfl, ?_⟩) ?_ ?_
               pv_
               refine take_ (i := 27) (N := some 42) (v := ?_) (a' := ?_) spec_l06Are.z33 rfl rfl (take_ofW HT_.out HW_.out (by kernel_rfl)) (fun _ _ _ h => h) (Or.inl ⟨by rfl, ?_⟩) hHeld ?_ ?_
               rotate_left
               ·rintro w' ⟨s0, s1, s2, s3, s4, s5, s6, s7, s8, s9, s10, s11, s12, s13, s14, s15, s16, s17, s18, s19, s20, s21, s22, s23, s24, s25, s26, s27, s28, s29⟩
                go_simp
                with_reducible rfl
               rotate_left
               ·pw_
               refine take_ (i := 33) (N := some 48) (v := ?_) (a' := ?_) spec_l06Are.z34 rfl rfl (take_ofW HT_.out HW_.out (by kernel_rfl)) (fun _ _ _ h => h) (Or.inl ⟨by rfl, ?_⟩) hHeld ?_ ?_
               rotate_left
               ·rintro w' ⟨s0, s1, s2, s3, s4, s5, s6, s7, s8, s9, s10, s11, s12, s13, s14, s15, s16, s17, s18, s19, s20, s21, s22, s23, s24, s25, s26, s27, s28, s29⟩
                go_simp
                with_reducible rfl
               rotate_left
               ·pw_
               refine pure_ (i := 34) (N := some 49) (v := ?_) (a' := ?_) spec_l06Are.z35 rfl rfl (any_of HT_.out (by kernel_rfl)) (fun _ _ _ h => h) (Or.inl ⟨by rfl, ?_⟩) ?_ ?_
               pv_
               refine pure_ (i := 35) (N := some 50) (v := ?_) (a' := ?_) spec_l06Are.z36 rfl rfl (any_of HT_.out (by kernel_rfl)) (fun _ _ _ h => h) (Or.inl ⟨by rfl, ?_⟩) ?_ ?_
               pv_
               refine pure_ (i := 36) (N := some 51) (v := ?_) (a' := ?_) spec_l06Are.z37 rfl rfl (any_of HT_.out (by kernel_rfl)) (fun _ _ _ h => h) (Or.inl ⟨by rfl, ?_⟩) ?_ ?_
               pv_
               refine done_ (done_of HT_.out (by kernel_rfl)) ?_
               try go_wp2
               go_roundg kj1
               case measure => have := HK1.out; have := HJ1.out; omega
               case rel => exact ⟨(wrap64 (x3_1 + 1)), (by first | rfl | (simp; done) | (simp [*]; done)), H', ⟨by have := HK1.out; have := HJ1.out; omega⟩, ⟨by repeat (first | (with_reducible first | exact HB.out | apply below_alloc | apply pw_below_drewN | apply below_drew1) | exact HB.out)⟩⟩
              ·rw [if_neg c15] at H
               have c15b0 : (Op.bytesLess (((rd_T138 l0 (ji12)).f0).toList) (((rd_T138 l0 x3_1).f0).toList)) = false := by simpa using c15
               clear c15
               obtain rfl := Option.some.inj H
               try go_wp2
               have n0_ := Aside0.mk (below_drew1 HB.out)
               clear HB
               have HB := n0_
               clear n0_
               have p204 : 0 ≤ (x3_1 : Int) := of_decide_eq_true (by first | (with_reducible assumption) | assumption)
               have q204 : x3_1 < (l0.length : Int) := of_decide_eq_true (by first | (with_reducible assumption) | assumption)
               obtain ⟨ad204, A204_1, c204_1, e204, hx204_0, hx204_1, hx204_2, hx204_3, hx204_4, hx204_5, hl204_1, hi204_1⟩ := at_T138 HR0.out x3_1 p204 q204
               have hw204_5 := hx204_5
               have hw204_4 := hx204_4
               have hw204_3 := hx204_3
               have hw204_2 := hx204_2
               have hw204_1 := hx204_1
               have hw204_0 := hx204_0
               cases e204
               replace hx204_0 := (HB.out.cell (World.block_lt_of_cell? w _ hx204_0)).trans hx204_0
               replace hx204_1 := (HB.out.cell (World.block_lt_of_cell? w _ hx204_1)).trans hx204_1
               replace hx204_2 := (HB.out.cell (World.block_lt_of_cell? w _ hx204_2)).trans hx204_2
               replace hx204_3 := (HB.out.cell (World.block_lt_of_cell? w _ hx204_3)).trans hx204_3
               replace hx204_4 := (HB.out.cell (World.block_lt_of_cell? w _ hx204_4)).trans hx204_4
               replace hx204_5 := (HB.out.cell (World.block_lt_of_cell? w _ hx204_5)).trans hx204_5
               have HR204_1 := Aside0.mk hi204_1
               have HC204_1 := Aside0.mk hl204_1
               clear hi204_1 hl204_1
               replace p204 := eq_true p204
               replace q204 := eq_true q204
               have p206 : 0 ≤ (x3_1 : Int) := of_decide_eq_true (by first | (with_reducible assumption) | assumption)
               have q206 : x3_1 < (l0.length : Int) := of_decide_eq_true (by first | (with_reducible assumption) | assumption)
               obtain ⟨ad206, A206_1, c206_1, e206, hx206_0, hx206_1, hx206_2, hx206_3, hx206_4, hx206_5, hl206_1, hi206_1⟩ := at_T138 HR0.out x3_1 p206 q206
               have hw206_5 := hx206_5
               have hw206_4 := hx206_4
               have hw206_3 := hx206_3
               have hw206_2 := hx206_2
               have hw206_1 := hx206_1
               have hw206_0 := hx206_0
               obtain rfl : ad204 = ad206 := (by injection e206)
               replace hx206_0 := (HB.out.cell (World.block_lt_of_cell? w _ hx206_0)).trans hx206_0
               replace hx206_1 := (HB.out.cell (World.block_lt_of_cell? w _ hx206_1)).trans hx206_1
               replace hx206_2 := (HB.out.cell (World.block_lt_of_cell? w _ hx206_2)).trans hx206_2
               replace hx206_3 := (HB.out.cell (World.block_lt_of_cell? w _ hx206_3)).trans hx206_3
               replace hx206_4 := (HB.out.cell (World.block_lt_of_cell? w _ hx206_4)).trans hx206_4
               replace hx206_5 := (HB.out.cell (World.block_lt_of_cell? w _ hx206_5)).trans hx206_5
               have HR206_1 := Aside0.mk hi206_1
               have HC206_1 := Aside0.mk hl206_1
               clear hi206_1 hl206_1
               replace p206 := eq_true p206
               replace q206 := eq_true q206
               have ea_ := Option.some.inj (hx204_1.symm.trans hx206_1)
               injection ea_ with ea_ en_ ec_
               subst ea_
               subst ec_
               clear en_
               have p207 : 0 ≤ (0 : Int) := (by omega)
               have q207 : 0 < (l0.length : Int) := of_decide_eq_true (by first | (with_reducible assumption) | assumption)
               obtain ⟨ad207, A207_1, c207_1, e207, hx207_0, hx207_1, hx207_2, hx207_3, hx207_4, hx207_5, hl207_1, hi207_1⟩ := at_T138 HR0.out 0 p207 q207
               have hw207_5 := hx207_5
               (try rw [show ((0 : Int)).toNat = 0 from rfl] at hw207_5)
               (try rw [show 0 * 6 = 0 from rfl] at hw207_5)
               (try rw [Addr.add_zero'] at hw207_5)
               have hw207_4 := hx207_4
               (try rw [show ((0 : Int)).toNat = 0 from rfl] at hw207_4)
               (try rw [show 0 * 6 = 0 from rfl] at hw207_4)
               (try rw [Addr.add_zero'] at hw207_4)
               have hw207_3 := hx207_3
               (try rw [show ((0 : Int)).toNat = 0 from rfl] at hw207_3)
               (try rw [show 0 * 6 = 0 from rfl] at hw207_3)
               (try rw [Addr.add_zero'] at hw207_3)
               have hw207_2 := hx207_2
               (try rw [show ((0 : Int)).toNat = 0 from rfl] at hw207_2)
               (try rw [show 0 * 6 = 0 from rfl] at hw207_2)
               (try rw [Addr.add_zero'] at hw207_2)
               have hw207_1 := hx207_1
               (try rw [show ((0 : Int)).toNat = 0 from rfl] at hw207_1)
               (try rw [show 0 * 6 = 0 from rfl] at hw207_1)
               (try rw [Addr.add_zero'] at hw207_1)
               have hw207_0 := hx207_0
               (try rw [show ((0 : Int)).toNat = 0 from rfl] at hw207_0)
               (try rw [show 0 * 6 = 0 from rfl] at hw207_0)
               (try rw [Addr.add_zero'] at hw207_0)
               obtain rfl : ad204 = ad207 := (by injection e207)
               have qi207 : (0 < l0.length) = True := eq_true (by omega)
               (try rw [show ((0 : Int)).toNat = 0 from rfl] at hx207_0)
               (try rw [show 0 * 6 = 0 from rfl] at hx207_0)
               (try rw [Addr.add_zero'] at hx207_0)
               (try rw [show ((0 : Int)).toNat = 0 from rfl] at hx207_1)
               (try rw [show 0 * 6 = 0 from rfl] at hx207_1)
               (try rw [Addr.add_zero'] at hx207_1)
               (try rw [show ((0 : Int)).toNat = 0 from rfl] at hx207_2)
               (try rw [show 0 * 6 = 0 from rfl] at hx207_2)
               (try rw [Addr.add_zero'] at hx207_2)
               (try rw [show ((0 : Int)).toNat = 0 from rfl] at hx207_3)
               (try rw [show 0 * 6 = 0 from rfl] at hx207_3)
               (try rw [Addr.add_zero'] at hx207_3)
               (try rw [show ((0 : Int)).toNat = 0 from rfl] at hx207_4)
               (try rw [show 0 * 6 = 0 from rfl] at hx207_4)
               (try rw [Addr.add_zero'] at hx207_4)
               (try rw [show ((0 : Int)).toNat = 0 from rfl] at hx207_5)
               (try rw [show 0 * 6 = 0 from rfl] at hx207_5)
               (try rw [Addr.add_zero'] at hx207_5)
               replace hx207_0 := (HB.out.cell (World.block_lt_of_cell? w _ hx207_0)).trans hx207_0
               replace hx207_1 := (HB.out.cell (World.block_lt_of_cell? w _ hx207_1)).trans hx207_1
               replace hx207_2 := (HB.out.cell (World.block_lt_of_cell? w _ hx207_2)).trans hx207_2
               replace hx207_3 := (HB.out.cell (World.block_lt_of_cell? w _ hx207_3)).trans hx207_3
               replace hx207_4 := (HB.out.cell (World.block_lt_of_cell? w _ hx207_4)).trans hx207_4
               replace hx207_5 := (HB.out.cell (World.block_lt_of_cell? w _ hx207_5)).trans hx207_5
               have HR207_1 := Aside0.mk hi207_1
               have HC207_1 := Aside0.mk hl207_1
               clear hi207_1 hl207_1
               replace p207 := eq_true p207
               replace q207 := eq_true q207
               have p208 : 0 ≤ (x3_1 : Int) := of_decide_eq_true (by first | (with_reducible assumption) | assumption)
               have q208 : x3_1 < (l0.length : Int) := of_decide_eq_true (by first | (with_reducible assumption) | assumption)
               obtain ⟨ad208, A208_1, c208_1, e208, hx208_0, hx208_1, hx208_2, hx208_3, hx208_4, hx208_5, hl208_1, hi208_1⟩ := at_T138 HR0.out x3_1 p208 q208
               have hw208_5 := hx208_5
               have hw208_4 := hx208_4
               have hw208_3 := hx208_3
               have hw208_2 := hx208_2
               have hw208_1 := hx208_1
               have hw208_0 := hx208_0
               obtain rfl : ad204 = ad208 := (by injection e208)
               replace hx208_0 := (HB.out.cell (World.block_lt_of_cell? w _ hx208_0)).trans hx208_0
               replace hx208_1 := (HB.out.cell (World.block_lt_of_cell? w _ hx208_1)).trans hx208_1
               replace hx208_2 := (HB.out.cell (World.block_lt_of_cell? w _ hx208_2)).trans hx208_2
               replace hx208_3 := (HB.out.cell (World.block_lt_of_cell? w _ hx208_3)).trans hx208_3
               replace hx208_4 := (HB.out.cell (World.block_lt_of_cell? w _ hx208_4)).trans hx208_4
               replace hx208_5 := (HB.out.cell (World.block_lt_of_cell? w _ hx208_5)).trans hx208_5
               have HR208_1 := Aside0.mk hi208_1
               have HC208_1 := Aside0.mk hl208_1
               clear hi208_1 hl208_1
               replace p208 := eq_true p208
               replace q208 := eq_true q208
               have ea_ := Option.some.inj (hx204_1.symm.trans hx208_1)
               injection ea_ with ea_ en_ ec_
               subst ea_
               subst ec_
               clear en_
               have p209 : 0 ≤ ((ji12) : Int) := of_decide_eq_true (by first | (with_reducible assumption) | assumption)
               have q209 : (ji12) < (l0.length : Int) := of_decide_eq_true (by first | (with_reducible assumption) | assumption)
               obtain ⟨ad209, A209_1, c209_1, e209, hx209_0, hx209_1, hx209_2, hx209_3, hx209_4, hx209_5, hl209_1, hi209_1⟩ := at_T138 HR0.out (ji12) p209 q209
               have hw209_5 := hx209_5
               have hw209_4 := hx209_4
               have hw209_3 := hx209_3
               have hw209_2 := hx209_2
               have hw209_1 := hx209_1
               have hw209_0 := hx209_0
               obtain rfl : ad204 = ad209 := (by injection e209)
               replace hx209_0 := (HB.out.cell (World.block_lt_of_cell? w _ hx209_0)).trans hx209_0
               replace hx209_1 := (HB.out.cell (World.block_lt_of_cell? w _ hx209_1)).trans hx209_1
               replace hx209_2 := (HB.out.cell (World.block_lt_of_cell? w _ hx209_2)).trans hx209_2
               replace hx209_3 := (HB.out.cell (World.block_lt_of_cell? w _ hx209_3)).trans hx209_3
               replace hx209_4 := (HB.out.cell (World.block_lt_of_cell? w _ hx209_4)).trans hx209_4
               replace hx209_5 := (HB.out.cell (World.block_lt_of_cell? w _ hx209_5)).trans hx209_5
               have HR209_1 := Aside0.mk hi209_1
               have HC209_1 := Aside0.mk hl209_1
               clear hi209_1 hl209_1
               replace p209 := eq_true p209
               replace q209 := eq_true q209
               refine start_ (n := 37) (S := fun w' => w'.cell? (ad204.add ((x3_1).toNat * 6)) = some (.string ((rd_T138 l0 x3_1).f0)) ∧ w'.cell? ⟨(ad204.add ((x3_1).toNat * 6)).block, (ad204.add ((x3_1).toNat * 6)).off + 1, none⟩ = some (.slice A204_1 ((rd_T138 l0 x3_1).f1).length c204_1) ∧ w'.cell? ⟨(ad204.add ((x3_1).toNat * 6)).block, (ad204.add ((x3_1).toNat * 6)).off + 2, none⟩ = some (.float .f32 ((rd_T138 l0 x3_1).f2)) ∧ w'.cell? ⟨(ad204.add ((x3_1).toNat * 6)).block, (ad204.add ((x3_1).toNat * 6)).off + 3, none⟩ = some (.float .f32 ((rd_T138 l0 x3_1).f3)) ∧ w'.cell? ⟨(ad204.add ((x3_1).toNat * 6)).block, (ad204.add ((x3_1).toNat * 6)).off + 4, none⟩ = some (.float .f32 ((rd_T138 l0 x3_1).f4)) ∧ w'.cell? ⟨(ad204.add ((x3_1).toNat * 6)).block, (ad204.add ((x3_1).toNat * 6)).off + 5, none⟩ = some (.float .f32 ((rd_T138 l0 x3_1).f5)) ∧ w'.cell? (ad204.add ((x3_1).toNat * 6)) = some (.string ((rd_T138 l0 x3_1).f0)) ∧ w'.cell? ⟨(ad204.add ((x3_1).toNat * 6)).block, (ad204.add ((x3_1).toNat * 6)).off + 1, none⟩ = some (.slice A204_1 ((rd_T138 l0 x3_1).f1).length c204_1) ∧ w'.cell? ⟨(ad204.add ((x3_1).toNat * 6)).block, (ad204.add ((x3_1).toNat * 6)).off + 2, none⟩ = some (.float .f32 ((rd_T138 l0 x3_1).f2)) ∧ w'.cell? ⟨(ad204.add ((x3_1).toNat * 6)).block, (ad204.add ((x3_1).toNat * 6)).off + 3, none⟩ = some (.float .f32 ((rd_T138 l0 x3_1).f3)) ∧ w'.cell? ⟨(ad204.add ((x3_1).toNat * 6)).block, (ad204.add ((x3_1).toNat * 6)).off + 4, none⟩ = some (.float .f32 ((rd_T138 l0 x3_1).f4)) ∧ w'.cell? ⟨(ad204.add ((x3_1).toNat * 6)).block, (ad204.add ((x3_1).toNat * 6)).off + 5, none⟩ = some (.float .f32 ((rd_T138 l0 x3_1).f5)) ∧ w'.cell? ad204 = some (.string ((rd_T138 l0 0).f0)) ∧ w'.cell? ⟨ad204.block, ad204.off + 1, none⟩ = some (.slice A207_1 ((rd_T138 l0 0).f1).length c207_1) ∧ w'.cell? ⟨ad204.block, ad204.off + 2, none⟩ = some (.float .f32 ((rd_T138 l0 0).f2)) ∧ w'.cell? ⟨ad204.block, ad204.off + 3, none⟩ = some (.float .f32 ((rd_T138 l0 0).f3)) ∧ w'.cell? ⟨ad204.block, ad204.off + 4, none⟩ = some (.float .f32 ((rd_T138 l0 0).f4)) ∧ w'.cell? ⟨ad204.block, ad204.off + 5, none⟩ = some (.float .f32 ((rd_T138 l0 0).f5)) ∧ w'.cell? (ad204.add ((x3_1).toNat * 6)) = some (.string ((rd_T138 l0 x3_1).f0)) ∧ w'.cell? ⟨(ad204.add ((x3_1).toNat * 6)).block, (ad204.add ((x3_1).toNat * 6)).off + 1, none⟩ = some (.slice A204_1 ((rd_T138 l0 x3_1).f1).length c204_1) ∧ w'.cell? ⟨(ad204.add ((x3_1).toNat * 6)).block, (ad204.add ((x3_1).toNat * 6)).off + 2, none⟩ = some (.float .f32 ((rd_T138 l0 x3_1).f2)) ∧ w'.cell? ⟨(ad204.add ((x3_1).toNat * 6)).block, (ad204.add ((x3_1).toNat * 6)).off + 3, none⟩ = some (.float .f32 ((rd_T138 l0 x3_1).f3)) ∧ w'.cell? ⟨(ad204.add ((x3_1).toNat * 6)).block, (ad204.add ((x3_1).toNat * 6)).off + 4, none⟩ = some (.float .f32 ((rd_T138 l0 x3_1).f4)) ∧ w'.cell? ⟨(ad204.add ((x3_1).toNat * 6)).block, (ad204.add ((x3_1).toNat * 6)).off + 5, none⟩ = some (.float .f32 ((rd_T138 l0 x3_1).f5)) ∧ w'.cell? (ad204.add (((ji12)).toNat * 6)) = some (.string ((rd_T138 l0 (ji12)).f0)) ∧ w'.cell? ⟨(ad204.add (((ji12)).toNat * 6)).block, (ad204.add (((ji12)).toNat * 6)).off + 1, none⟩ = some (.slice A209_1 ((rd_T138 l0 (ji12)).f1).length c209_1) ∧ w'.cell? ⟨(ad204.add (((ji12)).toNat * 6)).block, (ad204.add (((ji12)).toNat * 6)).off + 2, none⟩ = some (.float .f32 ((rd_T138 l0 (ji12)).f2)) ∧ w'.cell? ⟨(ad204.add (((ji12)).toNat * 6)).block, (ad204.add (((ji12)).toNat * 6)).off + 3, none⟩ = some (.float .f32 ((rd_T138 l0 (ji12)).f3)) ∧ w'.cell? ⟨(ad204.add (((ji12)).toNat * 6)).block, (ad204.add (((ji12)).toNat * 6)).off + 4, none⟩ = some (.float .f32 ((rd_T138 l0 (ji12)).f4)) ∧ w'.cell? ⟨(ad204.add (((ji12)).toNat * 6)).block, (ad204.add (((ji12)).toNat * 6)).off + 5, none⟩ = some (.float .f32 ((rd_T138 l0 (ji12)).f5))) (ds := []) spec_l06Are.z0 (by kernel_rfl) rfl rfl ⟨(cu_ HB.out hw204_0), (cu_ HB.out hw204_1), (cu_ HB.out hw204_2), (cu_ HB.out hw204_3), (cu_ HB.out hw204_4), (cu_ HB.out hw204_5), (cu_ HB.out hw206_0), (cu_ HB.out hw206_1), (cu_ HB.out hw206_2), (cu_ HB.out hw206_3), (cu_ HB.out hw206_4), (cu_ HB.out hw206_5), (cu_ HB.out hw207_0), (cu_ HB.out hw207_1), (cu_ HB.out hw207_2), (cu_ HB.out hw207_3), (cu_ HB.out hw207_4), (cu_ HB.out hw207_5), (cu_ HB.out hw208_0), (cu_ HB.out hw208_1), (cu_ HB.out hw208_2), (cu_ HB.out hw208_3), (cu_ HB.out hw208_4), (cu_ HB.out hw208_5), (cu_ HB.out hw209_0), (cu_ HB.out hw209_1), (cu_ HB.out hw209_2), (cu_ HB.out hw209_3), (cu_ HB.out hw209_4), (cu_ HB.out hw209_5)⟩ (fun hHeld => ?_); refine with_tabW spec_l06Are.tab4 spec_l06Are.bits4 (fun HT_ HW_ => ?_)
               generalize wc.drew = w17 at HB HR204_1 HR206_1 HR207_1 HR208_1 HR209_1 hx204_0 hx204_1 hx204_2 hx204_3 hx204_4 hx204_5 hx206_0 hx206_1 hx206_2 hx206_3 hx206_4 hx206_5 hx207_0 hx207_1 hx207_2 hx207_3 hx207_4 hx207_5 hx208_0 hx208_1 hx208_2 hx208_3 hx208_4 hx208_5 hx209_0 hx209_1 hx209_2 hx209_3 hx209_4 hx209_5 hHeld ⊢
               refine pure_ (i := 0) (N := some 15) (v := ?_) (a' := ?_) spec_l06Are.z1 rfl rfl (any_of HT_.out (by kernel_rfl)) (fun _ _ _ h => h) (Or.inl ⟨by rfl, ?_⟩) ?_ ?_
               pv_
               refine pure_ (i := 1) (N := some 16) (v := ?_) (a' := ?_) spec_l06Are.z2 rfl rfl (any_of HT_.out (by kernel_rfl)) (fun _ _ _ h => h) (Or.inl ⟨by rfl, ?_⟩) ?_ ?_
               pv_
               refine pure_ (i := 2) (N := some 17) (v := ?_) (a' := ?_) spec_l06Are.z3 rfl rfl (any_of HT_.out (by kernel_rfl)) (fun _ _ _ h => h) (Or.inl ⟨by rfl, ?_⟩) ?_ ?_
               pv_
               refine one_ (i := 3) (N := some 18) spec_l06Are.z4 rfl rfl (one_of HT_.out (by kernel_rfl)) (by decide) (fun K hK => ?_)
               refine goes_ Try.func166 (by kernel_rfl) rfl #[.pointer (some (Addr.add ad204 ((x3_1 : Int).toNat * 6)))] (by rfl) rfl rfl (by (try simp only [List.map_toArray, List.map_cons, List.map_nil]); first | done | rfl | (simp only [List.length_drop, List.length_take]; rfl)) ?_
               with_reducible refine (spec_l06Sound.calls kj1 _ [rd_T138 l0 x3_1] true _ ?side1 A7.out).mono ?_
               (case side1 => refine Kd.C_sub (z := z138) ?_ x3_1 (of_eq_true p204) (by first | exact of_eq_true q204 | omega); repeat (first | exact (Kd.C_below HR0.out HB.out) | (with_reducible refine Kd.C_alloc ?_ _) | (with_reducible refine Kd.C_drewN ?_ _) | (with_reducible refine Kd.C_drew ?_)))
               rintro e w' ⟨rfl, ⟨nd, rfl⟩⟩
               refine ⟨_, rfl, ?_⟩
               refine hK.out _ _ ⟨(cu_ HB.out hw204_0), (cu_ HB.out hw204_1), (cu_ HB.out hw204_2), (cu_ HB.out hw204_3), (cu_ HB.out hw204_4), (cu_ HB.out hw204_5), (cu_ HB.out hw206_0), (cu_ HB.out hw206_1), (cu_ HB.out hw206_2), (cu_ HB.out hw206_3), (cu_ HB.out hw206_4), (cu_ HB.out hw206_5), (cu_ HB.out hw207_0), (cu_ HB.out hw207_1), (cu_ HB.out hw207_2), (cu_ HB.out hw207_3), (cu_ HB.out hw207_4), (cu_ HB.out hw207_5), (cu_ HB.out hw208_0), (cu_ HB.out hw208_1), (cu_ HB.out hw208_2), (cu_ HB.out hw208_3), (cu_ HB.out hw208_4), (cu_ HB.out hw208_5), (cu_ HB.out hw209_0), (cu_ HB.out hw209_1), (cu_ HB.out hw209_2), (cu_ HB.out hw209_3), (cu_ HB.out hw209_4), (cu_ HB.out hw209_5)⟩ (fun hHeld => ?_)
               clear hK K
               refine norm_ (a' := ?_) ?_ ?_
               rotate_left
               ·show Act.put _ (some 18) _ = _
                pw_
               refine pure_ (i := 4) (N := some 19) (v := ?_) (a' := ?_) spec_l06Are.z5 rfl rfl (any_of HT_.out (by kernel_rfl)) (fun _ _ _ h => h) (Or.inl ⟨by rfl, ?_⟩) ?_ ?_
               pv_
               refine pure_ (i := 5) (N := some 20) (v := ?_) (a' := ?_) spec_l06Are.z6 rfl rfl (any_of HT_.out (by kernel_rfl)) (fun _ _ _ h => h) (Or.inl ⟨by rfl, ?_⟩) ?_ ?_
               pv_
               refine pure_ (i := 6) (N := some 21) (v := ?_) (a' := ?_) spec_l06Are.z7 rfl rfl (any_of HT_.out (by kernel_rfl)) (fun _ _ _ h => h) (Or.inl ⟨by rfl, ?_⟩) ?_ ?_
               pv_
               refine pure_ (i := 7) (N := some 22) (v := ?_) (a' := ?_) spec_l06Are.z8 rfl rfl (any_of HT_.out (by kernel_rfl)) (fun _ _ _ h => h) (Or.inl ⟨by rfl, ?_⟩) ?_ ?_
               pv_
               refine pure_ (i := 8) (N := some 23) (v := ?_) (a' := ?_) spec_l06Are.z9 rfl rfl (any_of HT_.out (by kernel_rfl)) (fun _ _ _ h => h) (Or.inl ⟨by rfl, ?_⟩) ?_ ?_
               pv_
               refine pure_ (i := 9) (N := some 24) (v := ?_) (a' := ?_) spec_l06Are.z10 rfl rfl (any_of HT_.out (by kernel_rfl)) (fun _ _ _ h => h) (Or.inl ⟨by rfl, ?_⟩) ?_ ?_
               pv_
               refine pure_ (i := 12) (N := some 27) (v := ?_) (a' := ?_) spec_l06Are.z11 rfl rfl (any_of HT_.out (by kernel_rfl)) (fun _ _ _ h => h) (Or.inl ⟨by rfl, ?_⟩) ?_ ?_
               pv_
               refine pure_ (i := 13) (N := some 28) (v := ?_) (a' := ?_) spec_l06Are.z12 rfl rfl (any_of HT_.out (by kernel_rfl)) (fun _ _ _ h => h) (Or.inl ⟨by rfl, ?_⟩) ?_ ?_
               pv_
               refine pure_ (i := 14) (N := some 29) (v := ?_) (a' := ?_) spec_l06Are.z13 rfl rfl (any_of HT_.out (by kernel_rfl)) (fun _ _ _ h => h) (Or.inl ⟨by rfl, ?_⟩) ?_ ?_
               pv_
               refine take_ (i := 10) (N := some 25) (v := ?_) (a' := ?_) spec_l06Are.z14 rfl rfl (take_ofW HT_.out HW_.out (by kernel_rfl)) (fun _ _ _ h => h) (Or.inl ⟨by rfl, ?_⟩) hHeld ?_ ?_
               rotate_left
               ·rintro w' ⟨s0, s1, s2, s3, s4, s5, s6, s7, s8, s9, s10, s11, s12, s13, s14, s15, s16, s17, s18, s19, s20, s21, s22, s23, s24, s25, s26, s27, s28, s29⟩
                go_simp
                with_reducible rfl
               rotate_left
               ·pw_
               refine pure_ (i := 11) (N := some 26) (v := ?_) (a' := ?_) spec_l06Are.z15 rfl rfl (any_of HT_.out (by kernel_rfl)) (fun _ _ _ h => h) (Or.inl ⟨by rfl, ?_⟩) ?_ ?_
               pv_
               refine take_ (i := 15) (N := some 30) (v := ?_) (a' := ?_) spec_l06Are.z16 rfl rfl (take_ofW HT_.out HW_.out (by kernel_rfl)) (fun _ _ _ h => h) (Or.inl ⟨by rfl, ?_⟩) hHeld ?_ ?_
               rotate_left
               ·rintro w' ⟨s0, s1, s2, s3, s4, s5, s6, s7, s8, s9, s10, s11, s12, s13, s14, s15, s16, s17, s18, s19, s20, s21, s22, s23, s24, s25, s26, s27, s28, s29⟩
                go_simp
                with_reducible rfl
               rotate_left
               ·pw_
               refine pure_ (i := 16) (N := some 31) (v := ?_) (a' := ?_) spec_l06Are.z17 rfl rfl (any_of HT_.out (by kernel_rfl)) (fun _ _ _ h => h) (Or.inl ⟨by rfl, ?_⟩) ?_ ?_
               pv_
               refine pure_ (i := 17) (N := some 32) (v := ?_) (a' := ?_) spec_l06Are.z18 rfl rfl (any_of HT_.out (by kernel_rfl)) (fun _ _ _ h => h) (Or.inl ⟨by rfl, ?_⟩) ?_ ?_
               pv_
               refine pure_ (i := 18) (N := some 33) (v := ?_) (a' := ?_) spec_l06Are.z19 rfl rfl (any_of HT_.out (by kernel_rfl)) (fun _ _ _ h => h) (Or.inl ⟨by rfl, ?_⟩) ?_ ?_
               pv_
               refine pure_ (i := 19) (N := some 34) (v := ?_) (a' := ?_) spec_l06Are.z20 rfl rfl (any_of HT_.out (by kernel_rfl)) (fun _ _ _ h => h) (Or.inl ⟨by rfl, ?_⟩) ?_ ?_
               pv_
               refine pure_ (i := 20) (N := some 35) (v := ?_) (a' := ?_) spec_l06Are.z21 rfl rfl (any_of HT_.out (by kernel_rfl)) (fun _ _ _ h => h) (Or.inl ⟨by rfl, ?_⟩) ?_ ?_
               pv_
               refine pure_ (i := 21) (N := some 36) (v := ?_) (a' := ?_) spec_l06Are.z22 rfl rfl (any_of HT_.out (by kernel_rfl)) (fun _ _ _ h => h) (Or.inl ⟨by rfl, ?_⟩) ?_ ?_
               pv_
               refine pure_ (i := 22) (N := some 37) (v := ?_) (a' := ?_) spec_l06Are.z23 rfl rfl (any_of HT_.out (by kernel_rfl)) (fun _ _ _ h => h) (Or.inl ⟨by rfl, ?_⟩) ?_ ?_
               pv_
               refine pure_ (i := 23) (N := some 38) (v := ?_) (a' := ?_) spec_l06Are.z24 rfl rfl (any_of HT_.out (by kernel_rfl)) (fun _ _ _ h => h) (Or.inl ⟨by rfl, ?_⟩) ?_ ?_
               pv_
               refine pure_ (i := 24) (N := some 39) (v := ?_) (a' := ?_) spec_l06Are.z25 rfl rfl (any_of HT_.out (by kernel_rfl)) (fun _ _ _ h => h) (Or.inl ⟨by rfl, ?_⟩) ?_ ?_
               pv_
               refine pure_ (i := 25) (N := some 40) (v := ?_) (a' := ?_) spec_l06Are.z26 rfl rfl (any_of HT_.out (by kernel_rfl)) (fun _ _ _ h => h) (Or.inl ⟨by rfl, ?_⟩) ?_ ?_
               pv_
               refine pure_ (i := 26) (N := some 41) (v := ?_) (a' := ?_) spec_l06Are.z27 rfl rfl (any_of HT_.out (by kernel_rfl)) (fun _ _ _ h => h) (Or.inl ⟨by rfl, ?_⟩) ?_ ?_
               pv_
               refine pure_ (i := 28) (N := some 43) (v := ?_) (a' := ?_) spec_l06Are.z28 rfl rfl (any_of HT_.out (by kernel_rfl)) (fun _ _ _ h => h) (Or.inl ⟨by rfl, ?_⟩) ?_ ?_
               pv_
               refine pure_ (i := 29) (N := some 44) (v := ?_) (a' := ?_) spec_l06Are.z29 rfl rfl (any_of HT_.out (by kernel_rfl)) (fun _ _ _ h => h) (Or.inl ⟨by rfl, ?_⟩) ?_ ?_
               pv_
               refine pure_ (i := 30) (N := some 45) (v := ?_) (a' := ?_) spec_l06Are.z30 rfl rfl (any_of HT_.out (by kernel_rfl)) (fun _ _ _ h => h) (Or.inl ⟨by rfl, ?_⟩) ?_ ?_
               pv_
               refine pure_ (i := 31) (N := some 46) (v := ?_) (a' := ?_) spec_l06Are.z31 rfl rfl (any_of HT_.out (by kernel_rfl)) (fun _ _ _ h => h) (Or.inl ⟨by rfl, ?_⟩) ?_ ?_
               pv_
               refine pure_ (i := 32) (N := some 47) (v := ?_) (a' := ?_) spec_l06Are.z32 rfl rfl (any_of HT_.out (by kernel_rfl)) (fun _ _ _ h => h) (Or.inl ⟨by rfl, ?_⟩) ?_ ?_
               pv_
               refine take_ (i := 27) (N := some 42) (v := ?_) (a' := ?_) spec_l06Are.z33 rfl rfl (take_ofW HT_.out HW_.out (by kernel_rfl)) (fun _ _ _ h => h) (Or.inl ⟨by rfl, ?_⟩) hHeld ?_ ?_
               rotate_left
               ·rintro w' ⟨s0, s1, s2, s3, s4, s5, s6, s7, s8, s9, s10, s11, s12, s13, s14, s15, s16, s17, s18, s19, s20, s21, s22, s23, s24, s25, s26, s27, s28, s29⟩
                go_simp
                with_reducible rfl
               rotate_left
               ·pw_
               refine take_ (i := 33) (N := some 48) (v := ?_) (a' := ?_) spec_l06Are.z34 rfl rfl (take_ofW HT_.out HW_.out (by kernel_rfl)) (fun _ _ _ h => h) (Or.inl ⟨by rfl, ?_⟩) hHeld ?_ ?_
               rotate_left
               ·rintro w' ⟨s0, s1, s2, s3, s4, s5, s6, s7, s8, s9, s10, s11, s12, s13, s14, s15, s16, s17, s18, s19, s20, s21, s22, s23, s24, s25, s26, s27, s28, s29⟩
                go_simp
                with_reducible rfl
               rotate_left
               ·pw_
               refine pure_ (i := 34) (N := some 49) (v := ?_) (a' := ?_) spec_l06Are.z35 rfl rfl (any_of HT_.out (by kernel_rfl)) (fun _ _ _ h => h) (Or.inl ⟨by rfl, ?_⟩) ?_ ?_
               pv_
               refine pure_ (i := 35) (N := some 50) (v := ?_) (a' := ?_) spec_l06Are.z36 rfl rfl (any_of HT_.out (by kernel_rfl)) (fun _ _ _ h => h) (Or.inl ⟨by rfl, ?_⟩) ?_ ?_
               pv_
               refine pure_ (i := 36) (N := some 51) (v := ?_) (a' := ?_) spec_l06Are.z37 rfl rfl (any_of HT_.out (by kernel_rfl)) (fun _ _ _ h => h) (Or.inl ⟨by rfl, ?_⟩) ?_ ?_
               pv_
               refine done_ (done_of HT_.out (by kernel_rfl)) ?_
               try go_wp2
               go_ret
               exact ⟨by first | rfl | (simp [errW_none, errW_some] <;> rfl) | (simp only [← hji12]; first | rfl | (simp [errW_none, errW_some] <;> rfl)) | (simp [*, errW_none, errW_some] <;> rfl), by repeat (first | (with_reducible first | exact HB.out | apply below_alloc | apply pw_below_drewN | apply below_drew1) | exact HB.out)⟩
             ·rw [if_neg c14] at H
              exact absurd H (by simp)
            ·rw [if_neg c13] at H
             exact absurd H (by simp)
           ·rw [if_neg c11] at H
            have c11b0 : decide (0 < x3_1) = false := decide_eq_false c11
            clear c11
            have H' := Aside0.mk H
            clear H
            try go_wp2
            have n0_ := Aside0.mk (below_drew1 HB.out)
            clear HB
            have HB := n0_
            clear n0_
            have p204 : 0 ≤ (x3_1 : Int) := of_decide_eq_true (by first | (with_reducible assumption) | assumption)
            have q204 : x3_1 < (l0.length : Int) := of_decide_eq_true (by first | (with_reducible assumption) | assumption)
            obtain ⟨ad204, A204_1, c204_1, e204, hx204_0, hx204_1, hx204_2, hx204_3, hx204_4, hx204_5, hl204_1, hi204_1⟩ := at_T138 HR0.out x3_1 p204 q204
            have hw204_5 := hx204_5
            have hw204_4 := hx204_4
            have hw204_3 := hx204_3
            have hw204_2 := hx204_2
            have hw204_1 := hx204_1
            have hw204_0 := hx204_0
            cases e204
            replace hx204_0 := (HB.out.cell (World.block_lt_of_cell? w _ hx204_0)).trans hx204_0
            replace hx204_1 := (HB.out.cell (World.block_lt_of_cell? w _ hx204_1)).trans hx204_1
            replace hx204_2 := (HB.out.cell (World.block_lt_of_cell? w _ hx204_2)).trans hx204_2
            replace hx204_3 := (HB.out.cell (World.block_lt_of_cell? w _ hx204_3)).trans hx204_3
            replace hx204_4 := (HB.out.cell (World.block_lt_of_cell? w _ hx204_4)).trans hx204_4
            replace hx204_5 := (HB.out.cell (World.block_lt_of_cell? w _ hx204_5)).trans hx204_5
            have HR204_1 := Aside0.mk hi204_1
            have HC204_1 := Aside0.mk hl204_1
            clear hi204_1 hl204_1
            replace p204 := eq_true p204
            replace q204 := eq_true q204
            have p206 : 0 ≤ (x3_1 : Int) := of_decide_eq_true (by first | (with_reducible assumption) | assumption)
            have q206 : x3_1 < (l0.length : Int) := of_decide_eq_true (by first | (with_reducible assumption) | assumption)
            obtain ⟨ad206, A206_1, c206_1, e206, hx206_0, hx206_1, hx206_2, hx206_3, hx206_4, hx206_5, hl206_1, hi206_1⟩ := at_T138 HR0.out x3_1 p206 q206
            have hw206_5 := hx206_5
            have hw206_4 := hx206_4
            have hw206_3 := hx206_3
            have hw206_2 := hx206_2
            have hw206_1 := hx206_1
            have hw206_0 := hx206_0
            obtain rfl : ad204 = ad206 := (by injection e206)
            replace hx206_0 := (HB.out.cell (World.block_lt_of_cell? w _ hx206_0)).trans hx206_0
            replace hx206_1 := (HB.out.cell (World.block_lt_of_cell? w _ hx206_1)).trans hx206_1
            replace hx206_2 := (HB.out.cell (World.block_lt_of_cell? w _ hx206_2)).trans hx206_2
            replace hx206_3 := (HB.out.cell (World.block_lt_of_cell? w _ hx206_3)).trans hx206_3
            replace hx206_4 := (HB.out.cell (World.block_lt_of_cell? w _ hx206_4)).trans hx206_4
            replace hx206_5 := (HB.out.cell (World.block_lt_of_cell? w _ hx206_5)).trans hx206_5
            have HR206_1 := Aside0.mk hi206_1
            have HC206_1 := Aside0.mk hl206_1
            clear hi206_1 hl206_1
            replace p206 := eq_true p206
            replace q206 := eq_true q206
            have ea_ := Option.some.inj (hx204_1.symm.trans hx206_1)
            injection ea_ with ea_ en_ ec_
            subst ea_
            subst ec_
            clear en_
            have p207 : 0 ≤ (0 : Int) := (by omega)
            have q207 : 0 < (l0.length : Int) := of_decide_eq_true (by first | (with_reducible assumption) | assumption)
            obtain ⟨ad207, A207_1, c207_1, e207, hx207_0, hx207_1, hx207_2, hx207_3, hx207_4, hx207_5, hl207_1, hi207_1⟩ := at_T138 HR0.out 0 p207 q207
            have hw207_5 := hx207_5
            (try rw [show ((0 : Int)).toNat = 0 from rfl] at hw207_5)
            (try rw [show 0 * 6 = 0 from rfl] at hw207_5)
            (try rw [Addr.add_zero'] at hw207_5)
            have hw207_4 := hx207_4
            (try rw [show ((0 : Int)).toNat = 0 from rfl] at hw207_4)
            (try rw [show 0 * 6 = 0 from rfl] at hw207_4)
            (try rw [Addr.add_zero'] at hw207_4)
            have hw207_3 := hx207_3
            (try rw [show ((0 : Int)).toNat = 0 from rfl] at hw207_3)
            (try rw [show 0 * 6 = 0 from rfl] at hw207_3)
            (try rw [Addr.add_zero'] at hw207_3)
            have hw207_2 := hx207_2
            (try rw [show ((0 : Int)).toNat = 0 from rfl] at hw207_2)
            (try rw [show 0 * 6 = 0 from rfl] at hw207_2)
            (try rw [Addr.add_zero'] at hw207_2)
            have hw207_1 := hx207_1
            (try rw [show ((0 : Int)).toNat = 0 from rfl] at hw207_1)
            (try rw [show 0 * 6 = 0 from rfl] at hw207_1)
            (try rw [Addr.add_zero'] at hw207_1)
            have hw207_0 := hx207_0
            (try rw [show ((0 : Int)).toNat = 0 from rfl] at hw207_0)
            (try rw [show 0 * 6 = 0 from rfl] at hw207_0)
            (try rw [Addr.add_zero'] at hw207_0)
            obtain rfl : ad204 = ad207 := (by injection e207)
            have qi207 : (0 < l0.length) = True := eq_true (by omega)
            (try rw [show ((0 : Int)).toNat = 0 from rfl] at hx207_0)
            (try rw [show 0 * 6 = 0 from rfl] at hx207_0)
            (try rw [Addr.add_zero'] at hx207_0)
            (try rw [show ((0 : Int)).toNat = 0 from rfl] at hx207_1)
            (try rw [show 0 * 6 = 0 from rfl] at hx207_1)
            (try rw [Addr.add_zero'] at hx207_1)
            (try rw [show ((0 : Int)).toNat = 0 from rfl] at hx207_2)
            (try rw [show 0 * 6 = 0 from rfl] at hx207_2)
            (try rw [Addr.add_zero'] at hx207_2)
            (try rw [show ((0 : Int)).toNat = 0 from rfl] at hx207_3)
            (try rw [show 0 * 6 = 0 from rfl] at hx207_3)
            (try rw [Addr.add_zero'] at hx207_3)
            (try rw [show ((0 : Int)).toNat = 0 from rfl] at hx207_4)
            (try rw [show 0 * 6 = 0 from rfl] at hx207_4)
            (try rw [Addr.add_zero'] at hx207_4)
            (try rw [show ((0 : Int)).toNat = 0 from rfl] at hx207_5)
            (try rw [show 0 * 6 = 0 from rfl] at hx207_5)
            (try rw [Addr.add_zero'] at hx207_5)
            replace hx207_0 := (HB.out.cell (World.block_lt_of_cell? w _ hx207_0)).trans hx207_0
            replace hx207_1 := (HB.out.cell (World.block_lt_of_cell? w _ hx207_1)).trans hx207_1
            replace hx207_2 := (HB.out.cell (World.block_lt_of_cell? w _ hx207_2)).trans hx207_2
            replace hx207_3 := (HB.out.cell (World.block_lt_of_cell? w _ hx207_3)).trans hx207_3
            replace hx207_4 := (HB.out.cell (World.block_lt_of_cell? w _ hx207_4)).trans hx207_4
            replace hx207_5 := (HB.out.cell (World.block_lt_of_cell? w _ hx207_5)).trans hx207_5
            have HR207_1 := Aside0.mk hi207_1
            have HC207_1 := Aside0.mk hl207_1
            clear hi207_1 hl207_1
            replace p207 := eq_true p207
            replace q207 := eq_true q207
            refine start_ (n := 37) (S := fun w' => w'.cell? (ad204.add ((x3_1).toNat * 6)) = some (.string ((rd_T138 l0 x3_1).f0)) ∧ w'.cell? ⟨(ad204.add ((x3_1).toNat * 6)).block, (ad204.add ((x3_1).toNat * 6)).off + 1, none⟩ = some (.slice A204_1 ((rd_T138 l0 x3_1).f1).length c204_1) ∧ w'.cell? ⟨(ad204.add ((x3_1).toNat * 6)).block, (ad204.add ((x3_1).toNat * 6)).off + 2, none⟩ = some (.float .f32 ((rd_T138 l0 x3_1).f2)) ∧ w'.cell? ⟨(ad204.add ((x3_1).toNat * 6)).block, (ad204.add ((x3_1).toNat * 6)).off + 3, none⟩ = some (.float .f32 ((rd_T138 l0 x3_1).f3)) ∧ w'.cell? ⟨(ad204.add ((x3_1).toNat * 6)).block, (ad204.add ((x3_1).toNat * 6)).off + 4, none⟩ = some (.float .f32 ((rd_T138 l0 x3_1).f4)) ∧ w'.cell? ⟨(ad204.add ((x3_1).toNat * 6)).block, (ad204.add ((x3_1).toNat * 6)).off + 5, none⟩ = some (.float .f32 ((rd_T138 l0 x3_1).f5)) ∧ w'.cell? (ad204.add ((x3_1).toNat * 6)) = some (.string ((rd_T138 l0 x3_1).f0)) ∧ w'.cell? ⟨(ad204.add ((x3_1).toNat * 6)).block, (ad204.add ((x3_1).toNat * 6)).off + 1, none⟩ = some (.slice A204_1 ((rd_T138 l0 x3_1).f1).length c204_1) ∧ w'.cell? ⟨(ad204.add ((x3_1).toNat * 6)).block, (ad204.add ((x3_1).toNat * 6)).off + 2, none⟩ = some (.float .f32 ((rd_T138 l0 x3_1).f2)) ∧ w'.cell? ⟨(ad204.add ((x3_1).toNat * 6)).block, (ad204.add ((x3_1).toNat * 6)).off + 3, none⟩ = some (.float .f32 ((rd_T138 l0 x3_1).f3)) ∧ w'.cell? ⟨(ad204.add ((x3_1).toNat * 6)).block, (ad204.add ((x3_1).toNat * 6)).off + 4, none⟩ = some (.float .f32 ((rd_T138 l0 x3_1).f4)) ∧ w'.cell? ⟨(ad204.add ((x3_1).toNat * 6)).block, (ad204.add ((x3_1).toNat * 6)).off + 5, none⟩ = some (.float .f32 ((rd_T138 l0 x3_1).f5)) ∧ w'.cell? ad204 = some (.string ((rd_T138 l0 0).f0)) ∧ w'.cell? ⟨ad204.block, ad204.off + 1, none⟩ = some (.slice A207_1 ((rd_T138 l0 0).f1).length c207_1) ∧ w'.cell? ⟨ad204.block, ad204.off + 2, none⟩ = some (.float .f32 ((rd_T138 l0 0).f2)) ∧ w'.cell? ⟨ad204.block, ad204.off + 3, none⟩ = some (.float .f32 ((rd_T138 l0 0).f3)) ∧ w'.cell? ⟨ad204.block, ad204.off + 4, none⟩ = some (.float .f32 ((rd_T138 l0 0).f4)) ∧ w'.cell? ⟨ad204.block, ad204.off + 5, none⟩ = some (.float .f32 ((rd_T138 l0 0).f5))) (ds := []) spec_l06Are.z0 (by kernel_rfl) rfl rfl ⟨(cu_ HB.out hw204_0), (cu_ HB.out hw204_1), (cu_ HB.out hw204_2), (cu_ HB.out hw204_3), (cu_ HB.out hw204_4), (cu_ HB.out hw204_5), (cu_ HB.out hw206_0), (cu_ HB.out hw206_1), (cu_ HB.out hw206_2), (cu_ HB.out hw206_3), (cu_ HB.out hw206_4), (cu_ HB.out hw206_5), (cu_ HB.out hw207_0), (cu_ HB.out hw207_1), (cu_ HB.out hw207_2), (cu_ HB.out hw207_3), (cu_ HB.out hw207_4), (cu_ HB.out hw207_5)⟩ (fun hHeld => ?_); refine with_tabW spec_l06Are.tab4 spec_l06Are.bits4 (fun HT_ HW_ => ?_)
            generalize wc.drew = w18 at HB HR204_1 HR206_1 HR207_1 hx204_0 hx204_1 hx204_2 hx204_3 hx204_4 hx204_5 hx206_0 hx206_1 hx206_2 hx206_3 hx206_4 hx206_5 hx207_0 hx207_1 hx207_2 hx207_3 hx207_4 hx207_5 hHeld ⊢
            refine pure_ (i := 0) (N := some 15) (v := ?_) (a' := ?_) spec_l06Are.z1 rfl rfl (any_of HT_.out (by kernel_rfl)) (fun _ _ _ h => h) (Or.inl ⟨by rfl, ?_⟩) ?_ ?_
            pv_
            refine pure_ (i := 1) (N := some 16) (v := ?_) (a' := ?_) spec_l06Are.z2 rfl rfl (any_of HT_.out (by kernel_rfl)) (fun _ _ _ h => h) (Or.inl ⟨by rfl, ?_⟩) ?_ ?_
            pv_
            refine pure_ (i := 2) (N := some 17) (v := ?_) (a' := ?_) spec_l06Are.z3 rfl rfl (any_of HT_.out (by kernel_rfl)) (fun _ _ _ h => h) (Or.inl ⟨by rfl, ?_⟩) ?_ ?_
            pv_
            refine one_ (i := 3) (N := some 18) spec_l06Are.z4 rfl rfl (one_of HT_.out (by kernel_rfl)) (by decide) (fun K hK => ?_)
            refine goes_ Try.func166 (by kernel_rfl) rfl #[.pointer (some (Addr.add ad204 ((x3_1 : Int).toNat * 6)))] (by rfl) rfl rfl (by (try simp only [List.map_toArray, List.map_cons, List.map_nil]); first | done | rfl | (simp only [List.length_drop, List.length_take]; rfl)) ?_
            with_reducible refine (spec_l06Sound.calls kj1 _ [rd_T138 l0 x3_1] true _ ?side1 A7.out).mono ?_
            (case side1 => refine Kd.C_sub (z := z138) ?_ x3_1 (of_eq_true p204) (by first | exact of_eq_true q204 | omega); repeat (first | exact (Kd.C_below HR0.out HB.out) | (with_reducible refine Kd.C_alloc ?_ _) | (with_reducible refine Kd.C_drewN ?_ _) | (with_reducible refine Kd.C_drew ?_)))
            rintro e w' ⟨rfl, ⟨nd, rfl⟩⟩
            refine ⟨_, rfl, ?_⟩
            refine hK.out _ _ ⟨(cu_ HB.out hw204_0), (cu_ HB.out hw204_1), (cu_ HB.out hw204_2), (cu_ HB.out hw204_3), (cu_ HB.out hw204_4), (cu_ HB.out hw204_5), (cu_ HB.out hw206_0), (cu_ HB.out hw206_1), (cu_ HB.out hw206_2), (cu_ HB.out hw206_3), (cu_ HB.out hw206_4), (cu_ HB.out hw206_5), (cu_ HB.out hw207_0), (cu_ HB.out hw207_1), (cu_ HB.out hw207_2), (cu_ HB.out hw207_3), (cu_ HB.out hw207_4), (cu_ HB.out hw207_5)⟩ (fun hHeld => ?_)
            clear hK K
            refine norm_ (a' := ?_) ?_ ?_
            rotate_left
            ·show Act.put _ (some 18) _ = _
             pw_
            refine pure_ (i := 4) (N := some 19) (v := ?_) (a' := ?_) spec_l06Are.z5 rfl rfl (any_of HT_.out (by kernel_rfl)) (fun _ _ _ h => h) (Or.inl ⟨by rfl, ?_⟩) ?_ ?_
            pv_
            refine pure_ (i := 5) (N := some 20) (v := ?_) (a' := ?_) spec_l06Are.z6 rfl rfl (any_of HT_.out (by kernel_rfl)) (fun _ _ _ h => h) (Or.inl ⟨by rfl, ?_⟩) ?_ ?_
            pv_
            refine pure_ (i := 6) (N := some 21) (v := ?_) (a' := ?_) spec_l06Are.z7 rfl rfl (any_of HT_.out (by kernel_rfl)) (fun _ _ _ h => h) (Or.inl ⟨by rfl, ?_⟩) ?_ ?_
            pv_
            refine pure_ (i := 7) (N := some 22) (v := ?_) (a' := ?_) spec_l06Are.z8 rfl rfl (any_of HT_.out (by kernel_rfl)) (fun _ _ _ h => h) (Or.inl ⟨by rfl, ?_⟩) ?_ ?_
            pv_
            refine pure_ (i := 8) (N := some 23) (v := ?_) (a' := ?_) spec_l06Are.z9 rfl rfl (any_of HT_.out (by kernel_rfl)) (fun _ _ _ h => h) (Or.inl ⟨by rfl, ?_⟩) ?_ ?_
            pv_
            refine pure_ (i := 9) (N := some 24) (v := ?_) (a' := ?_) spec_l06Are.z10 rfl rfl (any_of HT_.out (by kernel_rfl)) (fun _ _ _ h => h) (Or.inl ⟨by rfl, ?_⟩) ?_ ?_
            pv_
            refine pure_ (i := 12) (N := some 27) (v := ?_) (a' := ?_) spec_l06Are.z11 rfl rfl (any_of HT_.out (by kernel_rfl)) (fun _ _ _ h => h) (Or.inl ⟨by rfl, ?_⟩) ?_ ?_
            pv_
            refine pure_ (i := 13) (N := some 28) (v := ?_) (a' := ?_) spec_l06Are.z12 rfl rfl (any_of HT_.out (by kernel_rfl)) (fun _ _ _ h => h) (Or.inl ⟨by rfl, ?_⟩) ?_ ?_
            pv_
            refine pure_ (i := 14) (N := some 29) (v := ?_) (a' := ?_) spec_l06Are.z13 rfl rfl (any_of HT_.out (by kernel_rfl)) (fun _ _ _ h => h) (Or.inl ⟨by rfl, ?_⟩) ?_ ?_
            pv_
            refine take_ (i := 10) (N := some 25) (v := ?_) (a' := ?_) spec_l06Are.z14 rfl rfl (take_ofW HT_.out HW_.out (by kernel_rfl)) (fun _ _ _ h => h) (Or.inl ⟨by rfl, ?_⟩) hHeld ?_ ?_
            rotate_left
            ·rintro w' ⟨s0, s1, s2, s3, s4, s5, s6, s7, s8, s9, s10, s11, s12, s13, s14, s15, s16, s17⟩
             go_simp
             with_reducible rfl
            rotate_left
            ·pw_
            refine pure_ (i := 11) (N := some 26) (v := ?_) (a' := ?_) spec_l06Are.z15 rfl rfl (any_of HT_.out (by kernel_rfl)) (fun _ _ _ h => h) (Or.inl ⟨by rfl, ?_⟩) ?_ ?_
            pv_
            refine take_ (i := 15) (N := some 30) (v := ?_) (a' := ?_) spec_l06Are.z16 rfl rfl (take_ofW HT_.out HW_.out (by kernel_rfl)) (fun _ _ _ h => h) (Or.inl ⟨by rfl, ?_⟩) hHeld ?_ ?_
            rotate_left
            ·rintro w' ⟨s0, s1, s2, s3, s4, s5, s6, s7, s8, s9, s10, s11, s12, s13, s14, s15, s16, s17⟩
             go_simp
             with_reducible rfl
            rotate_left
            ·pw_
            refine pure_ (i := 16) (N := some 31) (v := ?_) (a' := ?_) spec_l06Are.z17 rfl rfl (any_of HT_.out (by kernel_rfl)) (fun _ _ _ h => h) (Or.inl ⟨by rfl, ?_⟩) ?_ ?_
            pv_
            refine pure_ (i := 17) (N := some 32) (v := ?_) (a' := ?_) spec_l06Are.z18 rfl rfl (any_of HT_.out (by kernel_rfl)) (fun _ _ _ h => h) (Or.inl ⟨by rfl, ?_⟩) ?_ ?_
            pv_
            refine pure_ (i := 18) (N := some 33) (v := ?_) (a' := ?_) spec_l06Are.z19 rfl rfl (any_of HT_.out (by kernel_rfl)) (fun _ _ _ h => h) (Or.inl ⟨by rfl, ?_⟩) ?_ ?_
            pv_
            refine pure_ (i := 19) (N := some 34) (v := ?_) (a' := ?_) spec_l06Are.z20 rfl rfl (any_of HT_.out (by kernel_rfl)) (fun _ _ _ h => h) (Or.inl ⟨by rfl, ?_⟩) ?_ ?_
            pv_
            refine pure_ (i := 20) (N := some 35) (v := ?_) (a' := ?_) spec_l06Are.z21 rfl rfl (any_of HT_.out (by kernel_rfl)) (fun _ _ _ h => h) (Or.inl ⟨by rfl, ?_⟩) ?_ ?_
            pv_
            refine pure_ (i := 21) (N := some 36) (v := ?_) (a' := ?_) spec_l06Are.z22 rfl rfl (any_of HT_.out (by kernel_rfl)) (fun _ _ _ h => h) (Or.inl ⟨by rfl, ?_⟩) ?_ ?_
            pv_
            refine pure_ (i := 22) (N := some 37) (v := ?_) (a' := ?_) spec_l06Are.z23 rfl rfl (any_of HT_.out (by kernel_rfl)) (fun _ _ _ h => h) (Or.inl ⟨by rfl, ?_⟩) ?_ ?_
            pv_
            refine pure_ (i := 23) (N := some 38) (v := undef) (a' := ?_) spec_l06Are.z24 rfl rfl (any_of HT_.out (by kernel_rfl)) (fun _ _ _ h => h) (Or.inr ⟨by rfl, rfl⟩) ?_ ?_
            rotate_left
            ·pw_
            refine pure_ (i := 24) (N := some 39) (v := undef) (a' := ?_) spec_l06Are.z25 rfl rfl (any_of HT_.out (by kernel_rfl)) (fun _ _ _ h => h) (Or.inr ⟨by rfl, rfl⟩) ?_ ?_
            rotate_left
            ·pw_
            refine pure_ (i := 25) (N := some 40) (v := undef) (a' := ?_) spec_l06Are.z26 rfl rfl (any_of HT_.out (by kernel_rfl)) (fun _ _ _ h => h) (Or.inr ⟨by rfl, rfl⟩) ?_ ?_
            rotate_left
            ·pw_
            refine pure_ (i := 26) (N := some 41) (v := undef) (a' := ?_) spec_l06Are.z27 rfl rfl (any_of HT_.out (by kernel_rfl)) (fun _ _ _ h => h) (Or.inr ⟨by rfl, rfl⟩) ?_ ?_
            rotate_left
            ·pw_
            refine pure_ (i := 27) (N := some 42) (v := undef) (a' := ?_) spec_l06Are.z38 rfl rfl (any_of HT_.out (by kernel_rfl)) (fun _ _ _ h => h) (Or.inr ⟨by rfl, rfl⟩) ?_ ?_
            rotate_left
            ·pw_
            refine pure_ (i := 28) (N := some 43) (v := undef) (a' := ?_) spec_l06Are.z39 rfl rfl (any_of HT_.out (by kernel_rfl)) (fun _ _ _ h => h) (Or.inr ⟨by rfl, rfl⟩) ?_ ?_
            rotate_left
            ·pw_
            refine pure_ (i := 29) (N := some 44) (v := undef) (a' := ?_) spec_l06Are.z40 rfl rfl (any_of HT_.out (by kernel_rfl)) (fun _ _ _ h => h) (Or.inr ⟨by rfl, rfl⟩) ?_ ?_
            rotate_left
            ·pw_
            refine pure_ (i := 30) (N := some 45) (v := undef) (a' := ?_) spec_l06Are.z41 rfl rfl (any_of HT_.out (by kernel_rfl)) (fun _ _ _ h => h) (Or.inr ⟨by rfl, rfl⟩) ?_ ?_
            rotate_left
            ·pw_
            refine pure_ (i := 31) (N := some 46) (v := undef) (a' := ?_) spec_l06Are.z42 rfl rfl (any_of HT_.out (by kernel_rfl)) (fun _ _ _ h => h) (Or.inr ⟨by rfl, rfl⟩) ?_ ?_
            rotate_left
            ·pw_
            refine pure_ (i := 32) (N := some 47) (v := undef) (a' := ?_) spec_l06Are.z33 rfl rfl (any_of HT_.out (by kernel_rfl)) (fun _ _ _ h => h) (Or.inr ⟨by rfl, rfl⟩) ?_ ?_
            rotate_left
            ·pw_
            refine pure_ (i := 33) (N := some 48) (v := undef) (a' := ?_) spec_l06Are.z34 rfl rfl (any_of HT_.out (by kernel_rfl)) (fun _ _ _ h => h) (Or.inr ⟨by rfl, rfl⟩) ?_ ?_
            rotate_left
            ·pw_
            refine pure_ (i := 34) (N := some 49) (v := undef) (a' := ?_) spec_l06Are.z35 rfl rfl (any_of HT_.out (by kernel_rfl)) (fun _ _ _ h => h) (Or.inr ⟨by rfl, rfl⟩) ?_ ?_
            rotate_left
            ·pw_
            refine pure_ (i := 35) (N := some 50) (v := ?_) (a' := ?_) spec_l06Are.z36 rfl rfl (any_of HT_.out (by kernel_rfl)) (fun _ _ _ h => h) (Or.inl ⟨by rfl, ?_⟩) ?_ ?_
            pv_
            refine pure_ (i := 36) (N := some 51) (v := ?_) (a' := ?_) spec_l06Are.z37 rfl rfl (any_of HT_.out (by kernel_rfl)) (fun _ _ _ h => h) (Or.inl ⟨by rfl, ?_⟩) ?_ ?_
            pv_
            refine done_ (done_of HT_.out (by kernel_rfl)) ?_
            try go_wp2
            go_roundg kj1
            case measure => have := HK1.out; have := HJ1.out; omega
            case rel => exact ⟨(wrap64 (x3_1 + 1)), (by first | rfl | (simp; done) | (simp [*]; done)), H', ⟨by have := HK1.out; have := HJ1.out; omega⟩, ⟨by repeat (first | (with_reducible first | exact HB.out | apply below_alloc | apply pw_below_drewN | apply below_drew1) | exact HB.out)⟩⟩
          ·rw [if_neg c10] at H
           have c10b0 : ((((rd_T138 l0 x3_1).f1).length : Int) == (((rd_T138 l0 0).f1).length : Int)) = false := beq_eq_false_iff_ne.mpr c10
           have c10b1 : ((((rd_T138 l0 x3_1).f1).length : Int) != (((rd_T138 l0 0).f1).length : Int)) = true := bne_iff_ne.mpr c10
           have c10b2 : (((rd_T138 l0 x3_1).f1).length == ((rd_T138 l0 0).f1).length) = false := by first | simpa using c10 | (simp at c10 ⊢; omega)
           obtain rfl := Option.some.inj H
           try go_wp2
           have n0_ := Aside0.mk (below_drew1 HB.out)
           clear HB
           have HB := n0_
           clear n0_
           have p204 : 0 ≤ (x3_1 : Int) := of_decide_eq_true (by first | (with_reducible assumption) | assumption)
           have q204 : x3_1 < (l0.length : Int) := of_decide_eq_true (by first | (with_reducible assumption) | assumption)
           obtain ⟨ad204, A204_1, c204_1, e204, hx204_0, hx204_1, hx204_2, hx204_3, hx204_4, hx204_5, hl204_1, hi204_1⟩ := at_T138 HR0.out x3_1 p204 q204
           have hw204_5 := hx204_5
           have hw204_4 := hx204_4
           have hw204_3 := hx204_3
           have hw204_2 := hx204_2
           have hw204_1 := hx204_1
           have hw204_0 := hx204_0
           cases e204
           replace hx204_0 := (HB.out.cell (World.block_lt_of_cell? w _ hx204_0)).trans hx204_0
           replace hx204_1 := (HB.out.cell (World.block_lt_of_cell? w _ hx204_1)).trans hx204_1
           replace hx204_2 := (HB.out.cell (World.block_lt_of_cell? w _ hx204_2)).trans hx204_2
           replace hx204_3 := (HB.out.cell (World.block_lt_of_cell? w _ hx204_3)).trans hx204_3
           replace hx204_4 := (HB.out.cell (World.block_lt_of_cell? w _ hx204_4)).trans hx204_4
           replace hx204_5 := (HB.out.cell (World.block_lt_of_cell? w _ hx204_5)).trans hx204_5
           have HR204_1 := Aside0.mk hi204_1
           have HC204_1 := Aside0.mk hl204_1
           clear hi204_1 hl204_1
           replace p204 := eq_true p204
           replace q204 := eq_true q204
           have p206 : 0 ≤ (x3_1 : Int) := of_decide_eq_true (by first | (with_reducible assumption) | assumption)
           have q206 : x3_1 < (l0.length : Int) := of_decide_eq_true (by first | (with_reducible assumption) | assumption)
           obtain ⟨ad206, A206_1, c206_1, e206, hx206_0, hx206_1, hx206_2, hx206_3, hx206_4, hx206_5, hl206_1, hi206_1⟩ := at_T138 HR0.out x3_1 p206 q206
           have hw206_5 := hx206_5
           have hw206_4 := hx206_4
           have hw206_3 := hx206_3
           have hw206_2 := hx206_2
           have hw206_1 := hx206_1
           have hw206_0 := hx206_0
           obtain rfl : ad204 = ad206 := (by injection e206)
           replace hx206_0 := (HB.out.cell (World.block_lt_of_cell? w _ hx206_0)).trans hx206_0
           replace hx206_1 := (HB.out.cell (World.block_lt_of_cell? w _ hx206_1)).trans hx206_1
           replace hx206_2 := (HB.out.cell (World.block_lt_of_cell? w _ hx206_2)).trans hx206_2
           replace hx206_3 := (HB.out.cell (World.block_lt_of_cell? w _ hx206_3)).trans hx206_3
           replace hx206_4 := (HB.out.cell (World.block_lt_of_cell? w _ hx206_4)).trans hx206_4
           replace hx206_5 := (HB.out.cell (World.block_lt_of_cell? w _ hx206_5)).trans hx206_5
           have HR206_1 := Aside0.mk hi206_1
           have HC206_1 := Aside0.mk hl206_1
           clear hi206_1 hl206_1
           replace p206 := eq_true p206
           replace q206 := eq_true q206
           have ea_ := Option.some.inj (hx204_1.symm.trans hx206_1)
           injection ea_ with ea_ en_ ec_
           subst ea_
           subst ec_
           clear en_
           have p207 : 0 ≤ (0 : Int) := (by omega)
           have q207 : 0 < (l0.length : Int) := of_decide_eq_true (by first | (with_reducible assumption) | assumption)
           obtain ⟨ad207, A207_1, c207_1, e207, hx207_0, hx207_1, hx207_2, hx207_3, hx207_4, hx207_5, hl207_1, hi207_1⟩ := at_T138 HR0.out 0 p207 q207
           have hw207_5 := hx207_5
           (try rw [show ((0 : Int)).toNat = 0 from rfl] at hw207_5)
           (try rw [show 0 * 6 = 0 from rfl] at hw207_5)
           (try rw [Addr.add_zero'] at hw207_5)
           have hw207_4 := hx207_4
           (try rw [show ((0 : Int)).toNat = 0 from rfl] at hw207_4)
           (try rw [show 0 * 6 = 0 from rfl] at hw207_4)
           (try rw [Addr.add_zero'] at hw207_4)
           have hw207_3 := hx207_3
           (try rw [show ((0 : Int)).toNat = 0 from rfl] at hw207_3)
           (try rw [show 0 * 6 = 0 from rfl] at hw207_3)
           (try rw [Addr.add_zero'] at hw207_3)
           have hw207_2 := hx207_2
           (try rw [show ((0 : Int)).toNat = 0 from rfl] at hw207_2)
           (try rw [show 0 * 6 = 0 from rfl] at hw207_2)
           (try rw [Addr.add_zero'] at hw207_2)
           have hw207_1 := hx207_1
           (try rw [show ((0 : Int)).toNat = 0 from rfl] at hw207_1)
           (try rw [show 0 * 6 = 0 from rfl] at hw207_1)
           (try rw [Addr.add_zero'] at hw207_1)
           have hw207_0 := hx207_0
           (try rw [show ((0 : Int)).toNat = 0 from rfl] at hw207_0)
           (try rw [show 0 * 6 = 0 from rfl] at hw207_0)
           (try rw [Addr.add_zero'] at hw207_0)
           obtain rfl : ad204 = ad207 := (by injection e207)
           have qi207 : (0 < l0.length) = True := eq_true (by omega)
           (try rw [show ((0 : Int)).toNat = 0 from rfl] at hx207_0)
           (try rw [show 0 * 6 = 0 from rfl] at hx207_0)
           (try rw [Addr.add_zero'] at hx207_0)
           (try rw [show ((0 : Int)).toNat = 0 from rfl] at hx207_1)
           (try rw [show 0 * 6 = 0 from rfl] at hx207_1)
           (try rw [Addr.add_zero'] at hx207_1)
           (try rw [show ((0 : Int)).toNat = 0 from rfl] at hx207_2)
           (try rw [show 0 * 6 = 0 from rfl] at hx207_2)
           (try rw [Addr.add_zero'] at hx207_2)
           (try rw [show ((0 : Int)).toNat = 0 from rfl] at hx207_3)
           (try rw [show 0 * 6 = 0 from rfl] at hx207_3)
           (try rw [Addr.add_zero'] at hx207_3)
           (try rw [show ((0 : Int)).toNat = 0 from rfl] at hx207_4)
           (try rw [show 0 * 6 = 0 from rfl] at hx207_4)
           (try rw [Addr.add_zero'] at hx207_4)
           (try rw [show ((0 : Int)).toNat = 0 from rfl] at hx207_5)
           (try rw [show 0 * 6 = 0 from rfl] at hx207_5)
           (try rw [Addr.add_zero'] at hx207_5)
           replace hx207_0 := (HB.out.cell (World.block_lt_of_cell? w _ hx207_0)).trans hx207_0
           replace hx207_1 := (HB.out.cell (World.block_lt_of_cell? w _ hx207_1)).trans hx207_1
           replace hx207_2 := (HB.out.cell (World.block_lt_of_cell? w _ hx207_2)).trans hx207_2
           replace hx207_3 := (HB.out.cell (World.block_lt_of_cell? w _ hx207_3)).trans hx207_3
           replace hx207_4 := (HB.out.cell (World.block_lt_of_cell? w _ hx207_4)).trans hx207_4
           replace hx207_5 := (HB.out.cell (World.block_lt_of_cell? w _ hx207_5)).trans hx207_5
           have HR207_1 := Aside0.mk hi207_1
           have HC207_1 := Aside0.mk hl207_1
           clear hi207_1 hl207_1
           replace p207 := eq_true p207
           replace q207 := eq_true q207
           refine start_ (n := 37) (S := fun w' => w'.cell? (ad204.add ((x3_1).toNat * 6)) = some (.string ((rd_T138 l0 x3_1).f0)) ∧ w'.cell? ⟨(ad204.add ((x3_1).toNat * 6)).block, (ad204.add ((x3_1).toNat * 6)).off + 1, none⟩ = some (.slice A204_1 ((rd_T138 l0 x3_1).f1).length c204_1) ∧ w'.cell? ⟨(ad204.add ((x3_1).toNat * 6)).block, (ad204.add ((x3_1).toNat * 6)).off + 2, none⟩ = some (.float .f32 ((rd_T138 l0 x3_1).f2)) ∧ w'.cell? ⟨(ad204.add ((x3_1).toNat * 6)).block, (ad204.add ((x3_1).toNat * 6)).off + 3, none⟩ = some (.float .f32 ((rd_T138 l0 x3_1).f3)) ∧ w'.cell? ⟨(ad204.add ((x3_1).toNat * 6)).block, (ad204.add ((x3_1).toNat * 6)).off + 4, none⟩ = some (.float .f32 ((rd_T138 l0 x3_1).f4)) ∧ w'.cell? ⟨(ad204.add ((x3_1).toNat * 6)).block, (ad204.add ((x3_1).toNat * 6)).off + 5, none⟩ = some (.float .f32 ((rd_T138 l0 x3_1).f5)) ∧ w'.cell? (ad204.add ((x3_1).toNat * 6)) = some (.string ((rd_T138 l0 x3_1).f0)) ∧ w'.cell? ⟨(ad204.add ((x3_1).toNat * 6)).block, (ad204.add ((x3_1).toNat * 6)).off + 1, none⟩ = some (.slice A204_1 ((rd_T138 l0 x3_1).f1).length c204_1) ∧ w'.cell? ⟨(ad204.add ((x3_1).toNat * 6)).block, (ad204.add ((x3_1).toNat * 6)).off + 2, none⟩ = some (.float .f32 ((rd_T138 l0 x3_1).f2)) ∧ w'.cell? ⟨(ad204.add ((x3_1).toNat * 6)).block, (ad204.add ((x3_1).toNat * 6)).off + 3, none⟩ = some (.float .f32 ((rd_T138 l0 x3_1).f3)) ∧ w'.cell? ⟨(ad204.add ((x3_1).toNat * 6)).block, (ad204.add ((x3_1).toNat * 6)).off + 4, none⟩ = some (.float .f32 ((rd_T138 l0 x3_1).f4)) ∧ w'.cell? ⟨(ad204.add ((x3_1).toNat * 6)).block, (ad204.add ((x3_1).toNat * 6)).off + 5, none⟩ = some (.float .f32 ((rd_T138 l0 x3_1).f5)) ∧ w'.cell? ad204 = some (.string ((rd_T138 l0 0).f0)) ∧ w'.cell? ⟨ad204.block, ad204.off + 1, none⟩ = some (.slice A207_1 ((rd_T138 l0 0).f1).length c207_1) ∧ w'.cell? ⟨ad204.block, ad204.off + 2, none⟩ = some (.float .f32 ((rd_T138 l0 0).f2)) ∧ w'.cell? ⟨ad204.block, ad204.off + 3, none⟩ = some (.float .f32 ((rd_T138 l0 0).f3)) ∧ w'.cell? ⟨ad204.block, ad204.off + 4, none⟩ = some (.float .f32 ((rd_T138 l0 0).f4)) ∧ w'.cell? ⟨ad204.block, ad204.off + 5, none⟩ = some (.float .f32 ((rd_T138 l0 0).f5))) (ds := []) spec_l06Are.z0 (by kernel_rfl) rfl rfl ⟨(cu_ HB.out hw204_0), (cu_ HB.out hw204_1), (cu_ HB.out hw204_2), (cu_ HB.out hw204_3), (cu_ HB.out hw204_4), (cu_ HB.out hw204_5), (cu_ HB.out hw206_0), (cu_ HB.out hw206_1), (cu_ HB.out hw206_2), (cu_ HB.out hw206_3), (cu_ HB.out hw206_4), (cu_ HB.out hw206_5), (cu_ HB.out hw207_0), (cu_ HB.out hw207_1), (cu_ HB.out hw207_2), (cu_ HB.out hw207_3), (cu_ HB.out hw207_4), (cu_ HB.out hw207_5)⟩ (fun hHeld => ?_); refine with_tabW spec_l06Are.tab4 spec_l06Are.bits4 (fun HT_ HW_ => ?_)
           generalize wc.drew = w19 at HB HR204_1 HR206_1 HR207_1 hx204_0 hx204_1 hx204_2 hx204_3 hx204_4 hx204_5 hx206_0 hx206_1 hx206_2 hx206_3 hx206_4 hx206_5 hx207_0 hx207_1 hx207_2 hx207_3 hx207_4 hx207_5 hHeld ⊢
           refine pure_ (i := 0) (N := some 15) (v := ?_) (a' := ?_) spec_l06Are.z1 rfl rfl (any_of HT_.out (by kernel_rfl)) (fun _ _ _ h => h) (Or.inl ⟨by rfl, ?_⟩) ?_ ?_
           pv_
           refine pure_ (i := 1) (N := some 16) (v := ?_) (a' := ?_) spec_l06Are.z2 rfl rfl (any_of HT_.out (by kernel_rfl)) (fun _ _ _ h => h) (Or.inl ⟨by rfl, ?_⟩) ?_ ?_
           pv_
           refine pure_ (i := 2) (N := some 17) (v := ?_) (a' := ?_) spec_l06Are.z3 rfl rfl (any_of HT_.out (by kernel_rfl)) (fun _ _ _ h => h) (Or.inl ⟨by rfl, ?_⟩) ?_ ?_
           pv_
           refine one_ (i := 3) (N := some 18) spec_l06Are.z4 rfl rfl (one_of HT_.out (by kernel_rfl)) (by decide) (fun K hK => ?_)
           refine goes_ Try.func166 (by kernel_rfl) rfl #[.pointer (some (Addr.add ad204 ((x3_1 : Int).toNat * 6)))] (by rfl) rfl rfl (by (try simp only [List.map_toArray, List.map_cons, List.map_nil]); first | done | rfl | (simp only [List.length_drop, List.length_take]; rfl)) ?_
           with_reducible refine (spec_l06Sound.calls kj1 _ [rd_T138 l0 x3_1] true _ ?side1 A7.out).mono ?_
           (case side1 => refine Kd.C_sub (z := z138) ?_ x3_1 (of_eq_true p204) (by first | exact of_eq_true q204 | omega); repeat (first | exact (Kd.C_below HR0.out HB.out) | (with_reducible refine Kd.C_alloc ?_ _) | (with_reducible refine Kd.C_drewN ?_ _) | (with_reducible refine Kd.C_drew ?_)))
           rintro e w' ⟨rfl, ⟨nd, rfl⟩⟩
           refine ⟨_, rfl, ?_⟩
           refine hK.out _ _ ⟨(cu_ HB.out hw204_0), (cu_ HB.out hw204_1), (cu_ HB.out hw204_2), (cu_ HB.out hw204_3), (cu_ HB.out hw204_4), (cu_ HB.out hw204_5), (cu_ HB.out hw206_0), (cu_ HB.out hw206_1), (cu_ HB.out hw206_2), (cu_ HB.out hw206_3), (cu_ HB.out hw206_4), (cu_ HB.out hw206_5), (cu_ HB.out hw207_0), (cu_ HB.out hw207_1), (cu_ HB.out hw207_2), (cu_ HB.out hw207_3), (cu_ HB.out hw207_4), (cu_ HB.out hw207_5)⟩ (fun hHeld => ?_)
           clear hK K
           refine norm_ (a' := ?_) ?_ ?_
           rotate_left
           ·show Act.put _ (some 18) _ = _
            pw_
           refine pure_ (i := 4) (N := some 19) (v := ?_) (a' := ?_) spec_l06Are.z5 rfl rfl (any_of HT_.out (by kernel_rfl)) (fun _ _ _ h => h) (Or.inl ⟨by rfl, ?_⟩) ?_ ?_
           pv_
           refine pure_ (i := 5) (N := some 20) (v := ?_) (a' := ?_) spec_l06Are.z6 rfl rfl (any_of HT_.out (by kernel_rfl)) (fun _ _ _ h => h) (Or.inl ⟨by rfl, ?_⟩) ?_ ?_
           pv_
           refine pure_ (i := 6) (N := some 21) (v := ?_) (a' := ?_) spec_l06Are.z7 rfl rfl (any_of HT_.out (by kernel_rfl)) (fun _ _ _ h => h) (Or.inl ⟨by rfl, ?_⟩) ?_ ?_
           pv_
           refine pure_ (i := 7) (N := some 22) (v := ?_) (a' := ?_) spec_l06Are.z8 rfl rfl (any_of HT_.out (by kernel_rfl)) (fun _ _ _ h => h) (Or.inl ⟨by rfl, ?_⟩) ?_ ?_
           pv_
           refine pure_ (i := 8) (N := some 23) (v := ?_) (a' := ?_) spec_l06Are.z9 rfl rfl (any_of HT_.out (by kernel_rfl)) (fun _ _ _ h => h) (Or.inl ⟨by rfl, ?_⟩) ?_ ?_
           pv_
           refine pure_ (i := 9) (N := some 24) (v := ?_) (a' := ?_) spec_l06Are.z10 rfl rfl (any_of HT_.out (by kernel_rfl)) (fun _ _ _ h => h) (Or.inl ⟨by rfl, ?_⟩) ?_ ?_
           pv_
           refine pure_ (i := 12) (N := some 27) (v := ?_) (a' := ?_) spec_l06Are.z11 rfl rfl (any_of HT_.out (by kernel_rfl)) (fun _ _ _ h => h) (Or.inl ⟨by rfl, ?_⟩) ?_ ?_
           pv_
           refine pure_ (i := 13) (N := some 28) (v := ?_) (a' := ?_) spec_l06Are.z12 rfl rfl (any_of HT_.out (by kernel_rfl)) (fun _ _ _ h => h) (Or.inl ⟨by rfl, ?_⟩) ?_ ?_
           pv_
           refine pure_ (i := 14) (N := some 29) (v := ?_) (a' := ?_) spec_l06Are.z13 rfl rfl (any_of HT_.out (by kernel_rfl)) (fun _ _ _ h => h) (Or.inl ⟨by rfl, ?_⟩) ?_ ?_
           pv_
           refine take_ (i := 10) (N := some 25) (v := ?_) (a' := ?_) spec_l06Are.z14 rfl rfl (take_ofW HT_.out HW_.out (by kernel_rfl)) (fun _ _ _ h => h) (Or.inl ⟨by rfl, ?_⟩) hHeld ?_ ?_
           rotate_left
           ·rintro w' ⟨s0, s1, s2, s3, s4, s5, s6, s7, s8, s9, s10, s11, s12, s13, s14, s15, s16, s17⟩
            go_simp
            with_reducible rfl
           rotate_left
           ·pw_
           refine pure_ (i := 11) (N := some 26) (v := ?_) (a' := ?_) spec_l06Are.z15 rfl rfl (any_of HT_.out (by kernel_rfl)) (fun _ _ _ h => h) (Or.inl ⟨by rfl, ?_⟩) ?_ ?_
           pv_
           refine take_ (i := 15) (N := some 30) (v := ?_) (a' := ?_) spec_l06Are.z16 rfl rfl (take_ofW HT_.out HW_.out (by kernel_rfl)) (fun _ _ _ h => h) (Or.inl ⟨by rfl, ?_⟩) hHeld ?_ ?_
           rotate_left
           ·rintro w' ⟨s0, s1, s2, s3, s4, s5, s6, s7, s8, s9, s10, s11, s12, s13, s14, s15, s16, s17⟩
            go_simp
            with_reducible rfl
           rotate_left
           ·pw_
           refine pure_ (i := 16) (N := some 31) (v := ?_) (a' := ?_) spec_l06Are.z17 rfl rfl (any_of HT_.out (by kernel_rfl)) (fun _ _ _ h => h) (Or.inl ⟨by rfl, ?_⟩) ?_ ?_
           pv_
           refine pure_ (i := 17) (N := some 32) (v := ?_) (a' := ?_) spec_l06Are.z18 rfl rfl (any_of HT_.out (by kernel_rfl)) (fun _ _ _ h => h) (Or.inl ⟨by rfl, ?_⟩) ?_ ?_
           pv_
           refine pure_ (i := 18) (N := some 33) (v := ?_) (a' := ?_) spec_l06Are.z19 rfl rfl (any_of HT_.out (by kernel_rfl)) (fun _ _ _ h => h) (Or.inl ⟨by rfl, ?_⟩) ?_ ?_
           pv_
           refine pure_ (i := 19) (N := some 34) (v := ?_) (a' := ?_) spec_l06Are.z20 rfl rfl (any_of HT_.out (by kernel_rfl)) (fun _ _ _ h => h) (Or.inl ⟨by rfl, ?_⟩) ?_ ?_
           pv_
           refine pure_ (i := 20) (N := some 35) (v := undef) (a' := ?_) spec_l06Are.z21 rfl rfl (any_of HT_.out (by kernel_rfl)) (fun _ _ _ h => h) (Or.inr ⟨by rfl, rfl⟩) ?_ ?_
           rotate_left
           ·pw_
           refine pure_ (i := 21) (N := some 36) (v := undef) (a' := ?_) spec_l06Are.z22 rfl rfl (any_of HT_.out (by kernel_rfl)) (fun _ _ _ h => h) (Or.inr ⟨by rfl, rfl⟩) ?_ ?_
           rotate_left
           ·pw_
           refine pure_ (i := 22) (N := some 37) (v := undef) (a' := ?_) spec_l06Are.z23 rfl rfl (any_of HT_.out (by kernel_rfl)) (fun _ _ _ h => h) (Or.inr ⟨by rfl, rfl⟩) ?_ ?_
           rotate_left
           ·pw_
           refine pure_ (i := 23) (N := some 38) (v := undef) (a' := ?_) spec_l06Are.z24 rfl rfl (any_of HT_.out (by kernel_rfl)) (fun _ _ _ h => h) (Or.inr ⟨by rfl, rfl⟩) ?_ ?_
           rotate_left
           ·pw_
           refine pure_ (i := 24) (N := some 39) (v := undef) (a' := ?_) spec_l06Are.z25 rfl rfl (any_of HT_.out (by kernel_rfl)) (fun _ _ _ h => h) (Or.inr ⟨by rfl, rfl⟩) ?_ ?_
           rotate_left
           ·pw_
           refine pure_ (i := 25) (N := some 40) (v := undef) (a' := ?_) spec_l06Are.z26 rfl rfl (any_of HT_.out (by kernel_rfl)) (fun _ _ _ h => h) (Or.inr ⟨by rfl, rfl⟩) ?_ ?_
           rotate_left
           ·pw_
           refine pure_ (i := 26) (N := some 41) (v := undef) (a' := ?_) spec_l06Are.z27 rfl rfl (any_of HT_.out (by kernel_rfl)) (fun _ _ _ h => h) (Or.inr ⟨by rfl, rfl⟩) ?_ ?_
           rotate_left
           ·pw_
           refine pure_ (i := 27) (N := some 42) (v := undef) (a' := ?_) spec_l06Are.z38 rfl rfl (any_of HT_.out (by kernel_rfl)) (fun _ _ _ h => h) (Or.inr ⟨by rfl, rfl⟩) ?_ ?_
           rotate_left
           ·pw_
           refine pure_ (i := 28) (N := some 43) (v := undef) (a' := ?_) spec_l06Are.z39 rfl rfl (any_of HT_.out (by kernel_rfl)) (fun _ _ _ h => h) (Or.inr ⟨by rfl, rfl⟩) ?_ ?_
           rotate_left
           ·pw_
           refine pure_ (i := 29) (N := some 44) (v := undef) (a' := ?_) spec_l06Are.z40 rfl rfl (any_of HT_.out (by kernel_rfl)) (fun _ _ _ h => h) (Or.inr ⟨by rfl, rfl⟩) ?_ ?_
           rotate_left
           ·pw_
           refine pure_ (i := 30) (N := some 45) (v := undef) (a' := ?_) spec_l06Are.z41 rfl rfl (any_of HT_.out (by kernel_rfl)) (fun _ _ _ h => h) (Or.inr ⟨by rfl, rfl⟩) ?_ ?_
           rotate_left
           ·pw_
           refine pure_ (i := 31) (N := some 46) (v := undef) (a' := ?_) spec_l06Are.z42 rfl rfl (any_of HT_.out (by kernel_rfl)) (fun _ _ _ h => h) (Or.inr ⟨by rfl, rfl⟩) ?_ ?_
           rotate_left
           ·pw_
           refine pure_ (i := 32) (N := some 47) (v := undef) (a' := ?_) spec_l06Are.z33 rfl rfl (any_of HT_.out (by kernel_rfl)) (fun _ _ _ h => h) (Or.inr ⟨by rfl, rfl⟩) ?_ ?_
           rotate_left
           ·pw_
           refine pure_ (i := 33) (N := some 48) (v := undef) (a' := ?_) spec_l06Are.z34 rfl rfl (any_of HT_.out (by kernel_rfl)) (fun _ _ _ h => h) (Or.inr ⟨by rfl, rfl⟩) ?_ ?_
           rotate_left
           ·pw_
           refine pure_ (i := 34) (N := some 49) (v := undef) (a' := ?_) spec_l06Are.z35 rfl rfl (any_of HT_.out (by kernel_rfl)) (fun _ _ _ h => h) (Or.inr ⟨by rfl, rfl⟩) ?_ ?_
           rotate_left
           ·pw_
           refine pure_ (i := 35) (N := some 50) (v := undef) (a' := ?_) spec_l06Are.z36 rfl rfl (any_of HT_.out (by kernel_rfl)) (fun _ _ _ h => h) (Or.inr ⟨by rfl, rfl⟩) ?_ ?_
           rotate_left
           ·pw_
           refine pure_ (i := 36) (N := some 51) (v := ?_) (a' := ?_) spec_l06Are.z37 rfl rfl (any_of HT_.out (by kernel_rfl)) (fun _ _ _ h => h) (Or.inl ⟨by rfl, ?_⟩) ?_ ?_
           pv_
           refine done_ (done_of HT_.out (by kernel_rfl)) ?_
           try go_wp2
           go_ret
           exact ⟨by first | rfl | (simp [errW_none, errW_some] <;> rfl) | (simp [*, errW_none, errW_some] <;> rfl), by repeat (first | (with_reducible first | exact HB.out | apply below_alloc | apply pw_below_drewN | apply below_drew1) | exact HB.out)⟩
         ·rw [if_neg c9] at H
          exact absurd H (by simp)
        ·replace c8 := Bool.eq_false_iff.mpr c8
         subst c8
         have H1 : (some false) = some r := by rw [if_neg (show ¬ (false = true) by decide)] at H; exact H
         clear H
         have H := H1
         clear H1
         obtain rfl := Option.some.inj H
         try go_wp2
         have n0_ := Aside0.mk (below_drew1 HB.out)
         clear HB
         have HB := n0_
         clear n0_
         have p204 : 0 ≤ (x3_1 : Int) := of_decide_eq_true (by first | (with_reducible assumption) | assumption)
         have q204 : x3_1 < (l0.length : Int) := of_decide_eq_true (by first | (with_reducible assumption) | assumption)
         obtain ⟨ad204, A204_1, c204_1, e204, hx204_0, hx204_1, hx204_2, hx204_3, hx204_4, hx204_5, hl204_1, hi204_1⟩ := at_T138 HR0.out x3_1 p204 q204
         have hw204_5 := hx204_5
         have hw204_4 := hx204_4
         have hw204_3 := hx204_3
         have hw204_2 := hx204_2
         have hw204_1 := hx204_1
         have hw204_0 := hx204_0
         cases e204
         replace hx204_0 := (HB.out.cell (World.block_lt_of_cell? w _ hx204_0)).trans hx204_0
         replace hx204_1 := (HB.out.cell (World.block_lt_of_cell? w _ hx204_1)).trans hx204_1
         replace hx204_2 := (HB.out.cell (World.block_lt_of_cell? w _ hx204_2)).trans hx204_2
         replace hx204_3 := (HB.out.cell (World.block_lt_of_cell? w _ hx204_3)).trans hx204_3
         replace hx204_4 := (HB.out.cell (World.block_lt_of_cell? w _ hx204_4)).trans hx204_4
         replace hx204_5 := (HB.out.cell (World.block_lt_of_cell? w _ hx204_5)).trans hx204_5
         have HR204_1 := Aside0.mk hi204_1
         have HC204_1 := Aside0.mk hl204_1
         clear hi204_1 hl204_1
         replace p204 := eq_true p204
         replace q204 := eq_true q204
         refine start_ (n := 37) (S := fun w' => w'.cell? (ad204.add ((x3_1).toNat * 6)) = some (.string ((rd_T138 l0 x3_1).f0)) ∧ w'.cell? ⟨(ad204.add ((x3_1).toNat * 6)).block, (ad204.add ((x3_1).toNat * 6)).off + 1, none⟩ = some (.slice A204_1 ((rd_T138 l0 x3_1).f1).length c204_1) ∧ w'.cell? ⟨(ad204.add ((x3_1).toNat * 6)).block, (ad204.add ((x3_1).toNat * 6)).off + 2, none⟩ = some (.float .f32 ((rd_T138 l0 x3_1).f2)) ∧ w'.cell? ⟨(ad204.add ((x3_1).toNat * 6)).block, (ad204.add ((x3_1).toNat * 6)).off + 3, none⟩ = some (.float .f32 ((rd_T138 l0 x3_1).f3)) ∧ w'.cell? ⟨(ad204.add ((x3_1).toNat * 6)).block, (ad204.add ((x3_1).toNat * 6)).off + 4, none⟩ = some (.float .f32 ((rd_T138 l0 x3_1).f4)) ∧ w'.cell? ⟨(ad204.add ((x3_1).toNat * 6)).block, (ad204.add ((x3_1).toNat * 6)).off + 5, none⟩ = some (.float .f32 ((rd_T138 l0 x3_1).f5))) (ds := []) spec_l06Are.z0 (by kernel_rfl) rfl rfl ⟨(cu_ HB.out hw204_0), (cu_ HB.out hw204_1), (cu_ HB.out hw204_2), (cu_ HB.out hw204_3), (cu_ HB.out hw204_4), (cu_ HB.out hw204_5)⟩ (fun hHeld => ?_); refine with_tabW spec_l06Are.tab4 spec_l06Are.bits4 (fun HT_ HW_ => ?_)
         generalize wc.drew = w20 at HB HR204_1 hx204_0 hx204_1 hx204_2 hx204_3 hx204_4 hx204_5 hHeld ⊢
         refine pure_ (i := 0) (N := some 15) (v := ?_) (a' := ?_) spec_l06Are.z1 rfl rfl (any_of HT_.out (by kernel_rfl)) (fun _ _ _ h => h) (Or.inl ⟨by rfl, ?_⟩) ?_ ?_
         pv_
         refine pure_ (i := 1) (N := some 16) (v := ?_) (a' := ?_) spec_l06Are.z2 rfl rfl (any_of HT_.out (by kernel_rfl)) (fun _ _ _ h => h) (Or.inl ⟨by rfl, ?_⟩) ?_ ?_
         pv_
         refine pure_ (i := 2) (N := some 17) (v := ?_) (a' := ?_) spec_l06Are.z3 rfl rfl (any_of HT_.out (by kernel_rfl)) (fun _ _ _ h => h) (Or.inl ⟨by rfl, ?_⟩) ?_ ?_
         pv_
         refine one_ (i := 3) (N := some 18) spec_l06Are.z4 rfl rfl (one_of HT_.out (by kernel_rfl)) (by decide) (fun K hK => ?_)
         refine goes_ Try.func166 (by kernel_rfl) rfl #[.pointer (some (Addr.add ad204 ((x3_1 : Int).toNat * 6)))] (by rfl) rfl rfl (by (try simp only [List.map_toArray, List.map_cons, List.map_nil]); first | done | rfl | (simp only [List.length_drop, List.length_take]; rfl)) ?_
         with_reducible refine (spec_l06Sound.calls kj1 _ [rd_T138 l0 x3_1] false _ ?side1 A7.out).mono ?_
         (case side1 => refine Kd.C_sub (z := z138) ?_ x3_1 (of_eq_true p204) (by first | exact of_eq_true q204 | omega); repeat (first | exact (Kd.C_below HR0.out HB.out) | (with_reducible refine Kd.C_alloc ?_ _) | (with_reducible refine Kd.C_drewN ?_ _) | (with_reducible refine Kd.C_drew ?_)))
         rintro e w' ⟨rfl, ⟨nd, rfl⟩⟩
         refine ⟨_, rfl, ?_⟩
         refine hK.out _ _ ⟨(cu_ HB.out hw204_0), (cu_ HB.out hw204_1), (cu_ HB.out hw204_2), (cu_ HB.out hw204_3), (cu_ HB.out hw204_4), (cu_ HB.out hw204_5)⟩ (fun hHeld => ?_)
         clear hK K
         refine norm_ (a' := ?_) ?_ ?_
         rotate_left
         ·show Act.put _ (some 18) _ = _
          pw_
         refine pure_ (i := 4) (N := some 19) (v := ?_) (a' := ?_) spec_l06Are.z5 rfl rfl (any_of HT_.out (by kernel_rfl)) (fun _ _ _ h => h) (Or.inl ⟨by rfl, ?_⟩) ?_ ?_
         pv_
         refine pure_ (i := 5) (N := some 20) (v := ?_) (a' := ?_) spec_l06Are.z6 rfl rfl (any_of HT_.out (by kernel_rfl)) (fun _ _ _ h => h) (Or.inl ⟨by rfl, ?_⟩) ?_ ?_
         pv_
         refine pure_ (i := 6) (N := some 21) (v := undef) (a' := ?_) spec_l06Are.z7 rfl rfl (any_of HT_.out (by kernel_rfl)) (fun _ _ _ h => h) (Or.inr ⟨by rfl, rfl⟩) ?_ ?_
         rotate_left
         ·pw_
         refine pure_ (i := 7) (N := some 22) (v := undef) (a' := ?_) spec_l06Are.z8 rfl rfl (any_of HT_.out (by kernel_rfl)) (fun _ _ _ h => h) (Or.inr ⟨by rfl, rfl⟩) ?_ ?_
         rotate_left
         ·pw_
         refine pure_ (i := 8) (N := some 23) (v := undef) (a' := ?_) spec_l06Are.z9 rfl rfl (any_of HT_.out (by kernel_rfl)) (fun _ _ _ h => h) (Or.inr ⟨by rfl, rfl⟩) ?_ ?_
         rotate_left
         ·pw_
         refine pure_ (i := 9) (N := some 24) (v := undef) (a' := ?_) spec_l06Are.z10 rfl rfl (any_of HT_.out (by kernel_rfl)) (fun _ _ _ h => h) (Or.inr ⟨by rfl, rfl⟩) ?_ ?_
         rotate_left
         ·pw_
         refine pure_ (i := 10) (N := some 25) (v := undef) (a' := ?_) spec_l06Are.z43 rfl rfl (any_of HT_.out (by kernel_rfl)) (fun _ _ _ h => h) (Or.inr ⟨by rfl, rfl⟩) ?_ ?_
         rotate_left
         ·pw_
         refine pure_ (i := 11) (N := some 26) (v := undef) (a' := ?_) spec_l06Are.z44 rfl rfl (any_of HT_.out (by kernel_rfl)) (fun _ _ _ h => h) (Or.inr ⟨by rfl, rfl⟩) ?_ ?_
         rotate_left
         ·pw_
         refine pure_ (i := 12) (N := some 27) (v := undef) (a' := ?_) spec_l06Are.z45 rfl rfl (any_of HT_.out (by kernel_rfl)) (fun _ _ _ h => h) (Or.inr ⟨by rfl, rfl⟩) ?_ ?_
         rotate_left
         ·pw_
         refine pure_ (i := 13) (N := some 28) (v := undef) (a' := ?_) spec_l06Are.z46 rfl rfl (any_of HT_.out (by kernel_rfl)) (fun _ _ _ h => h) (Or.inr ⟨by rfl, rfl⟩) ?_ ?_
         rotate_left
         ·pw_
         refine pure_ (i := 14) (N := some 29) (v := undef) (a' := ?_) spec_l06Are.z15 rfl rfl (any_of HT_.out (by kernel_rfl)) (fun _ _ _ h => h) (Or.inr ⟨by rfl, rfl⟩) ?_ ?_
         rotate_left
         ·pw_
         refine pure_ (i := 15) (N := some 30) (v := undef) (a' := ?_) spec_l06Are.z16 rfl rfl (any_of HT_.out (by kernel_rfl)) (fun _ _ _ h => h) (Or.inr ⟨by rfl, rfl⟩) ?_ ?_
         rotate_left
         ·pw_
         refine pure_ (i := 16) (N := some 31) (v := undef) (a' := ?_) spec_l06Are.z17 rfl rfl (any_of HT_.out (by kernel_rfl)) (fun _ _ _ h => h) (Or.inr ⟨by rfl, rfl⟩) ?_ ?_
         rotate_left
         ·pw_
         refine pure_ (i := 17) (N := some 32) (v := undef) (a' := ?_) spec_l06Are.z18 rfl rfl (any_of HT_.out (by kernel_rfl)) (fun _ _ _ h => h) (Or.inr ⟨by rfl, rfl⟩) ?_ ?_
         rotate_left
         ·pw_
         refine pure_ (i := 18) (N := some 33) (v := ?_) (a' := ?_) spec_l06Are.z19 rfl rfl (any_of HT_.out (by kernel_rfl)) (fun _ _ _ h => h) (Or.inl ⟨by rfl, ?_⟩) ?_ ?_
         pv_
         refine pure_ (i := 19) (N := some 34) (v := ?_) (a' := ?_) spec_l06Are.z20 rfl rfl (any_of HT_.out (by kernel_rfl)) (fun _ _ _ h => h) (Or.inl ⟨by rfl, ?_⟩) ?_ ?_
         pv_
         refine pure_ (i := 20) (N := some 35) (v := undef) (a' := ?_) spec_l06Are.z21 rfl rfl (any_of HT_.out (by kernel_rfl)) (fun _ _ _ h => h) (Or.inr ⟨by rfl, rfl⟩) ?_ ?_
         rotate_left
         ·pw_
         refine pure_ (i := 21) (N := some 36) (v := undef) (a' := ?_) spec_l06Are.z22 rfl rfl (any_of HT_.out (by kernel_rfl)) (fun _ _ _ h => h) (Or.inr ⟨by rfl, rfl⟩) ?_ ?_
         rotate_left
         ·pw_
         refine pure_ (i := 22) (N := some 37) (v := undef) (a' := ?_) spec_l06Are.z23 rfl rfl (any_of HT_.out (by kernel_rfl)) (fun _ _ _ h => h) (Or.inr ⟨by rfl, rfl⟩) ?_ ?_
         rotate_left
         ·pw_
         refine pure_ (i := 23) (N := some 38) (v := undef) (a' := ?_) spec_l06Are.z24 rfl rfl (any_of HT_.out (by kernel_rfl)) (fun _ _ _ h => h) (Or.inr ⟨by rfl, rfl⟩) ?_ ?_
         rotate_left
         ·pw_
         refine pure_ (i := 24) (N := some 39) (v := undef) (a' := ?_) spec_l06Are.z25 rfl rfl (any_of HT_.out (by kernel_rfl)) (fun _ _ _ h => h) (Or.inr ⟨by rfl, rfl⟩) ?_ ?_
         rotate_left
         ·pw_
         refine pure_ (i := 25) (N := some 40) (v := undef) (a' := ?_) spec_l06Are.z26 rfl rfl (any_of HT_.out (by kernel_rfl)) (fun _ _ _ h => h) (Or.inr ⟨by rfl, rfl⟩) ?_ ?_
         rotate_left
         ·pw_
         refine pure_ (i := 26) (N := some 41) (v := undef) (a' := ?_) spec_l06Are.z27 rfl rfl (any_of HT_.out (by kernel_rfl)) (fun _ _ _ h => h) (Or.inr ⟨by rfl, rfl⟩) ?_ ?_
         rotate_left
         ·pw_
         refine pure_ (i := 27) (N := some 42) (v := undef) (a' := ?_) spec_l06Are.z38 rfl rfl (any_of HT_.out (by kernel_rfl)) (fun _ _ _ h => h) (Or.inr ⟨by rfl, rfl⟩) ?_ ?_
         rotate_left
         ·pw_
         refine pure_ (i := 28) (N := some 43) (v := undef) (a' := ?_) spec_l06Are.z39 rfl rfl (any_of HT_.out (by kernel_rfl)) (fun _ _ _ h => h) (Or.inr ⟨by rfl, rfl⟩) ?_ ?_
         rotate_left
         ·pw_
         refine pure_ (i := 29) (N := some 44) (v := undef) (a' := ?_) spec_l06Are.z40 rfl rfl (any_of HT_.out (by kernel_rfl)) (fun _ _ _ h => h) (Or.inr ⟨by rfl, rfl⟩) ?_ ?_
         rotate_left
         ·pw_
         refine pure_ (i := 30) (N := some 45) (v := undef) (a' := ?_) spec_l06Are.z41 rfl rfl (any_of HT_.out (by kernel_rfl)) (fun _ _ _ h => h) (Or.inr ⟨by rfl, rfl⟩) ?_ ?_
         rotate_left
         ·pw_
         refine pure_ (i := 31) (N := some 46) (v := undef) (a' := ?_) spec_l06Are.z42 rfl rfl (any_of HT_.out (by kernel_rfl)) (fun _ _ _ h => h) (Or.inr ⟨by rfl, rfl⟩) ?_ ?_
         rotate_left
         ·pw_
         refine pure_ (i := 32) (N := some 47) (v := undef) (a' := ?_) spec_l06Are.z33 rfl rfl (any_of HT_.out (by kernel_rfl)) (fun _ _ _ h => h) (Or.inr ⟨by rfl, rfl⟩) ?_ ?_
         rotate_left
         ·pw_
         refine pure_ (i := 33) (N := some 48) (v := undef) (a' := ?_) spec_l06Are.z34 rfl rfl (any_of HT_.out (by kernel_rfl)) (fun _ _ _ h => h) (Or.inr ⟨by rfl, rfl⟩) ?_ ?_
         rotate_left
         ·pw_
         refine pure_ (i := 34) (N := some 49) (v := undef) (a' := ?_) spec_l06Are.z35 rfl rfl (any_of HT_.out (by kernel_rfl)) (fun _ _ _ h => h) (Or.inr ⟨by rfl, rfl⟩) ?_ ?_
         rotate_left
         ·pw_
         refine pure_ (i := 35) (N := some 50) (v := undef) (a' := ?_) spec_l06Are.z36 rfl rfl (any_of HT_.out (by kernel_rfl)) (fun _ _ _ h => h) (Or.inr ⟨by rfl, rfl⟩) ?_ ?_
         rotate_left
         ·pw_
         refine pure_ (i := 36) (N := some 51) (v := ?_) (a' := ?_) spec_l06Are.z37 rfl rfl (any_of HT_.out (by kernel_rfl)) (fun _ _ _ h => h) (Or.inl ⟨by rfl, ?_⟩) ?_ ?_
         pv_
         refine done_ (done_of HT_.out (by kernel_rfl)) ?_
         try go_wp2
         go_ret
         exact ⟨by first | rfl | (simp [errW_none, errW_some] <;> rfl) | (simp [*, errW_none, errW_some] <;> rfl), by repeat (first | (with_reducible first | exact HB.out | apply below_alloc | apply pw_below_drewN | apply below_drew1) | exact HB.out)⟩
       ·rw [if_neg c6] at H
        exact absurd H (by simp)
      ·rw [if_neg c5] at H
       exact absurd H (by simp)
     ·replace c4 := Bool.eq_false_iff.mpr c4
      subst c4
      have H1 : (some (decide ((l0.length : Int) ≤ 16))) = some r := by rw [if_neg (show ¬ (false = true) by decide)] at H; exact H
      clear H
      have H := H1
      clear H1
      obtain rfl := Option.some.inj H
      go_wp2
      go_ret
      exact ⟨by first | rfl | (simp [errW_none, errW_some] <;> rfl) | (simp [*, errW_none, errW_some] <;> rfl), by repeat (first | (with_reducible first | exact HB.out | apply below_alloc | apply pw_below_drewN | apply below_drew1) | exact HB.out)⟩
end Go.Proofs.Ytoiaojdkgagblaa.PFnExactValidDesk
