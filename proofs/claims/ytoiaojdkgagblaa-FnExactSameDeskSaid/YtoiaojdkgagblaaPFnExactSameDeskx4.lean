import Derived.Test.YtoiaojdkgagblaaPFnExactSameDeskx0
import Derived.Test.YtoiaojdkgagblaaPFnExactSameDeskx3
namespace Go.Proofs.Ytoiaojdkgagblaa.PFnExactSameDesk
open Go.RowKit Go.Proofs.YtoiaojdkgagblaaW.PrintWords Go.Proofs.YtoiaojdkgagblaaW.PrintLast Go.Proofs.YtoiaojdkgagblaaW.PrintMore
open Go.Proofs.YtoiaojdkgagblaaW.PrintFl
attribute [local go_sem high] binOp_feq binOp_fne binOp_fls binOp_fle binOp_fgr binOp_fge binOp_sle binOp_sgt
attribute [local go_sem] run_fopr run_fconv run_fint run_stf run_stc ext_f32bits ext_f64bits ext_f32frombits
attribute [local go_sem] max2_int min2_int max_two min_two max_three min_three max_four min_four
set_option linter.unusedVariables false
set_option linter.unusedSimpArgs false
abbrev spec_l02Same.z0 : Array Bool := #[false, false, false, false, false, false, false, false, false, false, false, false, false, false, false, false, false, false, false, false, false, false, false, false, false, false, false, false, false, false, false, false, false, false, false, false, false, false, false, false, false, false, false]
abbrev spec_l02Same.z1 : Array Bool := #[true, false, false, false, false, false, false, false, false, false, false, false, false, false, false, false, false, false, false, false, false, false, false, false, false, false, false, false, false, false, false, false, false, false, false, false, false, false, false, false, false, false, false]
abbrev spec_l02Same.z2 : Array Bool := #[true, true, false, false, false, false, false, false, false, false, false, false, false, false, false, false, false, false, false, false, false, false, false, false, false, false, false, false, false, false, false, false, false, false, false, false, false, false, false, false, false, false, false]
abbrev spec_l02Same.z3 : Array Bool := #[true, true, true, false, false, false, false, false, false, false, false, false, false, false, false, false, false, false, false, false, false, false, false, false, false, false, false, false, false, false, false, false, false, false, false, false, false, false, false, false, false, false, false]
abbrev spec_l02Same.z4 : Array Bool := #[true, true, true, false, true, false, false, false, false, false, false, false, false, false, false, false, false, false, false, false, false, false, false, false, false, false, false, false, false, false, false, false, false, false, false, false, false, false, false, false, false, false, false]
abbrev spec_l02Same.z5 : Array Bool := #[true, true, true, false, true, true, false, false, false, false, false, false, false, false, false, false, false, false, false, false, false, false, false, false, false, false, false, false, false, false, false, false, false, false, false, false, false, false, false, false, false, false, false]
abbrev spec_l02Same.z6 : Array Bool := #[true, true, true, false, true, true, true, false, false, false, false, false, false, false, false, false, false, false, false, false, false, false, false, false, false, false, false, false, false, false, false, false, false, false, false, false, false, false, false, false, false, false, false]
abbrev spec_l02Same.z7 : Array Bool := #[true, true, true, true, true, true, true, false, false, false, false, false, false, false, false, false, false, false, false, false, false, false, false, false, false, false, false, false, false, false, false, false, false, false, false, false, false, false, false, false, false, false, false]
abbrev spec_l02Same.z8 : Array Bool := #[true, true, true, true, true, true, true, true, false, false, false, false, false, false, false, false, false, false, false, false, false, false, false, false, false, false, false, false, false, false, false, false, false, false, false, false, false, false, false, false, false, false, false]
abbrev spec_l02Same.z9 : Array Bool := #[true, true, true, true, true, true, true, true, true, false, false, false, false, false, false, false, false, false, false, false, false, false, false, false, false, false, false, false, false, false, false, false, false, false, false, false, false, false, false, false, false, false, false]
abbrev spec_l02Same.z10 : Array Bool := #[true, true, true, true, true, true, true, true, true, true, false, false, false, false, false, false, false, false, false, false, false, false, false, false, false, false, false, false, false, false, false, false, false, false, false, false, false, false, false, false, false, false, false]
abbrev spec_l02Same.z11 : Array Bool := #[true, true, true, true, true, true, true, true, true, true, true, false, false, false, false, false, false, false, false, false, false, false, false, false, false, false, false, false, false, false, false, false, false, false, false, false, false, false, false, false, false, false, false]
abbrev spec_l02Same.z12 : Array Bool := #[true, true, true, true, true, true, true, true, true, true, true, true, false, false, false, false, false, false, false, false, false, false, false, false, false, false, false, false, false, false, false, false, false, false, false, false, false, false, false, false, false, false, false]
abbrev spec_l02Same.z13 : Array Bool := #[true, true, true, true, true, true, true, true, true, true, true, true, true, false, false, false, false, false, false, false, false, false, false, false, false, false, false, false, false, false, false, false, false, false, false, false, false, false, false, false, false, false, false]
abbrev spec_l02Same.z14 : Array Bool := #[true, true, true, true, true, true, true, true, true, true, true, true, true, false, true, false, false, false, false, false, false, false, false, false, false, false, false, false, false, false, false, false, false, false, false, false, false, false, false, false, false, false, false]
abbrev spec_l02Same.z15 : Array Bool := #[true, true, true, true, true, true, true, true, true, true, true, true, true, false, true, true, false, false, false, false, false, false, false, false, false, false, false, false, false, false, false, false, false, false, false, false, false, false, false, false, false, false, false]
abbrev spec_l02Same.z16 : Array Bool := #[true, true, true, true, true, true, true, true, true, true, true, true, true, false, true, true, true, false, false, false, false, false, false, false, false, false, false, false, false, false, false, false, false, false, false, false, false, false, false, false, false, false, false]
abbrev spec_l02Same.z17 : Array Bool := #[true, true, true, true, true, true, true, true, true, true, true, true, true, true, true, true, true, false, false, false, false, false, false, false, false, false, false, false, false, false, false, false, false, false, false, false, false, false, false, false, false, false, false]
abbrev spec_l02Same.z18 : Array Bool := #[true, true, true, true, true, true, true, true, true, true, true, true, true, true, true, true, true, true, false, false, false, false, false, false, false, false, false, false, false, false, false, false, false, false, false, false, false, false, false, false, false, false, false]
abbrev spec_l02Same.z19 : Array Bool := #[true, true, true, true, true, true, true, true, true, true, true, true, true, true, true, true, true, true, true, false, false, false, false, false, false, false, false, false, false, false, false, false, false, false, false, false, false, false, false, false, false, false, false]
abbrev spec_l02Same.z20 : Array Bool := #[true, true, true, true, true, true, true, true, true, true, true, true, true, true, true, true, true, true, true, true, false, false, false, false, false, false, false, false, false, false, false, false, false, false, false, false, false, false, false, false, false, false, false]
abbrev spec_l02Same.z21 : Array Bool := #[true, true, true, true, true, true, true, true, true, true, true, true, true, true, true, true, true, true, true, true, true, false, false, false, false, false, false, false, false, false, false, false, false, false, false, false, false, false, false, false, false, false, false]
abbrev spec_l02Same.z22 : Array Bool := #[true, true, true, true, true, true, true, true, true, true, true, true, true, true, true, true, true, true, true, true, true, true, false, false, false, false, false, false, false, false, false, false, false, false, false, false, false, false, false, false, false, false, false]
abbrev spec_l02Same.z23 : Array Bool := #[true, true, true, true, true, true, true, true, true, true, true, true, true, true, true, true, true, true, true, true, true, true, true, false, false, false, false, false, false, false, false, false, false, false, false, false, false, false, false, false, false, false, false]
abbrev spec_l02Same.z24 : Array Bool := #[true, true, true, true, true, true, true, true, true, true, true, true, true, true, true, true, true, true, true, true, true, true, true, true, false, false, false, false, false, false, false, false, false, false, false, false, false, false, false, false, false, false, false]
abbrev spec_l02Same.z25 : Array Bool := #[true, true, true, true, true, true, true, true, true, true, true, true, true, true, true, true, true, true, true, true, true, true, true, true, false, true, false, false, false, false, false, false, false, false, false, false, false, false, false, false, false, false, false]
abbrev spec_l02Same.z26 : Array Bool := #[true, true, true, true, true, true, true, true, true, true, true, true, true, true, true, true, true, true, true, true, true, true, true, true, false, true, true, false, false, false, false, false, false, false, false, false, false, false, false, false, false, false, false]
abbrev spec_l02Same.z27 : Array Bool := #[true, true, true, true, true, true, true, true, true, true, true, true, true, true, true, true, true, true, true, true, true, true, true, true, false, true, true, true, false, false, false, false, false, false, false, false, false, false, false, false, false, false, false]
abbrev spec_l02Same.z28 : Array Bool := #[true, true, true, true, true, true, true, true, true, true, true, true, true, true, true, true, true, true, true, true, true, true, true, true, true, true, true, true, false, false, false, false, false, false, false, false, false, false, false, false, false, false, false]
abbrev spec_l02Same.z29 : Array Bool := #[true, true, true, true, true, true, true, true, true, true, true, true, true, true, true, true, true, true, true, true, true, true, true, true, true, true, true, true, true, false, false, false, false, false, false, false, false, false, false, false, false, false, false]
abbrev spec_l02Same.z30 : Array Bool := #[true, true, true, true, true, true, true, true, true, true, true, true, true, true, true, true, true, true, true, true, true, true, true, true, true, true, true, true, true, true, false, false, false, false, false, false, false, false, false, false, false, false, false]
abbrev spec_l02Same.z31 : Array Bool := #[true, true, true, true, true, true, true, true, true, true, true, true, true, true, true, true, true, true, true, true, true, true, true, true, true, true, true, true, true, true, true, false, false, false, false, false, false, false, false, false, false, false, false]
abbrev spec_l02Same.z32 : Array Bool := #[true, true, true, true, true, true, true, true, true, true, true, true, true, true, true, true, true, true, true, true, true, true, true, true, true, true, true, true, true, true, true, true, false, false, false, false, false, false, false, false, false, false, false]
abbrev spec_l02Same.z33 : Array Bool := #[true, true, true, true, true, true, true, true, true, true, true, true, true, true, true, true, true, true, true, true, true, true, true, true, true, true, true, true, true, true, true, true, true, false, false, false, false, false, false, false, false, false, false]
abbrev spec_l02Same.z34 : Array Bool := #[true, true, true, true, true, true, true, true, true, true, true, true, true, true, true, true, true, true, true, true, true, true, true, true, true, true, true, true, true, true, true, true, true, true, false, false, false, false, false, false, false, false, false]
abbrev spec_l02Same.z35 : Array Bool := #[true, true, true, true, true, true, true, true, true, true, true, true, true, true, true, true, true, true, true, true, true, true, true, true, true, true, true, true, true, true, true, true, true, true, true, false, false, false, false, false, false, false, false]
abbrev spec_l02Same.z36 : Array Bool := #[true, true, true, true, true, true, true, true, true, true, true, true, true, true, true, true, true, true, true, true, true, true, true, true, true, true, true, true, true, true, true, true, true, true, true, false, true, false, false, false, false, false, false]
abbrev spec_l02Same.z37 : Array Bool := #[true, true, true, true, true, true, true, true, true, true, true, true, true, true, true, true, true, true, true, true, true, true, true, true, true, true, true, true, true, true, true, true, true, true, true, false, true, true, false, false, false, false, false]
abbrev spec_l02Same.z38 : Array Bool := #[true, true, true, true, true, true, true, true, true, true, true, true, true, true, true, true, true, true, true, true, true, true, true, true, true, true, true, true, true, true, true, true, true, true, true, false, true, true, true, false, false, false, false]
abbrev spec_l02Same.z39 : Array Bool := #[true, true, true, true, true, true, true, true, true, true, true, true, true, true, true, true, true, true, true, true, true, true, true, true, true, true, true, true, true, true, true, true, true, true, true, true, true, true, true, false, false, false, false]
abbrev spec_l02Same.z40 : Array Bool := #[true, true, true, true, true, true, true, true, true, true, true, true, true, true, true, true, true, true, true, true, true, true, true, true, true, true, true, true, true, true, true, true, true, true, true, true, true, true, true, true, false, false, false]
abbrev spec_l02Same.z41 : Array Bool := #[true, true, true, true, true, true, true, true, true, true, true, true, true, true, true, true, true, true, true, true, true, true, true, true, true, true, true, true, true, true, true, true, true, true, true, true, true, true, true, true, true, false, false]
abbrev spec_l02Same.z42 : Array Bool := #[true, true, true, true, true, true, true, true, true, true, true, true, true, true, true, true, true, true, true, true, true, true, true, true, true, true, true, true, true, true, true, true, true, true, true, true, true, true, true, true, true, true, false]
abbrev spec_l02Same.z43 : Array Bool := #[true, true, true, true, true, true, true, true, true, true, true, true, true, true, true, true, true, true, true, true, true, true, true, true, true, true, true, true, true, true, true, true, true, true, true, true, true, true, true, true, true, true, true]
abbrev spec_l02Same.z44 : Array Bool := #[true, true, true, true, true, true, true, true, true, true, true, true, true, true, true, true, true, true, true, true, true, true, true, true, true, true, true, true, true, true, true, true, true, true, true, true, false, false, false, false, false, false, false]
abbrev spec_l02Same.z45 : Array Bool := #[true, true, true, true, true, true, true, true, true, true, true, true, true, true, true, true, true, true, true, true, true, true, true, true, true, true, true, true, true, true, true, true, true, true, true, true, true, false, false, false, false, false, false]
abbrev spec_l02Same.z46 : Array Bool := #[true, true, true, true, true, true, true, true, true, true, true, true, true, true, true, true, true, true, true, true, true, true, true, true, true, true, true, true, true, true, true, true, true, true, true, true, true, true, false, false, false, false, false]
abbrev spec_l02Same.z47 : Array Bool := #[true, true, true, true, true, true, true, true, true, true, true, true, true, true, true, true, true, true, true, true, true, true, true, true, true, false, false, false, false, false, false, false, false, false, false, false, false, false, false, false, false, false, false]
abbrev spec_l02Same.z48 : Array Bool := #[true, true, true, true, true, true, true, true, true, true, true, true, true, true, true, true, true, true, true, true, true, true, true, true, true, true, false, false, false, false, false, false, false, false, false, false, false, false, false, false, false, false, false]
abbrev spec_l02Same.z49 : Array Bool := #[true, true, true, true, true, true, true, true, true, true, true, true, true, true, true, true, true, true, true, true, true, true, true, true, true, true, true, false, false, false, false, false, false, false, false, false, false, false, false, false, false, false, false]
abbrev spec_l02Same.z50 : Array Bool := #[true, true, true, true, true, true, true, true, true, true, true, true, true, true, false, false, false, false, false, false, false, false, false, false, false, false, false, false, false, false, false, false, false, false, false, false, false, false, false, false, false, false, false]
abbrev spec_l02Same.z51 : Array Bool := #[true, true, true, true, true, true, true, true, true, true, true, true, true, true, true, false, false, false, false, false, false, false, false, false, false, false, false, false, false, false, false, false, false, false, false, false, false, false, false, false, false, false, false]
abbrev spec_l02Same.z52 : Array Bool := #[true, true, true, true, true, true, true, true, true, true, true, true, true, true, true, true, false, false, false, false, false, false, false, false, false, false, false, false, false, false, false, false, false, false, false, false, false, false, false, false, false, false, false]
def spec_l02Same.f (k : Nat) (l0 : List (S72)) (l1 : List (S72)) : Option (Bool) := if 0 < (l0.length : Int) then (if 0 < (l1.length : Int) then ((spec_l01SameAll.f k ((rd_T72 l0 0).f0) ((rd_T72 l1 0).f0)).bind fun t131 => (if t131 = true then ((spec_l01Same.f ((rd_T72 l0 0).f1) ((rd_T72 l1 0).f1)).bind fun t136 => (if t136 = true then ((spec_l01Same.f ((rd_T72 l0 0).f2) ((rd_T72 l1 0).f2)).bind fun t141 => (if t141 = true then ((spec_l01Same.f ((rd_T72 l0 0).f3) ((rd_T72 l1 0).f3)).bind fun t146 => (some t146)) else (some false))) else (some false))) else (some false))) else (none)) else (none)
theorem spec_l02Same.mono : ∀ a0 a1 k, LeO (spec_l02Same.f k a0 a1) (spec_l02Same.f (k + 1) a0 a1) := by
 intro a0 a1 k
 unfold spec_l02Same.f
 repeat' first
   | (with_reducible exact spec_l01SameAll.mono _ _ _)
   | (with_reducible exact LeO.refl _)
   | (with_reducible exact LeO.none _)
   | (with_reducible refine LeO.ite ?_ ?_)
   | (with_reducible refine LeO.bind ?_ (fun _ => ?_))
   | exact spec_l01SameAll.mono _ _ _
   | exact LeO.none _
   | refine LeO.ite ?_ ?_
   | refine LeO.bind ?_ (fun _ => ?_)
def spec_l02Same.T1 : Bool × List (List Nat × List Nat) := (true, [([], []), ([0], [0]), ([1], [1]), ([2], [2]), ([], []), ([4], [4]), ([5], [5]), ([6], [6]), ([3, 7], [3, 7]), ([8, 8], [8]), ([9], [9]), ([10, 9], [9, 10]), ([11, 9], [9, 11]), ([12, 9], [9, 12]), ([9], [9]), ([14, 9], [9, 14]), ([15, 9], [9, 15]), ([16, 9], [9, 16]), ([13, 17, 9, 9], [9, 13, 17]), ([9, 18], [9, 18]), ([19, 18], [19]), ([20], [20]), ([21, 20], [20, 21]), ([22, 20], [20, 22]), ([23, 20], [20, 23]), ([20], [20]), ([25, 20], [20, 25]), ([26, 20], [20, 26]), ([27, 20], [20, 27]), ([24, 28, 20, 20], [20, 24, 28]), ([20, 29], [20, 29]), ([30, 29], [30]), ([31], [31]), ([32, 31], [31, 32]), ([33, 31], [31, 33]), ([34, 31], [31, 34]), ([31], [31]), ([36, 31], [31, 36]), ([37, 31], [31, 37]), ([38, 31], [31, 38]), ([35, 39, 31, 31], [31, 35, 39]), ([31, 40], [31, 40]), ([41, 40, 0, 1, 2, 3, 4, 5, 6, 7, 8, 9, 10, 11, 12, 13, 14, 15, 16, 17, 18, 19, 20, 21, 22, 23, 24, 25, 26, 27, 28, 29, 30, 31, 32, 33, 34, 35, 36, 37, 38, 39, 40, 41], [41])])
def spec_l02Same.B1 : List Nat := [0, 1, 3, 7, 0, 16, 48, 112, 255, 511, 1023, 2047, 4095, 8191, 1023, 17407, 50175, 115711, 262143, 524287, 1048575, 2097151, 4194303, 8388607, 16777215, 2097151, 35651583, 102760447, 236978175, 536870911, 1073741823, 2147483647, 4294967295, 8589934591, 17179869183, 34359738367, 4294967295, 73014444031, 210453397503, 485331304447, 1099511627775, 2199023255551, 4398046511103]
theorem spec_l02Same.tab1 : rtab .any (opsOf Try.f121 1) = spec_l02Same.T1 := by kernel_rfl
theorem spec_l02Same.bits1 : waitsOk spec_l02Same.T1.2 spec_l02Same.B1 = true := by kernel_rfl
set_option maxHeartbeats 8000000 in
set_option maxRecDepth 100000 in
theorem spec_l02Same.calls (k : Nat) (A0 : Option Addr) (l0 : List (S72)) (A1 : Option Addr) (l1 : List (S72)) (r : Bool) (w : World) (hr0 : Kd.C k72 w A0 l0.length l0) (hr1 : Kd.C k72 w A1 l1.length l1) (h : spec_l02Same.f k l0 l1 = some r) :
  Calls Try.prog 121 #[.pointer A0, .pointer A1] w fun e w' => e = .returned (.bool r) ∧ Below w.heap.size w w' := by
 have hu26 := Try.underlying26
 have hu36 := Try.underlying36
 have HR0 := Aside0.mk hr0
 clear hr0
 have HR1 := Aside0.mk hr1
 clear hr1
 have HB := Aside0.mk (Below.refl w.heap.size w)
 have H : (if 0 < (l0.length : Int) then (if 0 < (l1.length : Int) then ((spec_l01SameAll.f k ((rd_T72 l0 0).f0) ((rd_T72 l1 0).f0)).bind fun t131 => (if t131 = true then ((spec_l01Same.f ((rd_T72 l0 0).f1) ((rd_T72 l1 0).f1)).bind fun t136 => (if t136 = true then ((spec_l01Same.f ((rd_T72 l0 0).f2) ((rd_T72 l1 0).f2)).bind fun t141 => (if t141 = true then ((spec_l01Same.f ((rd_T72 l0 0).f3) ((rd_T72 l1 0).f3)).bind fun t146 => (some t146)) else (some false))) else (some false))) else (some false))) else (none)) else (none)) = some r := h
 clear h
 by_cases c3 : 0 < (l0.length : Int)
 ·rw [if_pos c3] at H
  have c3b0 : decide (0 < (l0.length : Int)) = true := decide_eq_true c3
  have c3b1 : decide (0 < l0.length) = true := decide_eq_true (by omega)
  clear c3
  by_cases c4 : 0 < (l1.length : Int)
  ·rw [if_pos c4] at H
   have c4b0 : decide (0 < (l1.length : Int)) = true := decide_eq_true c4
   have c4b1 : decide (0 < l1.length) = true := decide_eq_true (by omega)
   clear c4
   replace H := Option.bind_eq_some_iff.mp H
   obtain ⟨t131, A50, H⟩ := H
   replace H : (if t131 = true then ((spec_l01Same.f ((rd_T72 l0 0).f1) ((rd_T72 l1 0).f1)).bind fun t136 => (if t136 = true then ((spec_l01Same.f ((rd_T72 l0 0).f2) ((rd_T72 l1 0).f2)).bind fun t141 => (if t141 = true then ((spec_l01Same.f ((rd_T72 l0 0).f3) ((rd_T72 l1 0).f3)).bind fun t146 => (some t146)) else (some false))) else (some false))) else (some false)) = some r := H
   have A5 := Aside0.mk A50
   clear A50
   by_cases c6 : t131 = true
   ·subst c6
    have H1 : ((spec_l01Same.f ((rd_T72 l0 0).f1) ((rd_T72 l1 0).f1)).bind fun t136 => (if t136 = true then ((spec_l01Same.f ((rd_T72 l0 0).f2) ((rd_T72 l1 0).f2)).bind fun t141 => (if t141 = true then ((spec_l01Same.f ((rd_T72 l0 0).f3) ((rd_T72 l1 0).f3)).bind fun t146 => (some t146)) else (some false))) else (some false))) = some r := by rw [if_pos rfl] at H; exact H
    clear H
    have H := H1
    clear H1
    replace H := Option.bind_eq_some_iff.mp H
    obtain ⟨t136, A70, H⟩ := H
    replace H : (if t136 = true then ((spec_l01Same.f ((rd_T72 l0 0).f2) ((rd_T72 l1 0).f2)).bind fun t141 => (if t141 = true then ((spec_l01Same.f ((rd_T72 l0 0).f3) ((rd_T72 l1 0).f3)).bind fun t146 => (some t146)) else (some false))) else (some false)) = some r := H
    have A7 := Aside0.mk A70
    clear A70
    by_cases c8 : t136 = true
    ·subst c8
     have H1 : ((spec_l01Same.f ((rd_T72 l0 0).f2) ((rd_T72 l1 0).f2)).bind fun t141 => (if t141 = true then ((spec_l01Same.f ((rd_T72 l0 0).f3) ((rd_T72 l1 0).f3)).bind fun t146 => (some t146)) else (some false))) = some r := by rw [if_pos rfl] at H; exact H
     clear H
     have H := H1
     clear H1
     replace H := Option.bind_eq_some_iff.mp H
     obtain ⟨t141, A90, H⟩ := H
     replace H : (if t141 = true then ((spec_l01Same.f ((rd_T72 l0 0).f3) ((rd_T72 l1 0).f3)).bind fun t146 => (some t146)) else (some false)) = some r := H
     have A9 := Aside0.mk A90
     clear A90
     by_cases c10 : t141 = true
     ·subst c10
      have H1 : ((spec_l01Same.f ((rd_T72 l0 0).f3) ((rd_T72 l1 0).f3)).bind fun t146 => (some t146)) = some r := by rw [if_pos rfl] at H; exact H
      clear H
      have H := H1
      clear H1
      replace H := Option.bind_eq_some_iff.mp H
      obtain ⟨t146, A110, H⟩ := H
      replace H : (some t146) = some r := H
      have A11 := Aside0.mk A110
      clear A110
      obtain rfl := Option.some.inj H
      go_enter Try.func121, Try.ntmps121
      try go_wp2
      have n0_ := Aside0.mk (below_drew1 HB.out)
      clear HB
      have HB := n0_
      clear n0_
      have p127 : 0 ≤ (0 : Int) := (by omega)
      have q127 : 0 < (l0.length : Int) := of_decide_eq_true (by first | (with_reducible assumption) | assumption)
      obtain ⟨ad127, A127_0, c127_0, e127, hx127_0, hx127_1, hx127_2, hx127_3, hl127_0, hi127_0⟩ := at_T72 HR0.out 0 p127 q127
      have hw127_3 := hx127_3
      (try rw [show ((0 : Int)).toNat = 0 from rfl] at hw127_3)
      (try rw [show 0 * 4 = 0 from rfl] at hw127_3)
      (try rw [Addr.add_zero'] at hw127_3)
      have hw127_2 := hx127_2
      (try rw [show ((0 : Int)).toNat = 0 from rfl] at hw127_2)
      (try rw [show 0 * 4 = 0 from rfl] at hw127_2)
      (try rw [Addr.add_zero'] at hw127_2)
      have hw127_1 := hx127_1
      (try rw [show ((0 : Int)).toNat = 0 from rfl] at hw127_1)
      (try rw [show 0 * 4 = 0 from rfl] at hw127_1)
      (try rw [Addr.add_zero'] at hw127_1)
      have hw127_0 := hx127_0
      (try rw [show ((0 : Int)).toNat = 0 from rfl] at hw127_0)
      (try rw [show 0 * 4 = 0 from rfl] at hw127_0)
      (try rw [Addr.add_zero'] at hw127_0)
      cases e127
      have qi127 : (0 < l0.length) = True := eq_true (by omega)
      (try rw [show ((0 : Int)).toNat = 0 from rfl] at hx127_0)
      (try rw [show 0 * 4 = 0 from rfl] at hx127_0)
      (try rw [Addr.add_zero'] at hx127_0)
      (try rw [show ((0 : Int)).toNat = 0 from rfl] at hx127_1)
      (try rw [show 0 * 4 = 0 from rfl] at hx127_1)
      (try rw [Addr.add_zero'] at hx127_1)
      (try rw [show ((0 : Int)).toNat = 0 from rfl] at hx127_2)
      (try rw [show 0 * 4 = 0 from rfl] at hx127_2)
      (try rw [Addr.add_zero'] at hx127_2)
      (try rw [show ((0 : Int)).toNat = 0 from rfl] at hx127_3)
      (try rw [show 0 * 4 = 0 from rfl] at hx127_3)
      (try rw [Addr.add_zero'] at hx127_3)
      replace hx127_0 := (HB.out.cell (World.block_lt_of_cell? w _ hx127_0)).trans hx127_0
      replace hx127_1 := (HB.out.cell (World.block_lt_of_cell? w _ hx127_1)).trans hx127_1
      replace hx127_2 := (HB.out.cell (World.block_lt_of_cell? w _ hx127_2)).trans hx127_2
      replace hx127_3 := (HB.out.cell (World.block_lt_of_cell? w _ hx127_3)).trans hx127_3
      have HR127_0 := Aside0.mk hi127_0
      have HC127_0 := Aside0.mk hl127_0
      clear hi127_0 hl127_0
      replace p127 := eq_true p127
      replace q127 := eq_true q127
      have p128 : 0 ≤ (0 : Int) := (by omega)
      have q128 : 0 < (l0.length : Int) := of_decide_eq_true (by first | (with_reducible assumption) | assumption)
      obtain ⟨ad128, A128_0, c128_0, e128, hx128_0, hx128_1, hx128_2, hx128_3, hl128_0, hi128_0⟩ := at_T72 HR0.out 0 p128 q128
      have hw128_3 := hx128_3
      (try rw [show ((0 : Int)).toNat = 0 from rfl] at hw128_3)
      (try rw [show 0 * 4 = 0 from rfl] at hw128_3)
      (try rw [Addr.add_zero'] at hw128_3)
      have hw128_2 := hx128_2
      (try rw [show ((0 : Int)).toNat = 0 from rfl] at hw128_2)
      (try rw [show 0 * 4 = 0 from rfl] at hw128_2)
      (try rw [Addr.add_zero'] at hw128_2)
      have hw128_1 := hx128_1
      (try rw [show ((0 : Int)).toNat = 0 from rfl] at hw128_1)
      (try rw [show 0 * 4 = 0 from rfl] at hw128_1)
      (try rw [Addr.add_zero'] at hw128_1)
      have hw128_0 := hx128_0
      (try rw [show ((0 : Int)).toNat = 0 from rfl] at hw128_0)
      (try rw [show 0 * 4 = 0 from rfl] at hw128_0)
      (try rw [Addr.add_zero'] at hw128_0)
      obtain rfl : ad127 = ad128 := (by injection e128)
      have qi128 : (0 < l0.length) = True := eq_true (by omega)
      (try rw [show ((0 : Int)).toNat = 0 from rfl] at hx128_0)
      (try rw [show 0 * 4 = 0 from rfl] at hx128_0)
      (try rw [Addr.add_zero'] at hx128_0)
      (try rw [show ((0 : Int)).toNat = 0 from rfl] at hx128_1)
      (try rw [show 0 * 4 = 0 from rfl] at hx128_1)
      (try rw [Addr.add_zero'] at hx128_1)
      (try rw [show ((0 : Int)).toNat = 0 from rfl] at hx128_2)
      (try rw [show 0 * 4 = 0 from rfl] at hx128_2)
      (try rw [Addr.add_zero'] at hx128_2)
      (try rw [show ((0 : Int)).toNat = 0 from rfl] at hx128_3)
      (try rw [show 0 * 4 = 0 from rfl] at hx128_3)
      (try rw [Addr.add_zero'] at hx128_3)
      replace hx128_0 := (HB.out.cell (World.block_lt_of_cell? w _ hx128_0)).trans hx128_0
      replace hx128_1 := (HB.out.cell (World.block_lt_of_cell? w _ hx128_1)).trans hx128_1
      replace hx128_2 := (HB.out.cell (World.block_lt_of_cell? w _ hx128_2)).trans hx128_2
      replace hx128_3 := (HB.out.cell (World.block_lt_of_cell? w _ hx128_3)).trans hx128_3
      have HR128_0 := Aside0.mk hi128_0
      have HC128_0 := Aside0.mk hl128_0
      clear hi128_0 hl128_0
      replace p128 := eq_true p128
      replace q128 := eq_true q128
      have ea_ := Option.some.inj (hx127_0.symm.trans hx128_0)
      injection ea_ with ea_ en_ ec_
      subst ea_
      subst ec_
      clear en_
      have p129 : 0 ≤ (0 : Int) := (by omega)
      have q129 : 0 < (l1.length : Int) := of_decide_eq_true (by first | (with_reducible assumption) | assumption)
      obtain ⟨ad129, A129_0, c129_0, e129, hx129_0, hx129_1, hx129_2, hx129_3, hl129_0, hi129_0⟩ := at_T72 HR1.out 0 p129 q129
      have hw129_3 := hx129_3
      (try rw [show ((0 : Int)).toNat = 0 from rfl] at hw129_3)
      (try rw [show 0 * 4 = 0 from rfl] at hw129_3)
      (try rw [Addr.add_zero'] at hw129_3)
      have hw129_2 := hx129_2
      (try rw [show ((0 : Int)).toNat = 0 from rfl] at hw129_2)
      (try rw [show 0 * 4 = 0 from rfl] at hw129_2)
      (try rw [Addr.add_zero'] at hw129_2)
      have hw129_1 := hx129_1
      (try rw [show ((0 : Int)).toNat = 0 from rfl] at hw129_1)
      (try rw [show 0 * 4 = 0 from rfl] at hw129_1)
      (try rw [Addr.add_zero'] at hw129_1)
      have hw129_0 := hx129_0
      (try rw [show ((0 : Int)).toNat = 0 from rfl] at hw129_0)
      (try rw [show 0 * 4 = 0 from rfl] at hw129_0)
      (try rw [Addr.add_zero'] at hw129_0)
      cases e129
      have qi129 : (0 < l1.length) = True := eq_true (by omega)
      (try rw [show ((0 : Int)).toNat = 0 from rfl] at hx129_0)
      (try rw [show 0 * 4 = 0 from rfl] at hx129_0)
      (try rw [Addr.add_zero'] at hx129_0)
      (try rw [show ((0 : Int)).toNat = 0 from rfl] at hx129_1)
      (try rw [show 0 * 4 = 0 from rfl] at hx129_1)
      (try rw [Addr.add_zero'] at hx129_1)
      (try rw [show ((0 : Int)).toNat = 0 from rfl] at hx129_2)
      (try rw [show 0 * 4 = 0 from rfl] at hx129_2)
      (try rw [Addr.add_zero'] at hx129_2)
      (try rw [show ((0 : Int)).toNat = 0 from rfl] at hx129_3)
      (try rw [show 0 * 4 = 0 from rfl] at hx129_3)
      (try rw [Addr.add_zero'] at hx129_3)
      replace hx129_0 := (HB.out.cell (World.block_lt_of_cell? w _ hx129_0)).trans hx129_0
      replace hx129_1 := (HB.out.cell (World.block_lt_of_cell? w _ hx129_1)).trans hx129_1
      replace hx129_2 := (HB.out.cell (World.block_lt_of_cell? w _ hx129_2)).trans hx129_2
      replace hx129_3 := (HB.out.cell (World.block_lt_of_cell? w _ hx129_3)).trans hx129_3
      have HR129_0 := Aside0.mk hi129_0
      have HC129_0 := Aside0.mk hl129_0
      clear hi129_0 hl129_0
      replace p129 := eq_true p129
      replace q129 := eq_true q129
      have p130 : 0 ≤ (0 : Int) := (by omega)
      have q130 : 0 < (l1.length : Int) := of_decide_eq_true (by first | (with_reducible assumption) | assumption)
      obtain ⟨ad130, A130_0, c130_0, e130, hx130_0, hx130_1, hx130_2, hx130_3, hl130_0, hi130_0⟩ := at_T72 HR1.out 0 p130 q130
      have hw130_3 := hx130_3
      (try rw [show ((0 : Int)).toNat = 0 from rfl] at hw130_3)
      (try rw [show 0 * 4 = 0 from rfl] at hw130_3)
      (try rw [Addr.add_zero'] at hw130_3)
      have hw130_2 := hx130_2
      (try rw [show ((0 : Int)).toNat = 0 from rfl] at hw130_2)
      (try rw [show 0 * 4 = 0 from rfl] at hw130_2)
      (try rw [Addr.add_zero'] at hw130_2)
      have hw130_1 := hx130_1
      (try rw [show ((0 : Int)).toNat = 0 from rfl] at hw130_1)
      (try rw [show 0 * 4 = 0 from rfl] at hw130_1)
      (try rw [Addr.add_zero'] at hw130_1)
      have hw130_0 := hx130_0
      (try rw [show ((0 : Int)).toNat = 0 from rfl] at hw130_0)
      (try rw [show 0 * 4 = 0 from rfl] at hw130_0)
      (try rw [Addr.add_zero'] at hw130_0)
      obtain rfl : ad129 = ad130 := (by injection e130)
      have qi130 : (0 < l1.length) = True := eq_true (by omega)
      (try rw [show ((0 : Int)).toNat = 0 from rfl] at hx130_0)
      (try rw [show 0 * 4 = 0 from rfl] at hx130_0)
      (try rw [Addr.add_zero'] at hx130_0)
      (try rw [show ((0 : Int)).toNat = 0 from rfl] at hx130_1)
      (try rw [show 0 * 4 = 0 from rfl] at hx130_1)
      (try rw [Addr.add_zero'] at hx130_1)
      (try rw [show ((0 : Int)).toNat = 0 from rfl] at hx130_2)
      (try rw [show 0 * 4 = 0 from rfl] at hx130_2)
      (try rw [Addr.add_zero'] at hx130_2)
      (try rw [show ((0 : Int)).toNat = 0 from rfl] at hx130_3)
      (try rw [show 0 * 4 = 0 from rfl] at hx130_3)
      (try rw [Addr.add_zero'] at hx130_3)
      replace hx130_0 := (HB.out.cell (World.block_lt_of_cell? w _ hx130_0)).trans hx130_0
      replace hx130_1 := (HB.out.cell (World.block_lt_of_cell? w _ hx130_1)).trans hx130_1
      replace hx130_2 := (HB.out.cell (World.block_lt_of_cell? w _ hx130_2)).trans hx130_2
      replace hx130_3 := (HB.out.cell (World.block_lt_of_cell? w _ hx130_3)).trans hx130_3
      have HR130_0 := Aside0.mk hi130_0
      have HC130_0 := Aside0.mk hl130_0
      clear hi130_0 hl130_0
      replace p130 := eq_true p130
      replace q130 := eq_true q130
      have ea_ := Option.some.inj (hx129_0.symm.trans hx130_0)
      injection ea_ with ea_ en_ ec_
      subst ea_
      subst ec_
      clear en_
      have p132 : 0 ≤ (0 : Int) := (by omega)
      have q132 : 0 < (l0.length : Int) := of_decide_eq_true (by first | (with_reducible assumption) | assumption)
      obtain ⟨ad132, A132_0, c132_0, e132, hx132_0, hx132_1, hx132_2, hx132_3, hl132_0, hi132_0⟩ := at_T72 HR0.out 0 p132 q132
      have hw132_3 := hx132_3
      (try rw [show ((0 : Int)).toNat = 0 from rfl] at hw132_3)
      (try rw [show 0 * 4 = 0 from rfl] at hw132_3)
      (try rw [Addr.add_zero'] at hw132_3)
      have hw132_2 := hx132_2
      (try rw [show ((0 : Int)).toNat = 0 from rfl] at hw132_2)
      (try rw [show 0 * 4 = 0 from rfl] at hw132_2)
      (try rw [Addr.add_zero'] at hw132_2)
      have hw132_1 := hx132_1
      (try rw [show ((0 : Int)).toNat = 0 from rfl] at hw132_1)
      (try rw [show 0 * 4 = 0 from rfl] at hw132_1)
      (try rw [Addr.add_zero'] at hw132_1)
      have hw132_0 := hx132_0
      (try rw [show ((0 : Int)).toNat = 0 from rfl] at hw132_0)
      (try rw [show 0 * 4 = 0 from rfl] at hw132_0)
      (try rw [Addr.add_zero'] at hw132_0)
      obtain rfl : ad127 = ad132 := (by injection e132)
      have qi132 : (0 < l0.length) = True := eq_true (by omega)
      (try rw [show ((0 : Int)).toNat = 0 from rfl] at hx132_0)
      (try rw [show 0 * 4 = 0 from rfl] at hx132_0)
      (try rw [Addr.add_zero'] at hx132_0)
      (try rw [show ((0 : Int)).toNat = 0 from rfl] at hx132_1)
      (try rw [show 0 * 4 = 0 from rfl] at hx132_1)
      (try rw [Addr.add_zero'] at hx132_1)
      (try rw [show ((0 : Int)).toNat = 0 from rfl] at hx132_2)
      (try rw [show 0 * 4 = 0 from rfl] at hx132_2)
      (try rw [Addr.add_zero'] at hx132_2)
      (try rw [show ((0 : Int)).toNat = 0 from rfl] at hx132_3)
      (try rw [show 0 * 4 = 0 from rfl] at hx132_3)
      (try rw [Addr.add_zero'] at hx132_3)
      replace hx132_0 := (HB.out.cell (World.block_lt_of_cell? w _ hx132_0)).trans hx132_0
      replace hx132_1 := (HB.out.cell (World.block_lt_of_cell? w _ hx132_1)).trans hx132_1
      replace hx132_2 := (HB.out.cell (World.block_lt_of_cell? w _ hx132_2)).trans hx132_2
      replace hx132_3 := (HB.out.cell (World.block_lt_of_cell? w _ hx132_3)).trans hx132_3
      have HR132_0 := Aside0.mk hi132_0
      have HC132_0 := Aside0.mk hl132_0
      clear hi132_0 hl132_0
      replace p132 := eq_true p132
      replace q132 := eq_true q132
      have ea_ := Option.some.inj (hx127_0.symm.trans hx132_0)
      injection ea_ with ea_ en_ ec_
      subst ea_
      subst ec_
      clear en_
      have p133 : 0 ≤ (0 : Int) := (by omega)
      have q133 : 0 < (l0.length : Int) := of_decide_eq_true (by first | (with_reducible assumption) | assumption)
      obtain ⟨ad133, A133_0, c133_0, e133, hx133_0, hx133_1, hx133_2, hx133_3, hl133_0, hi133_0⟩ := at_T72 HR0.out 0 p133 q133
      have hw133_3 := hx133_3
      (try rw [show ((0 : Int)).toNat = 0 from rfl] at hw133_3)
      (try rw [show 0 * 4 = 0 from rfl] at hw133_3)
      (try rw [Addr.add_zero'] at hw133_3)
      have hw133_2 := hx133_2
      (try rw [show ((0 : Int)).toNat = 0 from rfl] at hw133_2)
      (try rw [show 0 * 4 = 0 from rfl] at hw133_2)
      (try rw [Addr.add_zero'] at hw133_2)
      have hw133_1 := hx133_1
      (try rw [show ((0 : Int)).toNat = 0 from rfl] at hw133_1)
      (try rw [show 0 * 4 = 0 from rfl] at hw133_1)
      (try rw [Addr.add_zero'] at hw133_1)
      have hw133_0 := hx133_0
      (try rw [show ((0 : Int)).toNat = 0 from rfl] at hw133_0)
      (try rw [show 0 * 4 = 0 from rfl] at hw133_0)
      (try rw [Addr.add_zero'] at hw133_0)
      obtain rfl : ad127 = ad133 := (by injection e133)
      have qi133 : (0 < l0.length) = True := eq_true (by omega)
      (try rw [show ((0 : Int)).toNat = 0 from rfl] at hx133_0)
      (try rw [show 0 * 4 = 0 from rfl] at hx133_0)
      (try rw [Addr.add_zero'] at hx133_0)
      (try rw [show ((0 : Int)).toNat = 0 from rfl] at hx133_1)
      (try rw [show 0 * 4 = 0 from rfl] at hx133_1)
      (try rw [Addr.add_zero'] at hx133_1)
      (try rw [show ((0 : Int)).toNat = 0 from rfl] at hx133_2)
      (try rw [show 0 * 4 = 0 from rfl] at hx133_2)
      (try rw [Addr.add_zero'] at hx133_2)
      (try rw [show ((0 : Int)).toNat = 0 from rfl] at hx133_3)
      (try rw [show 0 * 4 = 0 from rfl] at hx133_3)
      (try rw [Addr.add_zero'] at hx133_3)
      replace hx133_0 := (HB.out.cell (World.block_lt_of_cell? w _ hx133_0)).trans hx133_0
      replace hx133_1 := (HB.out.cell (World.block_lt_of_cell? w _ hx133_1)).trans hx133_1
      replace hx133_2 := (HB.out.cell (World.block_lt_of_cell? w _ hx133_2)).trans hx133_2
      replace hx133_3 := (HB.out.cell (World.block_lt_of_cell? w _ hx133_3)).trans hx133_3
      have HR133_0 := Aside0.mk hi133_0
      have HC133_0 := Aside0.mk hl133_0
      clear hi133_0 hl133_0
      replace p133 := eq_true p133
      replace q133 := eq_true q133
      have ea_ := Option.some.inj (hx127_0.symm.trans hx133_0)
      injection ea_ with ea_ en_ ec_
      subst ea_
      subst ec_
      clear en_
      have p134 : 0 ≤ (0 : Int) := (by omega)
      have q134 : 0 < (l1.length : Int) := of_decide_eq_true (by first | (with_reducible assumption) | assumption)
      obtain ⟨ad134, A134_0, c134_0, e134, hx134_0, hx134_1, hx134_2, hx134_3, hl134_0, hi134_0⟩ := at_T72 HR1.out 0 p134 q134
      have hw134_3 := hx134_3
      (try rw [show ((0 : Int)).toNat = 0 from rfl] at hw134_3)
      (try rw [show 0 * 4 = 0 from rfl] at hw134_3)
      (try rw [Addr.add_zero'] at hw134_3)
      have hw134_2 := hx134_2
      (try rw [show ((0 : Int)).toNat = 0 from rfl] at hw134_2)
      (try rw [show 0 * 4 = 0 from rfl] at hw134_2)
      (try rw [Addr.add_zero'] at hw134_2)
      have hw134_1 := hx134_1
      (try rw [show ((0 : Int)).toNat = 0 from rfl] at hw134_1)
      (try rw [show 0 * 4 = 0 from rfl] at hw134_1)
      (try rw [Addr.add_zero'] at hw134_1)
      have hw134_0 := hx134_0
      (try rw [show ((0 : Int)).toNat = 0 from rfl] at hw134_0)
      (try rw [show 0 * 4 = 0 from rfl] at hw134_0)
      (try rw [Addr.add_zero'] at hw134_0)
      obtain rfl : ad129 = ad134 := (by injection e134)
      have qi134 : (0 < l1.length) = True := eq_true (by omega)
      (try rw [show ((0 : Int)).toNat = 0 from rfl] at hx134_0)
      (try rw [show 0 * 4 = 0 from rfl] at hx134_0)
      (try rw [Addr.add_zero'] at hx134_0)
      (try rw [show ((0 : Int)).toNat = 0 from rfl] at hx134_1)
      (try rw [show 0 * 4 = 0 from rfl] at hx134_1)
      (try rw [Addr.add_zero'] at hx134_1)
      (try rw [show ((0 : Int)).toNat = 0 from rfl] at hx134_2)
      (try rw [show 0 * 4 = 0 from rfl] at hx134_2)
      (try rw [Addr.add_zero'] at hx134_2)
      (try rw [show ((0 : Int)).toNat = 0 from rfl] at hx134_3)
      (try rw [show 0 * 4 = 0 from rfl] at hx134_3)
      (try rw [Addr.add_zero'] at hx134_3)
      replace hx134_0 := (HB.out.cell (World.block_lt_of_cell? w _ hx134_0)).trans hx134_0
      replace hx134_1 := (HB.out.cell (World.block_lt_of_cell? w _ hx134_1)).trans hx134_1
      replace hx134_2 := (HB.out.cell (World.block_lt_of_cell? w _ hx134_2)).trans hx134_2
      replace hx134_3 := (HB.out.cell (World.block_lt_of_cell? w _ hx134_3)).trans hx134_3
      have HR134_0 := Aside0.mk hi134_0
      have HC134_0 := Aside0.mk hl134_0
      clear hi134_0 hl134_0
      replace p134 := eq_true p134
      replace q134 := eq_true q134
      have ea_ := Option.some.inj (hx129_0.symm.trans hx134_0)
      injection ea_ with ea_ en_ ec_
      subst ea_
      subst ec_
      clear en_
      have p135 : 0 ≤ (0 : Int) := (by omega)
      have q135 : 0 < (l1.length : Int) := of_decide_eq_true (by first | (with_reducible assumption) | assumption)
      obtain ⟨ad135, A135_0, c135_0, e135, hx135_0, hx135_1, hx135_2, hx135_3, hl135_0, hi135_0⟩ := at_T72 HR1.out 0 p135 q135
      have hw135_3 := hx135_3
      (try rw [show ((0 : Int)).toNat = 0 from rfl] at hw135_3)
      (try rw [show 0 * 4 = 0 from rfl] at hw135_3)
      (try rw [Addr.add_zero'] at hw135_3)
      have hw135_2 := hx135_2
      (try rw [show ((0 : Int)).toNat = 0 from rfl] at hw135_2)
      (try rw [show 0 * 4 = 0 from rfl] at hw135_2)
      (try rw [Addr.add_zero'] at hw135_2)
      have hw135_1 := hx135_1
      (try rw [show ((0 : Int)).toNat = 0 from rfl] at hw135_1)
      (try rw [show 0 * 4 = 0 from rfl] at hw135_1)
      (try rw [Addr.add_zero'] at hw135_1)
      have hw135_0 := hx135_0
      (try rw [show ((0 : Int)).toNat = 0 from rfl] at hw135_0)
      (try rw [show 0 * 4 = 0 from rfl] at hw135_0)
      (try rw [Addr.add_zero'] at hw135_0)
      obtain rfl : ad129 = ad135 := (by injection e135)
      have qi135 : (0 < l1.length) = True := eq_true (by omega)
      (try rw [show ((0 : Int)).toNat = 0 from rfl] at hx135_0)
      (try rw [show 0 * 4 = 0 from rfl] at hx135_0)
      (try rw [Addr.add_zero'] at hx135_0)
      (try rw [show ((0 : Int)).toNat = 0 from rfl] at hx135_1)
      (try rw [show 0 * 4 = 0 from rfl] at hx135_1)
      (try rw [Addr.add_zero'] at hx135_1)
      (try rw [show ((0 : Int)).toNat = 0 from rfl] at hx135_2)
      (try rw [show 0 * 4 = 0 from rfl] at hx135_2)
      (try rw [Addr.add_zero'] at hx135_2)
      (try rw [show ((0 : Int)).toNat = 0 from rfl] at hx135_3)
      (try rw [show 0 * 4 = 0 from rfl] at hx135_3)
      (try rw [Addr.add_zero'] at hx135_3)
      replace hx135_0 := (HB.out.cell (World.block_lt_of_cell? w _ hx135_0)).trans hx135_0
      replace hx135_1 := (HB.out.cell (World.block_lt_of_cell? w _ hx135_1)).trans hx135_1
      replace hx135_2 := (HB.out.cell (World.block_lt_of_cell? w _ hx135_2)).trans hx135_2
      replace hx135_3 := (HB.out.cell (World.block_lt_of_cell? w _ hx135_3)).trans hx135_3
      have HR135_0 := Aside0.mk hi135_0
      have HC135_0 := Aside0.mk hl135_0
      clear hi135_0 hl135_0
      replace p135 := eq_true p135
      replace q135 := eq_true q135
      have ea_ := Option.some.inj (hx129_0.symm.trans hx135_0)
      injection ea_ with ea_ en_ ec_
      subst ea_
      subst ec_
      clear en_
      have p137 : 0 ≤ (0 : Int) := (by omega)
      have q137 : 0 < (l0.length : Int) := of_decide_eq_true (by first | (with_reducible assumption) | assumption)
      obtain ⟨ad137, A137_0, c137_0, e137, hx137_0, hx137_1, hx137_2, hx137_3, hl137_0, hi137_0⟩ := at_T72 HR0.out 0 p137 q137
      have hw137_3 := hx137_3
      (try rw [show ((0 : Int)).toNat = 0 from rfl] at hw137_3)
      (try rw [show 0 * 4 = 0 from rfl] at hw137_3)
      (try rw [Addr.add_zero'] at hw137_3)
      have hw137_2 := hx137_2
      (try rw [show ((0 : Int)).toNat = 0 from rfl] at hw137_2)
      (try rw [show 0 * 4 = 0 from rfl] at hw137_2)
      (try rw [Addr.add_zero'] at hw137_2)
      have hw137_1 := hx137_1
      (try rw [show ((0 : Int)).toNat = 0 from rfl] at hw137_1)
      (try rw [show 0 * 4 = 0 from rfl] at hw137_1)
      (try rw [Addr.add_zero'] at hw137_1)
      have hw137_0 := hx137_0
      (try rw [show ((0 : Int)).toNat = 0 from rfl] at hw137_0)
      (try rw [show 0 * 4 = 0 from rfl] at hw137_0)
      (try rw [Addr.add_zero'] at hw137_0)
      obtain rfl : ad127 = ad137 := (by injection e137)
      have qi137 : (0 < l0.length) = True := eq_true (by omega)
      (try rw [show ((0 : Int)).toNat = 0 from rfl] at hx137_0)
      (try rw [show 0 * 4 = 0 from rfl] at hx137_0)
      (try rw [Addr.add_zero'] at hx137_0)
      (try rw [show ((0 : Int)).toNat = 0 from rfl] at hx137_1)
      (try rw [show 0 * 4 = 0 from rfl] at hx137_1)
      (try rw [Addr.add_zero'] at hx137_1)
      (try rw [show ((0 : Int)).toNat = 0 from rfl] at hx137_2)
      (try rw [show 0 * 4 = 0 from rfl] at hx137_2)
      (try rw [Addr.add_zero'] at hx137_2)
      (try rw [show ((0 : Int)).toNat = 0 from rfl] at hx137_3)
      (try rw [show 0 * 4 = 0 from rfl] at hx137_3)
      (try rw [Addr.add_zero'] at hx137_3)
      replace hx137_0 := (HB.out.cell (World.block_lt_of_cell? w _ hx137_0)).trans hx137_0
      replace hx137_1 := (HB.out.cell (World.block_lt_of_cell? w _ hx137_1)).trans hx137_1
      replace hx137_2 := (HB.out.cell (World.block_lt_of_cell? w _ hx137_2)).trans hx137_2
      replace hx137_3 := (HB.out.cell (World.block_lt_of_cell? w _ hx137_3)).trans hx137_3
      have HR137_0 := Aside0.mk hi137_0
      have HC137_0 := Aside0.mk hl137_0
      clear hi137_0 hl137_0
      replace p137 := eq_true p137
      replace q137 := eq_true q137
      have ea_ := Option.some.inj (hx127_0.symm.trans hx137_0)
      injection ea_ with ea_ en_ ec_
      subst ea_
      subst ec_
      clear en_
      have p138 : 0 ≤ (0 : Int) := (by omega)
      have q138 : 0 < (l0.length : Int) := of_decide_eq_true (by first | (with_reducible assumption) | assumption)
      obtain ⟨ad138, A138_0, c138_0, e138, hx138_0, hx138_1, hx138_2, hx138_3, hl138_0, hi138_0⟩ := at_T72 HR0.out 0 p138 q138
      have hw138_3 := hx138_3
      (try rw [show ((0 : Int)).toNat = 0 from rfl] at hw138_3)
      (try rw [show 0 * 4 = 0 from rfl] at hw138_3)
      (try rw [Addr.add_zero'] at hw138_3)
      have hw138_2 := hx138_2
      (try rw [show ((0 : Int)).toNat = 0 from rfl] at hw138_2)
      (try rw [show 0 * 4 = 0 from rfl] at hw138_2)
      (try rw [Addr.add_zero'] at hw138_2)
      have hw138_1 := hx138_1
      (try rw [show ((0 : Int)).toNat = 0 from rfl] at hw138_1)
      (try rw [show 0 * 4 = 0 from rfl] at hw138_1)
      (try rw [Addr.add_zero'] at hw138_1)
      have hw138_0 := hx138_0
      (try rw [show ((0 : Int)).toNat = 0 from rfl] at hw138_0)
      (try rw [show 0 * 4 = 0 from rfl] at hw138_0)
      (try rw [Addr.add_zero'] at hw138_0)
      obtain rfl : ad127 = ad138 := (by injection e138)
      have qi138 : (0 < l0.length) = True := eq_true (by omega)
      (try rw [show ((0 : Int)).toNat = 0 from rfl] at hx138_0)
      (try rw [show 0 * 4 = 0 from rfl] at hx138_0)
      (try rw [Addr.add_zero'] at hx138_0)
      (try rw [show ((0 : Int)).toNat = 0 from rfl] at hx138_1)
      (try rw [show 0 * 4 = 0 from rfl] at hx138_1)
      (try rw [Addr.add_zero'] at hx138_1)
      (try rw [show ((0 : Int)).toNat = 0 from rfl] at hx138_2)
      (try rw [show 0 * 4 = 0 from rfl] at hx138_2)
      (try rw [Addr.add_zero'] at hx138_2)
      (try rw [show ((0 : Int)).toNat = 0 from rfl] at hx138_3)
      (try rw [show 0 * 4 = 0 from rfl] at hx138_3)
      (try rw [Addr.add_zero'] at hx138_3)
      replace hx138_0 := (HB.out.cell (World.block_lt_of_cell? w _ hx138_0)).trans hx138_0
      replace hx138_1 := (HB.out.cell (World.block_lt_of_cell? w _ hx138_1)).trans hx138_1
      replace hx138_2 := (HB.out.cell (World.block_lt_of_cell? w _ hx138_2)).trans hx138_2
      replace hx138_3 := (HB.out.cell (World.block_lt_of_cell? w _ hx138_3)).trans hx138_3
      have HR138_0 := Aside0.mk hi138_0
      have HC138_0 := Aside0.mk hl138_0
      clear hi138_0 hl138_0
      replace p138 := eq_true p138
      replace q138 := eq_true q138
      have ea_ := Option.some.inj (hx127_0.symm.trans hx138_0)
      injection ea_ with ea_ en_ ec_
      subst ea_
      subst ec_
      clear en_
      have p139 : 0 ≤ (0 : Int) := (by omega)
      have q139 : 0 < (l1.length : Int) := of_decide_eq_true (by first | (with_reducible assumption) | assumption)
      obtain ⟨ad139, A139_0, c139_0, e139, hx139_0, hx139_1, hx139_2, hx139_3, hl139_0, hi139_0⟩ := at_T72 HR1.out 0 p139 q139
      have hw139_3 := hx139_3
      (try rw [show ((0 : Int)).toNat = 0 from rfl] at hw139_3)
      (try rw [show 0 * 4 = 0 from rfl] at hw139_3)
      (try rw [Addr.add_zero'] at hw139_3)
      have hw139_2 := hx139_2
      (try rw [show ((0 : Int)).toNat = 0 from rfl] at hw139_2)
      (try rw [show 0 * 4 = 0 from rfl] at hw139_2)
      (try rw [Addr.add_zero'] at hw139_2)
      have hw139_1 := hx139_1
      (try rw [show ((0 : Int)).toNat = 0 from rfl] at hw139_1)
      (try rw [show 0 * 4 = 0 from rfl] at hw139_1)
      (try rw [Addr.add_zero'] at hw139_1)
      have hw139_0 := hx139_0
      (try rw [show ((0 : Int)).toNat = 0 from rfl] at hw139_0)
      (try rw [show 0 * 4 = 0 from rfl] at hw139_0)
      (try rw [Addr.add_zero'] at hw139_0)
      obtain rfl : ad129 = ad139 := (by injection e139)
      have qi139 : (0 < l1.length) = True := eq_true (by omega)
      (try rw [show ((0 : Int)).toNat = 0 from rfl] at hx139_0)
      (try rw [show 0 * 4 = 0 from rfl] at hx139_0)
      (try rw [Addr.add_zero'] at hx139_0)
      (try rw [show ((0 : Int)).toNat = 0 from rfl] at hx139_1)
      (try rw [show 0 * 4 = 0 from rfl] at hx139_1)
      (try rw [Addr.add_zero'] at hx139_1)
      (try rw [show ((0 : Int)).toNat = 0 from rfl] at hx139_2)
      (try rw [show 0 * 4 = 0 from rfl] at hx139_2)
      (try rw [Addr.add_zero'] at hx139_2)
      (try rw [show ((0 : Int)).toNat = 0 from rfl] at hx139_3)
      (try rw [show 0 * 4 = 0 from rfl] at hx139_3)
      (try rw [Addr.add_zero'] at hx139_3)
      replace hx139_0 := (HB.out.cell (World.block_lt_of_cell? w _ hx139_0)).trans hx139_0
      replace hx139_1 := (HB.out.cell (World.block_lt_of_cell? w _ hx139_1)).trans hx139_1
      replace hx139_2 := (HB.out.cell (World.block_lt_of_cell? w _ hx139_2)).trans hx139_2
      replace hx139_3 := (HB.out.cell (World.block_lt_of_cell? w _ hx139_3)).trans hx139_3
      have HR139_0 := Aside0.mk hi139_0
      have HC139_0 := Aside0.mk hl139_0
      clear hi139_0 hl139_0
      replace p139 := eq_true p139
      replace q139 := eq_true q139
      have ea_ := Option.some.inj (hx129_0.symm.trans hx139_0)
      injection ea_ with ea_ en_ ec_
      subst ea_
      subst ec_
      clear en_
      have p140 : 0 ≤ (0 : Int) := (by omega)
      have q140 : 0 < (l1.length : Int) := of_decide_eq_true (by first | (with_reducible assumption) | assumption)
      obtain ⟨ad140, A140_0, c140_0, e140, hx140_0, hx140_1, hx140_2, hx140_3, hl140_0, hi140_0⟩ := at_T72 HR1.out 0 p140 q140
      have hw140_3 := hx140_3
      (try rw [show ((0 : Int)).toNat = 0 from rfl] at hw140_3)
      (try rw [show 0 * 4 = 0 from rfl] at hw140_3)
      (try rw [Addr.add_zero'] at hw140_3)
      have hw140_2 := hx140_2
      (try rw [show ((0 : Int)).toNat = 0 from rfl] at hw140_2)
      (try rw [show 0 * 4 = 0 from rfl] at hw140_2)
      (try rw [Addr.add_zero'] at hw140_2)
      have hw140_1 := hx140_1
      (try rw [show ((0 : Int)).toNat = 0 from rfl] at hw140_1)
      (try rw [show 0 * 4 = 0 from rfl] at hw140_1)
      (try rw [Addr.add_zero'] at hw140_1)
      have hw140_0 := hx140_0
      (try rw [show ((0 : Int)).toNat = 0 from rfl] at hw140_0)
      (try rw [show 0 * 4 = 0 from rfl] at hw140_0)
      (try rw [Addr.add_zero'] at hw140_0)
      obtain rfl : ad129 = ad140 := (by injection e140)
      have qi140 : (0 < l1.length) = True := eq_true (by omega)
      (try rw [show ((0 : Int)).toNat = 0 from rfl] at hx140_0)
      (try rw [show 0 * 4 = 0 from rfl] at hx140_0)
      (try rw [Addr.add_zero'] at hx140_0)
      (try rw [show ((0 : Int)).toNat = 0 from rfl] at hx140_1)
      (try rw [show 0 * 4 = 0 from rfl] at hx140_1)
      (try rw [Addr.add_zero'] at hx140_1)
      (try rw [show ((0 : Int)).toNat = 0 from rfl] at hx140_2)
      (try rw [show 0 * 4 = 0 from rfl] at hx140_2)
      (try rw [Addr.add_zero'] at hx140_2)
      (try rw [show ((0 : Int)).toNat = 0 from rfl] at hx140_3)
      (try rw [show 0 * 4 = 0 from rfl] at hx140_3)
      (try rw [Addr.add_zero'] at hx140_3)
      replace hx140_0 := (HB.out.cell (World.block_lt_of_cell? w _ hx140_0)).trans hx140_0
      replace hx140_1 := (HB.out.cell (World.block_lt_of_cell? w _ hx140_1)).trans hx140_1
      replace hx140_2 := (HB.out.cell (World.block_lt_of_cell? w _ hx140_2)).trans hx140_2
      replace hx140_3 := (HB.out.cell (World.block_lt_of_cell? w _ hx140_3)).trans hx140_3
      have HR140_0 := Aside0.mk hi140_0
      have HC140_0 := Aside0.mk hl140_0
      clear hi140_0 hl140_0
      replace p140 := eq_true p140
      replace q140 := eq_true q140
      have ea_ := Option.some.inj (hx129_0.symm.trans hx140_0)
      injection ea_ with ea_ en_ ec_
      subst ea_
      subst ec_
      clear en_
      have p142 : 0 ≤ (0 : Int) := (by omega)
      have q142 : 0 < (l0.length : Int) := of_decide_eq_true (by first | (with_reducible assumption) | assumption)
      obtain ⟨ad142, A142_0, c142_0, e142, hx142_0, hx142_1, hx142_2, hx142_3, hl142_0, hi142_0⟩ := at_T72 HR0.out 0 p142 q142
      have hw142_3 := hx142_3
      (try rw [show ((0 : Int)).toNat = 0 from rfl] at hw142_3)
      (try rw [show 0 * 4 = 0 from rfl] at hw142_3)
      (try rw [Addr.add_zero'] at hw142_3)
      have hw142_2 := hx142_2
      (try rw [show ((0 : Int)).toNat = 0 from rfl] at hw142_2)
      (try rw [show 0 * 4 = 0 from rfl] at hw142_2)
      (try rw [Addr.add_zero'] at hw142_2)
      have hw142_1 := hx142_1
      (try rw [show ((0 : Int)).toNat = 0 from rfl] at hw142_1)
      (try rw [show 0 * 4 = 0 from rfl] at hw142_1)
      (try rw [Addr.add_zero'] at hw142_1)
      have hw142_0 := hx142_0
      (try rw [show ((0 : Int)).toNat = 0 from rfl] at hw142_0)
      (try rw [show 0 * 4 = 0 from rfl] at hw142_0)
      (try rw [Addr.add_zero'] at hw142_0)
      obtain rfl : ad127 = ad142 := (by injection e142)
      have qi142 : (0 < l0.length) = True := eq_true (by omega)
      (try rw [show ((0 : Int)).toNat = 0 from rfl] at hx142_0)
      (try rw [show 0 * 4 = 0 from rfl] at hx142_0)
      (try rw [Addr.add_zero'] at hx142_0)
      (try rw [show ((0 : Int)).toNat = 0 from rfl] at hx142_1)
      (try rw [show 0 * 4 = 0 from rfl] at hx142_1)
      (try rw [Addr.add_zero'] at hx142_1)
      (try rw [show ((0 : Int)).toNat = 0 from rfl] at hx142_2)
      (try rw [show 0 * 4 = 0 from rfl] at hx142_2)
      (try rw [Addr.add_zero'] at hx142_2)
      (try rw [show ((0 : Int)).toNat = 0 from rfl] at hx142_3)
      (try rw [show 0 * 4 = 0 from rfl] at hx142_3)
      (try rw [Addr.add_zero'] at hx142_3)
      replace hx142_0 := (HB.out.cell (World.block_lt_of_cell? w _ hx142_0)).trans hx142_0
      replace hx142_1 := (HB.out.cell (World.block_lt_of_cell? w _ hx142_1)).trans hx142_1
      replace hx142_2 := (HB.out.cell (World.block_lt_of_cell? w _ hx142_2)).trans hx142_2
      replace hx142_3 := (HB.out.cell (World.block_lt_of_cell? w _ hx142_3)).trans hx142_3
      have HR142_0 := Aside0.mk hi142_0
      have HC142_0 := Aside0.mk hl142_0
      clear hi142_0 hl142_0
      replace p142 := eq_true p142
      replace q142 := eq_true q142
      have ea_ := Option.some.inj (hx127_0.symm.trans hx142_0)
      injection ea_ with ea_ en_ ec_
      subst ea_
      subst ec_
      clear en_
      have p143 : 0 ≤ (0 : Int) := (by omega)
      have q143 : 0 < (l0.length : Int) := of_decide_eq_true (by first | (with_reducible assumption) | assumption)
      obtain ⟨ad143, A143_0, c143_0, e143, hx143_0, hx143_1, hx143_2, hx143_3, hl143_0, hi143_0⟩ := at_T72 HR0.out 0 p143 q143
      have hw143_3 := hx143_3
      (try rw [show ((0 : Int)).toNat = 0 from rfl] at hw143_3)
      (try rw [show 0 * 4 = 0 from rfl] at hw143_3)
      (try rw [Addr.add_zero'] at hw143_3)
      have hw143_2 := hx143_2
      (try rw [show ((0 : Int)).toNat = 0 from rfl] at hw143_2)
      (try rw [show 0 * 4 = 0 from rfl] at hw143_2)
      (try rw [Addr.add_zero'] at hw143_2)
      have hw143_1 := hx143_1
      (try rw [show ((0 : Int)).toNat = 0 from rfl] at hw143_1)
      (try rw [show 0 * 4 = 0 from rfl] at hw143_1)
      (try rw [Addr.add_zero'] at hw143_1)
      have hw143_0 := hx143_0
      (try rw [show ((0 : Int)).toNat = 0 from rfl] at hw143_0)
      (try rw [show 0 * 4 = 0 from rfl] at hw143_0)
      (try rw [Addr.add_zero'] at hw143_0)
      obtain rfl : ad127 = ad143 := (by injection e143)
      have qi143 : (0 < l0.length) = True := eq_true (by omega)
      (try rw [show ((0 : Int)).toNat = 0 from rfl] at hx143_0)
      (try rw [show 0 * 4 = 0 from rfl] at hx143_0)
      (try rw [Addr.add_zero'] at hx143_0)
      (try rw [show ((0 : Int)).toNat = 0 from rfl] at hx143_1)
      (try rw [show 0 * 4 = 0 from rfl] at hx143_1)
      (try rw [Addr.add_zero'] at hx143_1)
      (try rw [show ((0 : Int)).toNat = 0 from rfl] at hx143_2)
      (try rw [show 0 * 4 = 0 from rfl] at hx143_2)
      (try rw [Addr.add_zero'] at hx143_2)
      (try rw [show ((0 : Int)).toNat = 0 from rfl] at hx143_3)
      (try rw [show 0 * 4 = 0 from rfl] at hx143_3)
      (try rw [Addr.add_zero'] at hx143_3)
      replace hx143_0 := (HB.out.cell (World.block_lt_of_cell? w _ hx143_0)).trans hx143_0
      replace hx143_1 := (HB.out.cell (World.block_lt_of_cell? w _ hx143_1)).trans hx143_1
      replace hx143_2 := (HB.out.cell (World.block_lt_of_cell? w _ hx143_2)).trans hx143_2
      replace hx143_3 := (HB.out.cell (World.block_lt_of_cell? w _ hx143_3)).trans hx143_3
      have HR143_0 := Aside0.mk hi143_0
      have HC143_0 := Aside0.mk hl143_0
      clear hi143_0 hl143_0
      replace p143 := eq_true p143
      replace q143 := eq_true q143
      have ea_ := Option.some.inj (hx127_0.symm.trans hx143_0)
      injection ea_ with ea_ en_ ec_
      subst ea_
      subst ec_
      clear en_
      have p144 : 0 ≤ (0 : Int) := (by omega)
      have q144 : 0 < (l1.length : Int) := of_decide_eq_true (by first | (with_reducible assumption) | assumption)
      obtain ⟨ad144, A144_0, c144_0, e144, hx144_0, hx144_1, hx144_2, hx144_3, hl144_0, hi144_0⟩ := at_T72 HR1.out 0 p144 q144
      have hw144_3 := hx144_3
      (try rw [show ((0 : Int)).toNat = 0 from rfl] at hw144_3)
      (try rw [show 0 * 4 = 0 from rfl] at hw144_3)
      (try rw [Addr.add_zero'] at hw144_3)
      have hw144_2 := hx144_2
      (try rw [show ((0 : Int)).toNat = 0 from rfl] at hw144_2)
      (try rw [show 0 * 4 = 0 from rfl] at hw144_2)
      (try rw [Addr.add_zero'] at hw144_2)
      have hw144_1 := hx144_1
      (try rw [show ((0 : Int)).toNat = 0 from rfl] at hw144_1)
      (try rw [show 0 * 4 = 0 from rfl] at hw144_1)
      (try rw [Addr.add_zero'] at hw144_1)
      have hw144_0 := hx144_0
      (try rw [show ((0 : Int)).toNat = 0 from rfl] at hw144_0)
      (try rw [show 0 * 4 = 0 from rfl] at hw144_0)
      (try rw [Addr.add_zero'] at hw144_0)
      obtain rfl : ad129 = ad144 := (by injection e144)
      have qi144 : (0 < l1.length) = True := eq_true (by omega)
      (try rw [show ((0 : Int)).toNat = 0 from rfl] at hx144_0)
      (try rw [show 0 * 4 = 0 from rfl] at hx144_0)
      (try rw [Addr.add_zero'] at hx144_0)
      (try rw [show ((0 : Int)).toNat = 0 from rfl] at hx144_1)
      (try rw [show 0 * 4 = 0 from rfl] at hx144_1)
      (try rw [Addr.add_zero'] at hx144_1)
      (try rw [show ((0 : Int)).toNat = 0 from rfl] at hx144_2)
      (try rw [show 0 * 4 = 0 from rfl] at hx144_2)
      (try rw [Addr.add_zero'] at hx144_2)
      (try rw [show ((0 : Int)).toNat = 0 from rfl] at hx144_3)
      (try rw [show 0 * 4 = 0 from rfl] at hx144_3)
      (try rw [Addr.add_zero'] at hx144_3)
      replace hx144_0 := (HB.out.cell (World.block_lt_of_cell? w _ hx144_0)).trans hx144_0
      replace hx144_1 := (HB.out.cell (World.block_lt_of_cell? w _ hx144_1)).trans hx144_1
      replace hx144_2 := (HB.out.cell (World.block_lt_of_cell? w _ hx144_2)).trans hx144_2
      replace hx144_3 := (HB.out.cell (World.block_lt_of_cell? w _ hx144_3)).trans hx144_3
      have HR144_0 := Aside0.mk hi144_0
      have HC144_0 := Aside0.mk hl144_0
      clear hi144_0 hl144_0
      replace p144 := eq_true p144
      replace q144 := eq_true q144
      have ea_ := Option.some.inj (hx129_0.symm.trans hx144_0)
      injection ea_ with ea_ en_ ec_
      subst ea_
      subst ec_
      clear en_
      have p145 : 0 ≤ (0 : Int) := (by omega)
      have q145 : 0 < (l1.length : Int) := of_decide_eq_true (by first | (with_reducible assumption) | assumption)
      obtain ⟨ad145, A145_0, c145_0, e145, hx145_0, hx145_1, hx145_2, hx145_3, hl145_0, hi145_0⟩ := at_T72 HR1.out 0 p145 q145
      have hw145_3 := hx145_3
      (try rw [show ((0 : Int)).toNat = 0 from rfl] at hw145_3)
      (try rw [show 0 * 4 = 0 from rfl] at hw145_3)
      (try rw [Addr.add_zero'] at hw145_3)
      have hw145_2 := hx145_2
      (try rw [show ((0 : Int)).toNat = 0 from rfl] at hw145_2)
      (try rw [show 0 * 4 = 0 from rfl] at hw145_2)
      (try rw [Addr.add_zero'] at hw145_2)
      have hw145_1 := hx145_1
      (try rw [show ((0 : Int)).toNat = 0 from rfl] at hw145_1)
      (try rw [show 0 * 4 = 0 from rfl] at hw145_1)
      (try rw [Addr.add_zero'] at hw145_1)
      have hw145_0 := hx145_0
      (try rw [show ((0 : Int)).toNat = 0 from rfl] at hw145_0)
      (try rw [show 0 * 4 = 0 from rfl] at hw145_0)
      (try rw [Addr.add_zero'] at hw145_0)
      obtain rfl : ad129 = ad145 := (by injection e145)
      have qi145 : (0 < l1.length) = True := eq_true (by omega)
      (try rw [show ((0 : Int)).toNat = 0 from rfl] at hx145_0)
      (try rw [show 0 * 4 = 0 from rfl] at hx145_0)
      (try rw [Addr.add_zero'] at hx145_0)
      (try rw [show ((0 : Int)).toNat = 0 from rfl] at hx145_1)
      (try rw [show 0 * 4 = 0 from rfl] at hx145_1)
      (try rw [Addr.add_zero'] at hx145_1)
      (try rw [show ((0 : Int)).toNat = 0 from rfl] at hx145_2)
      (try rw [show 0 * 4 = 0 from rfl] at hx145_2)
      (try rw [Addr.add_zero'] at hx145_2)
      (try rw [show ((0 : Int)).toNat = 0 from rfl] at hx145_3)
      (try rw [show 0 * 4 = 0 from rfl] at hx145_3)
      (try rw [Addr.add_zero'] at hx145_3)
      replace hx145_0 := (HB.out.cell (World.block_lt_of_cell? w _ hx145_0)).trans hx145_0
      replace hx145_1 := (HB.out.cell (World.block_lt_of_cell? w _ hx145_1)).trans hx145_1
      replace hx145_2 := (HB.out.cell (World.block_lt_of_cell? w _ hx145_2)).trans hx145_2
      replace hx145_3 := (HB.out.cell (World.block_lt_of_cell? w _ hx145_3)).trans hx145_3
      have HR145_0 := Aside0.mk hi145_0
      have HC145_0 := Aside0.mk hl145_0
      clear hi145_0 hl145_0
      replace p145 := eq_true p145
      replace q145 := eq_true q145
      have ea_ := Option.some.inj (hx129_0.symm.trans hx145_0)
      injection ea_ with ea_ en_ ec_
      subst ea_
      subst ec_
      clear en_
      refine start_ (n := 43) (S := fun w' => w'.cell? ad127 = some (.slice A127_0 ((rd_T72 l0 0).f0).length c127_0) ∧ w'.cell? ⟨ad127.block, ad127.off + 1, none⟩ = some (.float .f32 ((rd_T72 l0 0).f1)) ∧ w'.cell? ⟨ad127.block, ad127.off + 2, none⟩ = some (.float .f32 ((rd_T72 l0 0).f2)) ∧ w'.cell? ⟨ad127.block, ad127.off + 3, none⟩ = some (.float .f32 ((rd_T72 l0 0).f3)) ∧ w'.cell? ad127 = some (.slice A127_0 ((rd_T72 l0 0).f0).length c127_0) ∧ w'.cell? ⟨ad127.block, ad127.off + 1, none⟩ = some (.float .f32 ((rd_T72 l0 0).f1)) ∧ w'.cell? ⟨ad127.block, ad127.off + 2, none⟩ = some (.float .f32 ((rd_T72 l0 0).f2)) ∧ w'.cell? ⟨ad127.block, ad127.off + 3, none⟩ = some (.float .f32 ((rd_T72 l0 0).f3)) ∧ w'.cell? ad129 = some (.slice A129_0 ((rd_T72 l1 0).f0).length c129_0) ∧ w'.cell? ⟨ad129.block, ad129.off + 1, none⟩ = some (.float .f32 ((rd_T72 l1 0).f1)) ∧ w'.cell? ⟨ad129.block, ad129.off + 2, none⟩ = some (.float .f32 ((rd_T72 l1 0).f2)) ∧ w'.cell? ⟨ad129.block, ad129.off + 3, none⟩ = some (.float .f32 ((rd_T72 l1 0).f3)) ∧ w'.cell? ad129 = some (.slice A129_0 ((rd_T72 l1 0).f0).length c129_0) ∧ w'.cell? ⟨ad129.block, ad129.off + 1, none⟩ = some (.float .f32 ((rd_T72 l1 0).f1)) ∧ w'.cell? ⟨ad129.block, ad129.off + 2, none⟩ = some (.float .f32 ((rd_T72 l1 0).f2)) ∧ w'.cell? ⟨ad129.block, ad129.off + 3, none⟩ = some (.float .f32 ((rd_T72 l1 0).f3)) ∧ w'.cell? ad127 = some (.slice A127_0 ((rd_T72 l0 0).f0).length c127_0) ∧ w'.cell? ⟨ad127.block, ad127.off + 1, none⟩ = some (.float .f32 ((rd_T72 l0 0).f1)) ∧ w'.cell? ⟨ad127.block, ad127.off + 2, none⟩ = some (.float .f32 ((rd_T72 l0 0).f2)) ∧ w'.cell? ⟨ad127.block, ad127.off + 3, none⟩ = some (.float .f32 ((rd_T72 l0 0).f3)) ∧ w'.cell? ad127 = some (.slice A127_0 ((rd_T72 l0 0).f0).length c127_0) ∧ w'.cell? ⟨ad127.block, ad127.off + 1, none⟩ = some (.float .f32 ((rd_T72 l0 0).f1)) ∧ w'.cell? ⟨ad127.block, ad127.off + 2, none⟩ = some (.float .f32 ((rd_T72 l0 0).f2)) ∧ w'.cell? ⟨ad127.block, ad127.off + 3, none⟩ = some (.float .f32 ((rd_T72 l0 0).f3)) ∧ w'.cell? ad129 = some (.slice A129_0 ((rd_T72 l1 0).f0).length c129_0) ∧ w'.cell? ⟨ad129.block, ad129.off + 1, none⟩ = some (.float .f32 ((rd_T72 l1 0).f1)) ∧ w'.cell? ⟨ad129.block, ad129.off + 2, none⟩ = some (.float .f32 ((rd_T72 l1 0).f2)) ∧ w'.cell? ⟨ad129.block, ad129.off + 3, none⟩ = some (.float .f32 ((rd_T72 l1 0).f3)) ∧ w'.cell? ad129 = some (.slice A129_0 ((rd_T72 l1 0).f0).length c129_0) ∧ w'.cell? ⟨ad129.block, ad129.off + 1, none⟩ = some (.float .f32 ((rd_T72 l1 0).f1)) ∧ w'.cell? ⟨ad129.block, ad129.off + 2, none⟩ = some (.float .f32 ((rd_T72 l1 0).f2)) ∧ w'.cell? ⟨ad129.block, ad129.off + 3, none⟩ = some (.float .f32 ((rd_T72 l1 0).f3)) ∧ w'.cell? ad127 = some (.slice A127_0 ((rd_T72 l0 0).f0).length c127_0) ∧ w'.cell? ⟨ad127.block, ad127.off + 1, none⟩ = some (.float .f32 ((rd_T72 l0 0).f1)) ∧ w'.cell? ⟨ad127.block, ad127.off + 2, none⟩ = some (.float .f32 ((rd_T72 l0 0).f2)) ∧ w'.cell? ⟨ad127.block, ad127.off + 3, none⟩ = some (.float .f32 ((rd_T72 l0 0).f3)) ∧ w'.cell? ad127 = some (.slice A127_0 ((rd_T72 l0 0).f0).length c127_0) ∧ w'.cell? ⟨ad127.block, ad127.off + 1, none⟩ = some (.float .f32 ((rd_T72 l0 0).f1)) ∧ w'.cell? ⟨ad127.block, ad127.off + 2, none⟩ = some (.float .f32 ((rd_T72 l0 0).f2)) ∧ w'.cell? ⟨ad127.block, ad127.off + 3, none⟩ = some (.float .f32 ((rd_T72 l0 0).f3)) ∧ w'.cell? ad129 = some (.slice A129_0 ((rd_T72 l1 0).f0).length c129_0) ∧ w'.cell? ⟨ad129.block, ad129.off + 1, none⟩ = some (.float .f32 ((rd_T72 l1 0).f1)) ∧ w'.cell? ⟨ad129.block, ad129.off + 2, none⟩ = some (.float .f32 ((rd_T72 l1 0).f2)) ∧ w'.cell? ⟨ad129.block, ad129.off + 3, none⟩ = some (.float .f32 ((rd_T72 l1 0).f3)) ∧ w'.cell? ad129 = some (.slice A129_0 ((rd_T72 l1 0).f0).length c129_0) ∧ w'.cell? ⟨ad129.block, ad129.off + 1, none⟩ = some (.float .f32 ((rd_T72 l1 0).f1)) ∧ w'.cell? ⟨ad129.block, ad129.off + 2, none⟩ = some (.float .f32 ((rd_T72 l1 0).f2)) ∧ w'.cell? ⟨ad129.block, ad129.off + 3, none⟩ = some (.float .f32 ((rd_T72 l1 0).f3)) ∧ w'.cell? ad127 = some (.slice A127_0 ((rd_T72 l0 0).f0).length c127_0) ∧ w'.cell? ⟨ad127.block, ad127.off + 1, none⟩ = some (.float .f32 ((rd_T72 l0 0).f1)) ∧ w'.cell? ⟨ad127.block, ad127.off + 2, none⟩ = some (.float .f32 ((rd_T72 l0 0).f2)) ∧ w'.cell? ⟨ad127.block, ad127.off + 3, none⟩ = some (.float .f32 ((rd_T72 l0 0).f3)) ∧ w'.cell? ad127 = some (.slice A127_0 ((rd_T72 l0 0).f0).length c127_0) ∧ w'.cell? ⟨ad127.block, ad127.off + 1, none⟩ = some (.float .f32 ((rd_T72 l0 0).f1)) ∧ w'.cell? ⟨ad127.block, ad127.off + 2, none⟩ = some (.float .f32 ((rd_T72 l0 0).f2)) ∧ w'.cell? ⟨ad127.block, ad127.off + 3, none⟩ = some (.float .f32 ((rd_T72 l0 0).f3)) ∧ w'.cell? ad129 = some (.slice A129_0 ((rd_T72 l1 0).f0).length c129_0) ∧ w'.cell? ⟨ad129.block, ad129.off + 1, none⟩ = some (.float .f32 ((rd_T72 l1 0).f1)) ∧ w'.cell? ⟨ad129.block, ad129.off + 2, none⟩ = some (.float .f32 ((rd_T72 l1 0).f2)) ∧ w'.cell? ⟨ad129.block, ad129.off + 3, none⟩ = some (.float .f32 ((rd_T72 l1 0).f3)) ∧ w'.cell? ad129 = some (.slice A129_0 ((rd_T72 l1 0).f0).length c129_0) ∧ w'.cell? ⟨ad129.block, ad129.off + 1, none⟩ = some (.float .f32 ((rd_T72 l1 0).f1)) ∧ w'.cell? ⟨ad129.block, ad129.off + 2, none⟩ = some (.float .f32 ((rd_T72 l1 0).f2)) ∧ w'.cell? ⟨ad129.block, ad129.off + 3, none⟩ = some (.float .f32 ((rd_T72 l1 0).f3))) (ds := []) spec_l02Same.z0 (by kernel_rfl) rfl rfl ⟨(cu_ HB.out hw127_0), (cu_ HB.out hw127_1), (cu_ HB.out hw127_2), (cu_ HB.out hw127_3), (cu_ HB.out hw128_0), (cu_ HB.out hw128_1), (cu_ HB.out hw128_2), (cu_ HB.out hw128_3), (cu_ HB.out hw129_0), (cu_ HB.out hw129_1), (cu_ HB.out hw129_2), (cu_ HB.out hw129_3), (cu_ HB.out hw130_0), (cu_ HB.out hw130_1), (cu_ HB.out hw130_2), (cu_ HB.out hw130_3), (cu_ HB.out hw132_0), (cu_ HB.out hw132_1), (cu_ HB.out hw132_2), (cu_ HB.out hw132_3), (cu_ HB.out hw133_0), (cu_ HB.out hw133_1), (cu_ HB.out hw133_2), (cu_ HB.out hw133_3), (cu_ HB.out hw134_0), (cu_ HB.out hw134_1), (cu_ HB.out hw134_2), (cu_ HB.out hw134_3), (cu_ HB.out hw135_0), (cu_ HB.out hw135_1), (cu_ HB.out hw135_2), (cu_ HB.out hw135_3), (cu_ HB.out hw137_0), (cu_ HB.out hw137_1), (cu_ HB.out hw137_2), (cu_ HB.out hw137_3), (cu_ HB.out hw138_0), (cu_ HB.out hw138_1), (cu_ HB.out hw138_2), (cu_ HB.out hw138_3), (cu_ HB.out hw139_0), (cu_ HB.out hw139_1), (cu_ HB.out hw139_2), (cu_ HB.out hw139_3), (cu_ HB.out hw140_0), (cu_ HB.out hw140_1), (cu_ HB.out hw140_2), (cu_ HB.out hw140_3), (cu_ HB.out hw142_0), (cu_ HB.out hw142_1), (cu_ HB.out hw142_2), (cu_ HB.out hw142_3), (cu_ HB.out hw143_0), (cu_ HB.out hw143_1), (cu_ HB.out hw143_2), (cu_ HB.out hw143_3), (cu_ HB.out hw144_0), (cu_ HB.out hw144_1), (cu_ HB.out hw144_2), (cu_ HB.out hw144_3), (cu_ HB.out hw145_0), (cu_ HB.out hw145_1), (cu_ HB.out hw145_2), (cu_ HB.out hw145_3)⟩ (fun hHeld => ?_); refine with_tabW spec_l02Same.tab1 spec_l02Same.bits1 (fun HT_ HW_ => ?_)
      generalize w.drew = w12 at HB HR127_0 HR128_0 HR129_0 HR130_0 HR132_0 HR133_0 HR134_0 HR135_0 HR137_0 HR138_0 HR139_0 HR140_0 HR142_0 HR143_0 HR144_0 HR145_0 hx127_0 hx127_1 hx127_2 hx127_3 hx128_0 hx128_1 hx128_2 hx128_3 hx129_0 hx129_1 hx129_2 hx129_3 hx130_0 hx130_1 hx130_2 hx130_3 hx132_0 hx132_1 hx132_2 hx132_3 hx133_0 hx133_1 hx133_2 hx133_3 hx134_0 hx134_1 hx134_2 hx134_3 hx135_0 hx135_1 hx135_2 hx135_3 hx137_0 hx137_1 hx137_2 hx137_3 hx138_0 hx138_1 hx138_2 hx138_3 hx139_0 hx139_1 hx139_2 hx139_3 hx140_0 hx140_1 hx140_2 hx140_3 hx142_0 hx142_1 hx142_2 hx142_3 hx143_0 hx143_1 hx143_2 hx143_3 hx144_0 hx144_1 hx144_2 hx144_3 hx145_0 hx145_1 hx145_2 hx145_3 hHeld ⊢
      refine pure_ (i := 0) (N := some 5) (v := ?_) (a' := ?_) spec_l02Same.z1 rfl rfl (any_of HT_.out (by kernel_rfl)) (fun _ _ _ h => h) (Or.inl ⟨by rfl, ?_⟩) ?_ ?_
      pv_
      refine pure_ (i := 1) (N := some 6) (v := ?_) (a' := ?_) spec_l02Same.z2 rfl rfl (any_of HT_.out (by kernel_rfl)) (fun _ _ _ h => h) (Or.inl ⟨by rfl, ?_⟩) ?_ ?_
      pv_
      refine pure_ (i := 2) (N := some 7) (v := ?_) (a' := ?_) spec_l02Same.z3 rfl rfl (any_of HT_.out (by kernel_rfl)) (fun _ _ _ h => h) (Or.inl ⟨by rfl, ?_⟩) ?_ ?_
      pv_
      refine pure_ (i := 4) (N := some 9) (v := ?_) (a' := ?_) spec_l02Same.z4 rfl rfl (any_of HT_.out (by kernel_rfl)) (fun _ _ _ h => h) (Or.inl ⟨by rfl, ?_⟩) ?_ ?_
      pv_
      refine pure_ (i := 5) (N := some 10) (v := ?_) (a' := ?_) spec_l02Same.z5 rfl rfl (any_of HT_.out (by kernel_rfl)) (fun _ _ _ h => h) (Or.inl ⟨by rfl, ?_⟩) ?_ ?_
      pv_
      refine pure_ (i := 6) (N := some 11) (v := ?_) (a' := ?_) spec_l02Same.z6 rfl rfl (any_of HT_.out (by kernel_rfl)) (fun _ _ _ h => h) (Or.inl ⟨by rfl, ?_⟩) ?_ ?_
      pv_
      refine take_ (i := 3) (N := some 8) (v := ?_) (a' := ?_) spec_l02Same.z7 rfl rfl (take_ofW HT_.out HW_.out (by kernel_rfl)) (fun _ _ _ h => h) (Or.inl ⟨by rfl, ?_⟩) hHeld ?_ ?_
      rotate_left
      ·rintro w' ⟨s0, s1, s2, s3, s4, s5, s6, s7, s8, s9, s10, s11, s12, s13, s14, s15, s16, s17, s18, s19, s20, s21, s22, s23, s24, s25, s26, s27, s28, s29, s30, s31, s32, s33, s34, s35, s36, s37, s38, s39, s40, s41, s42, s43, s44, s45, s46, s47, s48, s49, s50, s51, s52, s53, s54, s55, s56, s57, s58, s59, s60, s61, s62, s63⟩
       go_simp
       with_reducible rfl
      rotate_left
      ·pw_
      refine take_ (i := 7) (N := some 12) (v := ?_) (a' := ?_) spec_l02Same.z8 rfl rfl (take_ofW HT_.out HW_.out (by kernel_rfl)) (fun _ _ _ h => h) (Or.inl ⟨by rfl, ?_⟩) hHeld ?_ ?_
      rotate_left
      ·rintro w' ⟨s0, s1, s2, s3, s4, s5, s6, s7, s8, s9, s10, s11, s12, s13, s14, s15, s16, s17, s18, s19, s20, s21, s22, s23, s24, s25, s26, s27, s28, s29, s30, s31, s32, s33, s34, s35, s36, s37, s38, s39, s40, s41, s42, s43, s44, s45, s46, s47, s48, s49, s50, s51, s52, s53, s54, s55, s56, s57, s58, s59, s60, s61, s62, s63⟩
       go_simp
       with_reducible rfl
      rotate_left
      ·pw_
      refine one_ (i := 8) (N := some 13) spec_l02Same.z9 rfl rfl (one_of HT_.out (by kernel_rfl)) (by decide) (fun K hK => ?_)
      refine goes_ Try.func176 (by kernel_rfl) rfl #[.slice A127_0 ((rd_T72 l0 0).f0).length c127_0, .slice A129_0 ((rd_T72 l1 0).f0).length c129_0] (by rfl) rfl rfl (by (try simp only [List.map_toArray, List.map_cons, List.map_nil]); first | done | rfl | (simp only [List.length_drop, List.length_take]; rfl)) ?_
      with_reducible refine (spec_l01SameAll.calls k _ _ ((rd_T72 l0 0).f0) _ _ ((rd_T72 l1 0).f0) true _ ?side1 ?side2 ?side3 ?side4 A5.out).mono ?_
      (case side1 => repeat (first | exact (Kd.C_below HR128_0.out HB.out) | (with_reducible refine Kd.C_alloc ?_ _) | (with_reducible refine Kd.C_drewN ?_ _) | (with_reducible refine Kd.C_drew ?_)))
      (case side2 => exact HC128_0.out)
      (case side3 => repeat (first | exact (Kd.C_below HR130_0.out HB.out) | (with_reducible refine Kd.C_alloc ?_ _) | (with_reducible refine Kd.C_drewN ?_ _) | (with_reducible refine Kd.C_drew ?_)))
      (case side4 => exact HC130_0.out)
      rintro e w' ⟨rfl, ⟨nd, rfl⟩⟩
      refine ⟨_, rfl, ?_⟩
      refine hK.out _ _ ⟨(cu_ HB.out hw127_0), (cu_ HB.out hw127_1), (cu_ HB.out hw127_2), (cu_ HB.out hw127_3), (cu_ HB.out hw128_0), (cu_ HB.out hw128_1), (cu_ HB.out hw128_2), (cu_ HB.out hw128_3), (cu_ HB.out hw129_0), (cu_ HB.out hw129_1), (cu_ HB.out hw129_2), (cu_ HB.out hw129_3), (cu_ HB.out hw130_0), (cu_ HB.out hw130_1), (cu_ HB.out hw130_2), (cu_ HB.out hw130_3), (cu_ HB.out hw132_0), (cu_ HB.out hw132_1), (cu_ HB.out hw132_2), (cu_ HB.out hw132_3), (cu_ HB.out hw133_0), (cu_ HB.out hw133_1), (cu_ HB.out hw133_2), (cu_ HB.out hw133_3), (cu_ HB.out hw134_0), (cu_ HB.out hw134_1), (cu_ HB.out hw134_2), (cu_ HB.out hw134_3), (cu_ HB.out hw135_0), (cu_ HB.out hw135_1), (cu_ HB.out hw135_2), (cu_ HB.out hw135_3), (cu_ HB.out hw137_0), (cu_ HB.out hw137_1), (cu_ HB.out hw137_2), (cu_ HB.out hw137_3), (cu_ HB.out hw138_0), (cu_ HB.out hw138_1), (cu_ HB.out hw138_2), (cu_ HB.out hw138_3), (cu_ HB.out hw139_0), (cu_ HB.out hw139_1), (cu_ HB.out hw139_2), (cu_ HB.out hw139_3), (cu_ HB.out hw140_0), (cu_ HB.out hw140_1), (cu_ HB.out hw140_2), (cu_ HB.out hw140_3), (cu_ HB.out hw142_0), (cu_ HB.out hw142_1), (cu_ HB.out hw142_2), (cu_ HB.out hw142_3), (cu_ HB.out hw143_0), (cu_ HB.out hw143_1), (cu_ HB.out hw143_2), (cu_ HB.out hw143_3), (cu_ HB.out hw144_0), (cu_ HB.out hw144_1), (cu_ HB.out hw144_2), (cu_ HB.out hw144_3), (cu_ HB.out hw145_0), (cu_ HB.out hw145_1), (cu_ HB.out hw145_2), (cu_ HB.out hw145_3)⟩ (fun hHeld => ?_)
      clear hK K
      refine norm_ (a' := ?_) ?_ ?_
      rotate_left
      ·show Act.put _ (some 13) _ = _
       pw_
      refine pure_ (i := 9) (N := some 14) (v := ?_) (a' := ?_) spec_l02Same.z10 rfl rfl (any_of HT_.out (by kernel_rfl)) (fun _ _ _ h => h) (Or.inl ⟨by rfl, ?_⟩) ?_ ?_
      pv_
      refine pure_ (i := 10) (N := some 15) (v := ?_) (a' := ?_) spec_l02Same.z11 rfl rfl (any_of HT_.out (by kernel_rfl)) (fun _ _ _ h => h) (Or.inl ⟨by rfl, ?_⟩) ?_ ?_
      pv_
      refine pure_ (i := 11) (N := some 16) (v := ?_) (a' := ?_) spec_l02Same.z12 rfl rfl (any_of HT_.out (by kernel_rfl)) (fun _ _ _ h => h) (Or.inl ⟨by rfl, ?_⟩) ?_ ?_
      pv_
      refine pure_ (i := 12) (N := some 17) (v := ?_) (a' := ?_) spec_l02Same.z13 rfl rfl (any_of HT_.out (by kernel_rfl)) (fun _ _ _ h => h) (Or.inl ⟨by rfl, ?_⟩) ?_ ?_
      pv_
      refine pure_ (i := 14) (N := some 19) (v := ?_) (a' := ?_) spec_l02Same.z14 rfl rfl (any_of HT_.out (by kernel_rfl)) (fun _ _ _ h => h) (Or.inl ⟨by rfl, ?_⟩) ?_ ?_
      pv_
      refine pure_ (i := 15) (N := some 20) (v := ?_) (a' := ?_) spec_l02Same.z15 rfl rfl (any_of HT_.out (by kernel_rfl)) (fun _ _ _ h => h) (Or.inl ⟨by rfl, ?_⟩) ?_ ?_
      pv_
      refine pure_ (i := 16) (N := some 21) (v := ?_) (a' := ?_) spec_l02Same.z16 rfl rfl (any_of HT_.out (by kernel_rfl)) (fun _ _ _ h => h) (Or.inl ⟨by rfl, ?_⟩) ?_ ?_
      pv_
      refine take_ (i := 13) (N := some 18) (v := ?_) (a' := ?_) spec_l02Same.z17 rfl rfl (take_ofW HT_.out HW_.out (by kernel_rfl)) (fun _ _ _ h => h) (Or.inl ⟨by rfl, ?_⟩) hHeld ?_ ?_
      rotate_left
      ·rintro w' ⟨s0, s1, s2, s3, s4, s5, s6, s7, s8, s9, s10, s11, s12, s13, s14, s15, s16, s17, s18, s19, s20, s21, s22, s23, s24, s25, s26, s27, s28, s29, s30, s31, s32, s33, s34, s35, s36, s37, s38, s39, s40, s41, s42, s43, s44, s45, s46, s47, s48, s49, s50, s51, s52, s53, s54, s55, s56, s57, s58, s59, s60, s61, s62, s63⟩
       go_simp
       with_reducible rfl
      rotate_left
      ·pw_
      refine take_ (i := 17) (N := some 22) (v := ?_) (a' := ?_) spec_l02Same.z18 rfl rfl (take_ofW HT_.out HW_.out (by kernel_rfl)) (fun _ _ _ h => h) (Or.inl ⟨by rfl, ?_⟩) hHeld ?_ ?_
      rotate_left
      ·rintro w' ⟨s0, s1, s2, s3, s4, s5, s6, s7, s8, s9, s10, s11, s12, s13, s14, s15, s16, s17, s18, s19, s20, s21, s22, s23, s24, s25, s26, s27, s28, s29, s30, s31, s32, s33, s34, s35, s36, s37, s38, s39, s40, s41, s42, s43, s44, s45, s46, s47, s48, s49, s50, s51, s52, s53, s54, s55, s56, s57, s58, s59, s60, s61, s62, s63⟩
       go_simp
       with_reducible rfl
      rotate_left
      ·pw_
      refine one_ (i := 18) (N := some 23) spec_l02Same.z19 rfl rfl (one_of HT_.out (by kernel_rfl)) (by decide) (fun K hK => ?_)
      refine goes_ Try.func163 (by kernel_rfl) rfl #[.float .f32 ((rd_T72 l0 0).f1), .float .f32 ((rd_T72 l1 0).f1)] (by rfl) rfl rfl (by (try simp only [List.map_toArray, List.map_cons, List.map_nil]); first | done | rfl | (simp only [List.length_drop, List.length_take]; rfl)) ?_
      with_reducible refine (spec_l01Same.calls ((rd_T72 l0 0).f1) ((rd_T72 l1 0).f1) true _ A7.out).mono ?_
      rintro e w' ⟨rfl, ⟨nd, rfl⟩⟩
      refine ⟨_, rfl, ?_⟩
      refine hK.out _ _ ⟨(cu_ HB.out hw127_0), (cu_ HB.out hw127_1), (cu_ HB.out hw127_2), (cu_ HB.out hw127_3), (cu_ HB.out hw128_0), (cu_ HB.out hw128_1), (cu_ HB.out hw128_2), (cu_ HB.out hw128_3), (cu_ HB.out hw129_0), (cu_ HB.out hw129_1), (cu_ HB.out hw129_2), (cu_ HB.out hw129_3), (cu_ HB.out hw130_0), (cu_ HB.out hw130_1), (cu_ HB.out hw130_2), (cu_ HB.out hw130_3), (cu_ HB.out hw132_0), (cu_ HB.out hw132_1), (cu_ HB.out hw132_2), (cu_ HB.out hw132_3), (cu_ HB.out hw133_0), (cu_ HB.out hw133_1), (cu_ HB.out hw133_2), (cu_ HB.out hw133_3), (cu_ HB.out hw134_0), (cu_ HB.out hw134_1), (cu_ HB.out hw134_2), (cu_ HB.out hw134_3), (cu_ HB.out hw135_0), (cu_ HB.out hw135_1), (cu_ HB.out hw135_2), (cu_ HB.out hw135_3), (cu_ HB.out hw137_0), (cu_ HB.out hw137_1), (cu_ HB.out hw137_2), (cu_ HB.out hw137_3), (cu_ HB.out hw138_0), (cu_ HB.out hw138_1), (cu_ HB.out hw138_2), (cu_ HB.out hw138_3), (cu_ HB.out hw139_0), (cu_ HB.out hw139_1), (cu_ HB.out hw139_2), (cu_ HB.out hw139_3), (cu_ HB.out hw140_0), (cu_ HB.out hw140_1), (cu_ HB.out hw140_2), (cu_ HB.out hw140_3), (cu_ HB.out hw142_0), (cu_ HB.out hw142_1), (cu_ HB.out hw142_2), (cu_ HB.out hw142_3), (cu_ HB.out hw143_0), (cu_ HB.out hw143_1), (cu_ HB.out hw143_2), (cu_ HB.out hw143_3), (cu_ HB.out hw144_0), (cu_ HB.out hw144_1), (cu_ HB.out hw144_2), (cu_ HB.out hw144_3), (cu_ HB.out hw145_0), (cu_ HB.out hw145_1), (cu_ HB.out hw145_2), (cu_ HB.out hw145_3)⟩ (fun hHeld => ?_)
      clear hK K
      refine norm_ (a' := ?_) ?_ ?_
      rotate_left
      ·show Act.put _ (some 23) _ = _
       pw_
      refine pure_ (i := 19) (N := some 24) (v := ?_) (a' := ?_) spec_l02Same.z20 rfl rfl (any_of HT_.out (by kernel_rfl)) (fun _ _ _ h => h) (Or.inl ⟨by rfl, ?_⟩) ?_ ?_
      pv_
      refine pure_ (i := 20) (N := some 25) (v := ?_) (a' := ?_) spec_l02Same.z21 rfl rfl (any_of HT_.out (by kernel_rfl)) (fun _ _ _ h => h) (Or.inl ⟨by rfl, ?_⟩) ?_ ?_
      pv_
      refine pure_ (i := 21) (N := some 26) (v := ?_) (a' := ?_) spec_l02Same.z22 rfl rfl (any_of HT_.out (by kernel_rfl)) (fun _ _ _ h => h) (Or.inl ⟨by rfl, ?_⟩) ?_ ?_
      pv_
      refine pure_ (i := 22) (N := some 27) (v := ?_) (a' := ?_) spec_l02Same.z23 rfl rfl (any_of HT_.out (by kernel_rfl)) (fun _ _ _ h => h) (Or.inl ⟨by rfl, ?_⟩) ?_ ?_
      pv_
      refine pure_ (i := 23) (N := some 28) (v := ?_) (a' := ?_) spec_l02Same.z24 rfl rfl (any_of HT_.out (by kernel_rfl)) (fun _ _ _ h => h) (Or.inl ⟨by rfl, ?_⟩) ?_ ?_
      pv_
      refine pure_ (i := 25) (N := some 30) (v := ?_) (a' := ?_) spec_l02Same.z25 rfl rfl (any_of HT_.out (by kernel_rfl)) (fun _ _ _ h => h) (Or.inl ⟨by rfl, ?_⟩) ?_ ?_
      pv_
      refine pure_ (i := 26) (N := some 31) (v := ?_) (a' := ?_) spec_l02Same.z26 rfl rfl (any_of HT_.out (by kernel_rfl)) (fun _ _ _ h => h) (Or.inl ⟨by rfl, ?_⟩) ?_ ?_
      pv_
      refine pure_ (i := 27) (N := some 32) (v := ?_) (a' := ?_) spec_l02Same.z27 rfl rfl (any_of HT_.out (by kernel_rfl)) (fun _ _ _ h => h) (Or.inl ⟨by rfl, ?_⟩) ?_ ?_
      pv_
      refine take_ (i := 24) (N := some 29) (v := ?_) (a' := ?_) spec_l02Same.z28 rfl rfl (take_ofW HT_.out HW_.out (by kernel_rfl)) (fun _ _ _ h => h) (Or.inl ⟨by rfl, ?_⟩) hHeld ?_ ?_
      rotate_left
      ·rintro w' ⟨s0, s1, s2, s3, s4, s5, s6, s7, s8, s9, s10, s11, s12, s13, s14, s15, s16, s17, s18, s19, s20, s21, s22, s23, s24, s25, s26, s27, s28, s29, s30, s31, s32, s33, s34, s35, s36, s37, s38, s39, s40, s41, s42, s43, s44, s45, s46, s47, s48, s49, s50, s51, s52, s53, s54, s55, s56, s57, s58, s59, s60, s61, s62, s63⟩
       go_simp
       with_reducible rfl
      rotate_left
      ·pw_
      refine take_ (i := 28) (N := some 33) (v := ?_) (a' := ?_) spec_l02Same.z29 rfl rfl (take_ofW HT_.out HW_.out (by kernel_rfl)) (fun _ _ _ h => h) (Or.inl ⟨by rfl, ?_⟩) hHeld ?_ ?_
      rotate_left
      ·rintro w' ⟨s0, s1, s2, s3, s4, s5, s6, s7, s8, s9, s10, s11, s12, s13, s14, s15, s16, s17, s18, s19, s20, s21, s22, s23, s24, s25, s26, s27, s28, s29, s30, s31, s32, s33, s34, s35, s36, s37, s38, s39, s40, s41, s42, s43, s44, s45, s46, s47, s48, s49, s50, s51, s52, s53, s54, s55, s56, s57, s58, s59, s60, s61, s62, s63⟩
       go_simp
       with_reducible rfl
      rotate_left
      ·pw_
      refine one_ (i := 29) (N := some 34) spec_l02Same.z30 rfl rfl (one_of HT_.out (by kernel_rfl)) (by decide) (fun K hK => ?_)
      refine goes_ Try.func163 (by kernel_rfl) rfl #[.float .f32 ((rd_T72 l0 0).f2), .float .f32 ((rd_T72 l1 0).f2)] (by rfl) rfl rfl (by (try simp only [List.map_toArray, List.map_cons, List.map_nil]); first | done | rfl | (simp only [List.length_drop, List.length_take]; rfl)) ?_
      with_reducible refine (spec_l01Same.calls ((rd_T72 l0 0).f2) ((rd_T72 l1 0).f2) true _ A9.out).mono ?_
      rintro e w' ⟨rfl, ⟨nd, rfl⟩⟩
      refine ⟨_, rfl, ?_⟩
      refine hK.out _ _ ⟨(cu_ HB.out hw127_0), (cu_ HB.out hw127_1), (cu_ HB.out hw127_2), (cu_ HB.out hw127_3), (cu_ HB.out hw128_0), (cu_ HB.out hw128_1), (cu_ HB.out hw128_2), (cu_ HB.out hw128_3), (cu_ HB.out hw129_0), (cu_ HB.out hw129_1), (cu_ HB.out hw129_2), (cu_ HB.out hw129_3), (cu_ HB.out hw130_0), (cu_ HB.out hw130_1), (cu_ HB.out hw130_2), (cu_ HB.out hw130_3), (cu_ HB.out hw132_0), (cu_ HB.out hw132_1), (cu_ HB.out hw132_2), (cu_ HB.out hw132_3), (cu_ HB.out hw133_0), (cu_ HB.out hw133_1), (cu_ HB.out hw133_2), (cu_ HB.out hw133_3), (cu_ HB.out hw134_0), (cu_ HB.out hw134_1), (cu_ HB.out hw134_2), (cu_ HB.out hw134_3), (cu_ HB.out hw135_0), (cu_ HB.out hw135_1), (cu_ HB.out hw135_2), (cu_ HB.out hw135_3), (cu_ HB.out hw137_0), (cu_ HB.out hw137_1), (cu_ HB.out hw137_2), (cu_ HB.out hw137_3), (cu_ HB.out hw138_0), (cu_ HB.out hw138_1), (cu_ HB.out hw138_2), (cu_ HB.out hw138_3), (cu_ HB.out hw139_0), (cu_ HB.out hw139_1), (cu_ HB.out hw139_2), (cu_ HB.out hw139_3), (cu_ HB.out hw140_0), (cu_ HB.out hw140_1), (cu_ HB.out hw140_2), (cu_ HB.out hw140_3), (cu_ HB.out hw142_0), (cu_ HB.out hw142_1), (cu_ HB.out hw142_2), (cu_ HB.out hw142_3), (cu_ HB.out hw143_0), (cu_ HB.out hw143_1), (cu_ HB.out hw143_2), (cu_ HB.out hw143_3), (cu_ HB.out hw144_0), (cu_ HB.out hw144_1), (cu_ HB.out hw144_2), (cu_ HB.out hw144_3), (cu_ HB.out hw145_0), (cu_ HB.out hw145_1), (cu_ HB.out hw145_2), (cu_ HB.out hw145_3)⟩ (fun hHeld => ?_)
      clear hK K
      refine norm_ (a' := ?_) ?_ ?_
      rotate_left
      ·show Act.put _ (some 34) _ = _
       pw_
      refine pure_ (i := 30) (N := some 35) (v := ?_) (a' := ?_) spec_l02Same.z31 rfl rfl (any_of HT_.out (by kernel_rfl)) (fun _ _ _ h => h) (Or.inl ⟨by rfl, ?_⟩) ?_ ?_
      pv_
      refine pure_ (i := 31) (N := some 36) (v := ?_) (a' := ?_) spec_l02Same.z32 rfl rfl (any_of HT_.out (by kernel_rfl)) (fun _ _ _ h => h) (Or.inl ⟨by rfl, ?_⟩) ?_ ?_
      pv_
      refine pure_ (i := 32) (N := some 37) (v := ?_) (a' := ?_) spec_l02Same.z33 rfl rfl (any_of HT_.out (by kernel_rfl)) (fun _ _ _ h => h) (Or.inl ⟨by rfl, ?_⟩) ?_ ?_
      pv_
      refine pure_ (i := 33) (N := some 38) (v := ?_) (a' := ?_) spec_l02Same.z34 rfl rfl (any_of HT_.out (by kernel_rfl)) (fun _ _ _ h => h) (Or.inl ⟨by rfl, ?_⟩) ?_ ?_
      pv_
      refine pure_ (i := 34) (N := some 39) (v := ?_) (a' := ?_) spec_l02Same.z35 rfl rfl (any_of HT_.out (by kernel_rfl)) (fun _ _ _ h => h) (Or.inl ⟨by rfl, ?_⟩) ?_ ?_
      pv_
      refine pure_ (i := 36) (N := some 41) (v := ?_) (a' := ?_) spec_l02Same.z36 rfl rfl (any_of HT_.out (by kernel_rfl)) (fun _ _ _ h => h) (Or.inl ⟨by rfl, ?_⟩) ?_ ?_
      pv_
      refine pure_ (i := 37) (N := some 42) (v := ?_) (a' := ?_) spec_l02Same.z37 rfl rfl (any_of HT_.out (by kernel_rfl)) (fun _ _ _ h => h) (Or.inl ⟨by rfl, ?_⟩) ?_ ?_
      pv_
      refine pure_ (i := 38) (N := some 43) (v := ?_) (a' := ?_) spec_l02Same.z38 rfl rfl (any_of HT_.out (by kernel_rfl)) (fun _ _ _ h => h) (Or.inl ⟨by rfl, ?_⟩) ?_ ?_
      pv_
      refine take_ (i := 35) (N := some 40) (v := ?_) (a' := ?_) spec_l02Same.z39 rfl rfl (take_ofW HT_.out HW_.out (by kernel_rfl)) (fun _ _ _ h => h) (Or.inl ⟨by rfl, ?_⟩) hHeld ?_ ?_
      rotate_left
      ·rintro w' ⟨s0, s1, s2, s3, s4, s5, s6, s7, s8, s9, s10, s11, s12, s13, s14, s15, s16, s17, s18, s19, s20, s21, s22, s23, s24, s25, s26, s27, s28, s29, s30, s31, s32, s33, s34, s35, s36, s37, s38, s39, s40, s41, s42, s43, s44, s45, s46, s47, s48, s49, s50, s51, s52, s53, s54, s55, s56, s57, s58, s59, s60, s61, s62, s63⟩
       go_simp
       with_reducible rfl
      rotate_left
      ·pw_
      refine take_ (i := 39) (N := some 44) (v := ?_) (a' := ?_) spec_l02Same.z40 rfl rfl (take_ofW HT_.out HW_.out (by kernel_rfl)) (fun _ _ _ h => h) (Or.inl ⟨by rfl, ?_⟩) hHeld ?_ ?_
      rotate_left
      ·rintro w' ⟨s0, s1, s2, s3, s4, s5, s6, s7, s8, s9, s10, s11, s12, s13, s14, s15, s16, s17, s18, s19, s20, s21, s22, s23, s24, s25, s26, s27, s28, s29, s30, s31, s32, s33, s34, s35, s36, s37, s38, s39, s40, s41, s42, s43, s44, s45, s46, s47, s48, s49, s50, s51, s52, s53, s54, s55, s56, s57, s58, s59, s60, s61, s62, s63⟩
       go_simp
       with_reducible rfl
      rotate_left
      ·pw_
      refine one_ (i := 40) (N := some 45) spec_l02Same.z41 rfl rfl (one_of HT_.out (by kernel_rfl)) (by decide) (fun K hK => ?_)
      refine goes_ Try.func163 (by kernel_rfl) rfl #[.float .f32 ((rd_T72 l0 0).f3), .float .f32 ((rd_T72 l1 0).f3)] (by rfl) rfl rfl (by (try simp only [List.map_toArray, List.map_cons, List.map_nil]); first | done | rfl | (simp only [List.length_drop, List.length_take]; rfl)) ?_
      with_reducible refine (spec_l01Same.calls ((rd_T72 l0 0).f3) ((rd_T72 l1 0).f3) t146 _ A11.out).mono ?_
      rintro e w' ⟨rfl, ⟨nd, rfl⟩⟩
      refine ⟨_, rfl, ?_⟩
      refine hK.out _ _ ⟨(cu_ HB.out hw127_0), (cu_ HB.out hw127_1), (cu_ HB.out hw127_2), (cu_ HB.out hw127_3), (cu_ HB.out hw128_0), (cu_ HB.out hw128_1), (cu_ HB.out hw128_2), (cu_ HB.out hw128_3), (cu_ HB.out hw129_0), (cu_ HB.out hw129_1), (cu_ HB.out hw129_2), (cu_ HB.out hw129_3), (cu_ HB.out hw130_0), (cu_ HB.out hw130_1), (cu_ HB.out hw130_2), (cu_ HB.out hw130_3), (cu_ HB.out hw132_0), (cu_ HB.out hw132_1), (cu_ HB.out hw132_2), (cu_ HB.out hw132_3), (cu_ HB.out hw133_0), (cu_ HB.out hw133_1), (cu_ HB.out hw133_2), (cu_ HB.out hw133_3), (cu_ HB.out hw134_0), (cu_ HB.out hw134_1), (cu_ HB.out hw134_2), (cu_ HB.out hw134_3), (cu_ HB.out hw135_0), (cu_ HB.out hw135_1), (cu_ HB.out hw135_2), (cu_ HB.out hw135_3), (cu_ HB.out hw137_0), (cu_ HB.out hw137_1), (cu_ HB.out hw137_2), (cu_ HB.out hw137_3), (cu_ HB.out hw138_0), (cu_ HB.out hw138_1), (cu_ HB.out hw138_2), (cu_ HB.out hw138_3), (cu_ HB.out hw139_0), (cu_ HB.out hw139_1), (cu_ HB.out hw139_2), (cu_ HB.out hw139_3), (cu_ HB.out hw140_0), (cu_ HB.out hw140_1), (cu_ HB.out hw140_2), (cu_ HB.out hw140_3), (cu_ HB.out hw142_0), (cu_ HB.out hw142_1), (cu_ HB.out hw142_2), (cu_ HB.out hw142_3), (cu_ HB.out hw143_0), (cu_ HB.out hw143_1), (cu_ HB.out hw143_2), (cu_ HB.out hw143_3), (cu_ HB.out hw144_0), (cu_ HB.out hw144_1), (cu_ HB.out hw144_2), (cu_ HB.out hw144_3), (cu_ HB.out hw145_0), (cu_ HB.out hw145_1), (cu_ HB.out hw145_2), (cu_ HB.out hw145_3)⟩ (fun hHeld => ?_)
      clear hK K
      refine norm_ (a' := ?_) ?_ ?_
      rotate_left
      ·show Act.put _ (some 45) _ = _
       pw_
      refine pure_ (i := 41) (N := some 46) (v := ?_) (a' := ?_) spec_l02Same.z42 rfl rfl (any_of HT_.out (by kernel_rfl)) (fun _ _ _ h => h) (Or.inl ⟨by rfl, ?_⟩) ?_ ?_
      pv_
      refine pure_ (i := 42) (N := some 4) (v := ?_) (a' := ?_) spec_l02Same.z43 rfl rfl (any_of HT_.out (by kernel_rfl)) (fun _ _ _ h => h) (Or.inl ⟨by rfl, ?_⟩) ?_ ?_
      pv_
      refine done_ (done_of HT_.out (by kernel_rfl)) ?_
      try go_wp2
      go_ret
      exact ⟨by first | rfl | (simp [errW_none, errW_some] <;> rfl) | (simp [*, errW_none, errW_some] <;> rfl), by repeat (first | (with_reducible first | exact HB.out | apply below_alloc | apply pw_below_drewN | apply below_drew1) | exact HB.out)⟩
     ·replace c10 := Bool.eq_false_iff.mpr c10
      subst c10
      have H1 : (some false) = some r := by rw [if_neg (show ¬ (false = true) by decide)] at H; exact H
      clear H
      have H := H1
      clear H1
      obtain rfl := Option.some.inj H
      go_enter Try.func121, Try.ntmps121
      try go_wp2
      have n0_ := Aside0.mk (below_drew1 HB.out)
      clear HB
      have HB := n0_
      clear n0_
      have p127 : 0 ≤ (0 : Int) := (by omega)
      have q127 : 0 < (l0.length : Int) := of_decide_eq_true (by first | (with_reducible assumption) | assumption)
      obtain ⟨ad127, A127_0, c127_0, e127, hx127_0, hx127_1, hx127_2, hx127_3, hl127_0, hi127_0⟩ := at_T72 HR0.out 0 p127 q127
      have hw127_3 := hx127_3
      (try rw [show ((0 : Int)).toNat = 0 from rfl] at hw127_3)
      (try rw [show 0 * 4 = 0 from rfl] at hw127_3)
      (try rw [Addr.add_zero'] at hw127_3)
      have hw127_2 := hx127_2
      (try rw [show ((0 : Int)).toNat = 0 from rfl] at hw127_2)
      (try rw [show 0 * 4 = 0 from rfl] at hw127_2)
      (try rw [Addr.add_zero'] at hw127_2)
      have hw127_1 := hx127_1
      (try rw [show ((0 : Int)).toNat = 0 from rfl] at hw127_1)
      (try rw [show 0 * 4 = 0 from rfl] at hw127_1)
      (try rw [Addr.add_zero'] at hw127_1)
      have hw127_0 := hx127_0
      (try rw [show ((0 : Int)).toNat = 0 from rfl] at hw127_0)
      (try rw [show 0 * 4 = 0 from rfl] at hw127_0)
      (try rw [Addr.add_zero'] at hw127_0)
      cases e127
      have qi127 : (0 < l0.length) = True := eq_true (by omega)
      (try rw [show ((0 : Int)).toNat = 0 from rfl] at hx127_0)
      (try rw [show 0 * 4 = 0 from rfl] at hx127_0)
      (try rw [Addr.add_zero'] at hx127_0)
      (try rw [show ((0 : Int)).toNat = 0 from rfl] at hx127_1)
      (try rw [show 0 * 4 = 0 from rfl] at hx127_1)
      (try rw [Addr.add_zero'] at hx127_1)
      (try rw [show ((0 : Int)).toNat = 0 from rfl] at hx127_2)
      (try rw [show 0 * 4 = 0 from rfl] at hx127_2)
      (try rw [Addr.add_zero'] at hx127_2)
      (try rw [show ((0 : Int)).toNat = 0 from rfl] at hx127_3)
      (try rw [show 0 * 4 = 0 from rfl] at hx127_3)
      (try rw [Addr.add_zero'] at hx127_3)
      replace hx127_0 := (HB.out.cell (World.block_lt_of_cell? w _ hx127_0)).trans hx127_0
      replace hx127_1 := (HB.out.cell (World.block_lt_of_cell? w _ hx127_1)).trans hx127_1
      replace hx127_2 := (HB.out.cell (World.block_lt_of_cell? w _ hx127_2)).trans hx127_2
      replace hx127_3 := (HB.out.cell (World.block_lt_of_cell? w _ hx127_3)).trans hx127_3
      have HR127_0 := Aside0.mk hi127_0
      have HC127_0 := Aside0.mk hl127_0
      clear hi127_0 hl127_0
      replace p127 := eq_true p127
      replace q127 := eq_true q127
      have p128 : 0 ≤ (0 : Int) := (by omega)
      have q128 : 0 < (l0.length : Int) := of_decide_eq_true (by first | (with_reducible assumption) | assumption)
      obtain ⟨ad128, A128_0, c128_0, e128, hx128_0, hx128_1, hx128_2, hx128_3, hl128_0, hi128_0⟩ := at_T72 HR0.out 0 p128 q128
      have hw128_3 := hx128_3
      (try rw [show ((0 : Int)).toNat = 0 from rfl] at hw128_3)
      (try rw [show 0 * 4 = 0 from rfl] at hw128_3)
      (try rw [Addr.add_zero'] at hw128_3)
      have hw128_2 := hx128_2
      (try rw [show ((0 : Int)).toNat = 0 from rfl] at hw128_2)
      (try rw [show 0 * 4 = 0 from rfl] at hw128_2)
      (try rw [Addr.add_zero'] at hw128_2)
      have hw128_1 := hx128_1
      (try rw [show ((0 : Int)).toNat = 0 from rfl] at hw128_1)
      (try rw [show 0 * 4 = 0 from rfl] at hw128_1)
      (try rw [Addr.add_zero'] at hw128_1)
      have hw128_0 := hx128_0
      (try rw [show ((0 : Int)).toNat = 0 from rfl] at hw128_0)
      (try rw [show 0 * 4 = 0 from rfl] at hw128_0)
      (try rw [Addr.add_zero'] at hw128_0)
      obtain rfl : ad127 = ad128 := (by injection e128)
      have qi128 : (0 < l0.length) = True := eq_true (by omega)
      (try rw [show ((0 : Int)).toNat = 0 from rfl] at hx128_0)
      (try rw [show 0 * 4 = 0 from rfl] at hx128_0)
      (try rw [Addr.add_zero'] at hx128_0)
      (try rw [show ((0 : Int)).toNat = 0 from rfl] at hx128_1)
      (try rw [show 0 * 4 = 0 from rfl] at hx128_1)
      (try rw [Addr.add_zero'] at hx128_1)
      (try rw [show ((0 : Int)).toNat = 0 from rfl] at hx128_2)
      (try rw [show 0 * 4 = 0 from rfl] at hx128_2)
      (try rw [Addr.add_zero'] at hx128_2)
      (try rw [show ((0 : Int)).toNat = 0 from rfl] at hx128_3)
      (try rw [show 0 * 4 = 0 from rfl] at hx128_3)
      (try rw [Addr.add_zero'] at hx128_3)
      replace hx128_0 := (HB.out.cell (World.block_lt_of_cell? w _ hx128_0)).trans hx128_0
      replace hx128_1 := (HB.out.cell (World.block_lt_of_cell? w _ hx128_1)).trans hx128_1
      replace hx128_2 := (HB.out.cell (World.block_lt_of_cell? w _ hx128_2)).trans hx128_2
      replace hx128_3 := (HB.out.cell (World.block_lt_of_cell? w _ hx128_3)).trans hx128_3
      have HR128_0 := Aside0.mk hi128_0
      have HC128_0 := Aside0.mk hl128_0
      clear hi128_0 hl128_0
      replace p128 := eq_true p128
      replace q128 := eq_true q128
      have ea_ := Option.some.inj (hx127_0.symm.trans hx128_0)
      injection ea_ with ea_ en_ ec_
      subst ea_
      subst ec_
      clear en_
      have p129 : 0 ≤ (0 : Int) := (by omega)
      have q129 : 0 < (l1.length : Int) := of_decide_eq_true (by first | (with_reducible assumption) | assumption)
      obtain ⟨ad129, A129_0, c129_0, e129, hx129_0, hx129_1, hx129_2, hx129_3, hl129_0, hi129_0⟩ := at_T72 HR1.out 0 p129 q129
      have hw129_3 := hx129_3
      (try rw [show ((0 : Int)).toNat = 0 from rfl] at hw129_3)
      (try rw [show 0 * 4 = 0 from rfl] at hw129_3)
      (try rw [Addr.add_zero'] at hw129_3)
      have hw129_2 := hx129_2
      (try rw [show ((0 : Int)).toNat = 0 from rfl] at hw129_2)
      (try rw [show 0 * 4 = 0 from rfl] at hw129_2)
      (try rw [Addr.add_zero'] at hw129_2)
      have hw129_1 := hx129_1
      (try rw [show ((0 : Int)).toNat = 0 from rfl] at hw129_1)
      (try rw [show 0 * 4 = 0 from rfl] at hw129_1)
      (try rw [Addr.add_zero'] at hw129_1)
      have hw129_0 := hx129_0
      (try rw [show ((0 : Int)).toNat = 0 from rfl] at hw129_0)
      (try rw [show 0 * 4 = 0 from rfl] at hw129_0)
      (try rw [Addr.add_zero'] at hw129_0)
      cases e129
      have qi129 : (0 < l1.length) = True := eq_true (by omega)
      (try rw [show ((0 : Int)).toNat = 0 from rfl] at hx129_0)
      (try rw [show 0 * 4 = 0 from rfl] at hx129_0)
      (try rw [Addr.add_zero'] at hx129_0)
      (try rw [show ((0 : Int)).toNat = 0 from rfl] at hx129_1)
      (try rw [show 0 * 4 = 0 from rfl] at hx129_1)
      (try rw [Addr.add_zero'] at hx129_1)
      (try rw [show ((0 : Int)).toNat = 0 from rfl] at hx129_2)
      (try rw [show 0 * 4 = 0 from rfl] at hx129_2)
      (try rw [Addr.add_zero'] at hx129_2)
      (try rw [show ((0 : Int)).toNat = 0 from rfl] at hx129_3)
      (try rw [show 0 * 4 = 0 from rfl] at hx129_3)
      (try rw [Addr.add_zero'] at hx129_3)
      replace hx129_0 := (HB.out.cell (World.block_lt_of_cell? w _ hx129_0)).trans hx129_0
      replace hx129_1 := (HB.out.cell (World.block_lt_of_cell? w _ hx129_1)).trans hx129_1
      replace hx129_2 := (HB.out.cell (World.block_lt_of_cell? w _ hx129_2)).trans hx129_2
      replace hx129_3 := (HB.out.cell (World.block_lt_of_cell? w _ hx129_3)).trans hx129_3
      have HR129_0 := Aside0.mk hi129_0
      have HC129_0 := Aside0.mk hl129_0
      clear hi129_0 hl129_0
      replace p129 := eq_true p129
      replace q129 := eq_true q129
      have p130 : 0 ≤ (0 : Int) := (by omega)
      have q130 : 0 < (l1.length : Int) := of_decide_eq_true (by first | (with_reducible assumption) | assumption)
      obtain ⟨ad130, A130_0, c130_0, e130, hx130_0, hx130_1, hx130_2, hx130_3, hl130_0, hi130_0⟩ := at_T72 HR1.out 0 p130 q130
      have hw130_3 := hx130_3
      (try rw [show ((0 : Int)).toNat = 0 from rfl] at hw130_3)
      (try rw [show 0 * 4 = 0 from rfl] at hw130_3)
      (try rw [Addr.add_zero'] at hw130_3)
      have hw130_2 := hx130_2
      (try rw [show ((0 : Int)).toNat = 0 from rfl] at hw130_2)
      (try rw [show 0 * 4 = 0 from rfl] at hw130_2)
      (try rw [Addr.add_zero'] at hw130_2)
      have hw130_1 := hx130_1
      (try rw [show ((0 : Int)).toNat = 0 from rfl] at hw130_1)
      (try rw [show 0 * 4 = 0 from rfl] at hw130_1)
      (try rw [Addr.add_zero'] at hw130_1)
      have hw130_0 := hx130_0
      (try rw [show ((0 : Int)).toNat = 0 from rfl] at hw130_0)
      (try rw [show 0 * 4 = 0 from rfl] at hw130_0)
      (try rw [Addr.add_zero'] at hw130_0)
      obtain rfl : ad129 = ad130 := (by injection e130)
      have qi130 : (0 < l1.length) = True := eq_true (by omega)
      (try rw [show ((0 : Int)).toNat = 0 from rfl] at hx130_0)
      (try rw [show 0 * 4 = 0 from rfl] at hx130_0)
      (try rw [Addr.add_zero'] at hx130_0)
      (try rw [show ((0 : Int)).toNat = 0 from rfl] at hx130_1)
      (try rw [show 0 * 4 = 0 from rfl] at hx130_1)
      (try rw [Addr.add_zero'] at hx130_1)
      (try rw [show ((0 : Int)).toNat = 0 from rfl] at hx130_2)
      (try rw [show 0 * 4 = 0 from rfl] at hx130_2)
      (try rw [Addr.add_zero'] at hx130_2)
      (try rw [show ((0 : Int)).toNat = 0 from rfl] at hx130_3)
      (try rw [show 0 * 4 = 0 from rfl] at hx130_3)
      (try rw [Addr.add_zero'] at hx130_3)
      replace hx130_0 := (HB.out.cell (World.block_lt_of_cell? w _ hx130_0)).trans hx130_0
      replace hx130_1 := (HB.out.cell (World.block_lt_of_cell? w _ hx130_1)).trans hx130_1
      replace hx130_2 := (HB.out.cell (World.block_lt_of_cell? w _ hx130_2)).trans hx130_2
      replace hx130_3 := (HB.out.cell (World.block_lt_of_cell? w _ hx130_3)).trans hx130_3
      have HR130_0 := Aside0.mk hi130_0
      have HC130_0 := Aside0.mk hl130_0
      clear hi130_0 hl130_0
      replace p130 := eq_true p130
      replace q130 := eq_true q130
      have ea_ := Option.some.inj (hx129_0.symm.trans hx130_0)
      injection ea_ with ea_ en_ ec_
      subst ea_
      subst ec_
      clear en_
      have p132 : 0 ≤ (0 : Int) := (by omega)
      have q132 : 0 < (l0.length : Int) := of_decide_eq_true (by first | (with_reducible assumption) | assumption)
      obtain ⟨ad132, A132_0, c132_0, e132, hx132_0, hx132_1, hx132_2, hx132_3, hl132_0, hi132_0⟩ := at_T72 HR0.out 0 p132 q132
      have hw132_3 := hx132_3
      (try rw [show ((0 : Int)).toNat = 0 from rfl] at hw132_3)
      (try rw [show 0 * 4 = 0 from rfl] at hw132_3)
      (try rw [Addr.add_zero'] at hw132_3)
      have hw132_2 := hx132_2
      (try rw [show ((0 : Int)).toNat = 0 from rfl] at hw132_2)
      (try rw [show 0 * 4 = 0 from rfl] at hw132_2)
      (try rw [Addr.add_zero'] at hw132_2)
      have hw132_1 := hx132_1
      (try rw [show ((0 : Int)).toNat = 0 from rfl] at hw132_1)
      (try rw [show 0 * 4 = 0 from rfl] at hw132_1)
      (try rw [Addr.add_zero'] at hw132_1)
      have hw132_0 := hx132_0
      (try rw [show ((0 : Int)).toNat = 0 from rfl] at hw132_0)
      (try rw [show 0 * 4 = 0 from rfl] at hw132_0)
      (try rw [Addr.add_zero'] at hw132_0)
      obtain rfl : ad127 = ad132 := (by injection e132)
      have qi132 : (0 < l0.length) = True := eq_true (by omega)
      (try rw [show ((0 : Int)).toNat = 0 from rfl] at hx132_0)
      (try rw [show 0 * 4 = 0 from rfl] at hx132_0)
      (try rw [Addr.add_zero'] at hx132_0)
      (try rw [show ((0 : Int)).toNat = 0 from rfl] at hx132_1)
      (try rw [show 0 * 4 = 0 from rfl] at hx132_1)
      (try rw [Addr.add_zero'] at hx132_1)
      (try rw [show ((0 : Int)).toNat = 0 from rfl] at hx132_2)
      (try rw [show 0 * 4 = 0 from rfl] at hx132_2)
      (try rw [Addr.add_zero'] at hx132_2)
      (try rw [show ((0 : Int)).toNat = 0 from rfl] at hx132_3)
      (try rw [show 0 * 4 = 0 from rfl] at hx132_3)
      (try rw [Addr.add_zero'] at hx132_3)
      replace hx132_0 := (HB.out.cell (World.block_lt_of_cell? w _ hx132_0)).trans hx132_0
      replace hx132_1 := (HB.out.cell (World.block_lt_of_cell? w _ hx132_1)).trans hx132_1
      replace hx132_2 := (HB.out.cell (World.block_lt_of_cell? w _ hx132_2)).trans hx132_2
      replace hx132_3 := (HB.out.cell (World.block_lt_of_cell? w _ hx132_3)).trans hx132_3
      have HR132_0 := Aside0.mk hi132_0
      have HC132_0 := Aside0.mk hl132_0
      clear hi132_0 hl132_0
      replace p132 := eq_true p132
      replace q132 := eq_true q132
      have ea_ := Option.some.inj (hx127_0.symm.trans hx132_0)
      injection ea_ with ea_ en_ ec_
      subst ea_
      subst ec_
      clear en_
      have p133 : 0 ≤ (0 : Int) := (by omega)
      have q133 : 0 < (l0.length : Int) := of_decide_eq_true (by first | (with_reducible assumption) | assumption)
      obtain ⟨ad133, A133_0, c133_0, e133, hx133_0, hx133_1, hx133_2, hx133_3, hl133_0, hi133_0⟩ := at_T72 HR0.out 0 p133 q133
      have hw133_3 := hx133_3
      (try rw [show ((0 : Int)).toNat = 0 from rfl] at hw133_3)
      (try rw [show 0 * 4 = 0 from rfl] at hw133_3)
      (try rw [Addr.add_zero'] at hw133_3)
      have hw133_2 := hx133_2
      (try rw [show ((0 : Int)).toNat = 0 from rfl] at hw133_2)
      (try rw [show 0 * 4 = 0 from rfl] at hw133_2)
      (try rw [Addr.add_zero'] at hw133_2)
      have hw133_1 := hx133_1
      (try rw [show ((0 : Int)).toNat = 0 from rfl] at hw133_1)
      (try rw [show 0 * 4 = 0 from rfl] at hw133_1)
      (try rw [Addr.add_zero'] at hw133_1)
      have hw133_0 := hx133_0
      (try rw [show ((0 : Int)).toNat = 0 from rfl] at hw133_0)
      (try rw [show 0 * 4 = 0 from rfl] at hw133_0)
      (try rw [Addr.add_zero'] at hw133_0)
      obtain rfl : ad127 = ad133 := (by injection e133)
      have qi133 : (0 < l0.length) = True := eq_true (by omega)
      (try rw [show ((0 : Int)).toNat = 0 from rfl] at hx133_0)
      (try rw [show 0 * 4 = 0 from rfl] at hx133_0)
      (try rw [Addr.add_zero'] at hx133_0)
      (try rw [show ((0 : Int)).toNat = 0 from rfl] at hx133_1)
      (try rw [show 0 * 4 = 0 from rfl] at hx133_1)
      (try rw [Addr.add_zero'] at hx133_1)
      (try rw [show ((0 : Int)).toNat = 0 from rfl] at hx133_2)
      (try rw [show 0 * 4 = 0 from rfl] at hx133_2)
      (try rw [Addr.add_zero'] at hx133_2)
      (try rw [show ((0 : Int)).toNat = 0 from rfl] at hx133_3)
      (try rw [show 0 * 4 = 0 from rfl] at hx133_3)
      (try rw [Addr.add_zero'] at hx133_3)
      replace hx133_0 := (HB.out.cell (World.block_lt_of_cell? w _ hx133_0)).trans hx133_0
      replace hx133_1 := (HB.out.cell (World.block_lt_of_cell? w _ hx133_1)).trans hx133_1
      replace hx133_2 := (HB.out.cell (World.block_lt_of_cell? w _ hx133_2)).trans hx133_2
      replace hx133_3 := (HB.out.cell (World.block_lt_of_cell? w _ hx133_3)).trans hx133_3
      have HR133_0 := Aside0.mk hi133_0
      have HC133_0 := Aside0.mk hl133_0
      clear hi133_0 hl133_0
      replace p133 := eq_true p133
      replace q133 := eq_true q133
      have ea_ := Option.some.inj (hx127_0.symm.trans hx133_0)
      injection ea_ with ea_ en_ ec_
      subst ea_
      subst ec_
      clear en_
      have p134 : 0 ≤ (0 : Int) := (by omega)
      have q134 : 0 < (l1.length : Int) := of_decide_eq_true (by first | (with_reducible assumption) | assumption)
      obtain ⟨ad134, A134_0, c134_0, e134, hx134_0, hx134_1, hx134_2, hx134_3, hl134_0, hi134_0⟩ := at_T72 HR1.out 0 p134 q134
      have hw134_3 := hx134_3
      (try rw [show ((0 : Int)).toNat = 0 from rfl] at hw134_3)
      (try rw [show 0 * 4 = 0 from rfl] at hw134_3)
      (try rw [Addr.add_zero'] at hw134_3)
      have hw134_2 := hx134_2
      (try rw [show ((0 : Int)).toNat = 0 from rfl] at hw134_2)
      (try rw [show 0 * 4 = 0 from rfl] at hw134_2)
      (try rw [Addr.add_zero'] at hw134_2)
      have hw134_1 := hx134_1
      (try rw [show ((0 : Int)).toNat = 0 from rfl] at hw134_1)
      (try rw [show 0 * 4 = 0 from rfl] at hw134_1)
      (try rw [Addr.add_zero'] at hw134_1)
      have hw134_0 := hx134_0
      (try rw [show ((0 : Int)).toNat = 0 from rfl] at hw134_0)
      (try rw [show 0 * 4 = 0 from rfl] at hw134_0)
      (try rw [Addr.add_zero'] at hw134_0)
      obtain rfl : ad129 = ad134 := (by injection e134)
      have qi134 : (0 < l1.length) = True := eq_true (by omega)
      (try rw [show ((0 : Int)).toNat = 0 from rfl] at hx134_0)
      (try rw [show 0 * 4 = 0 from rfl] at hx134_0)
      (try rw [Addr.add_zero'] at hx134_0)
      (try rw [show ((0 : Int)).toNat = 0 from rfl] at hx134_1)
      (try rw [show 0 * 4 = 0 from rfl] at hx134_1)
      (try rw [Addr.add_zero'] at hx134_1)
      (try rw [show ((0 : Int)).toNat = 0 from rfl] at hx134_2)
      (try rw [show 0 * 4 = 0 from rfl] at hx134_2)
      (try rw [Addr.add_zero'] at hx134_2)
      (try rw [show ((0 : Int)).toNat = 0 from rfl] at hx134_3)
      (try rw [show 0 * 4 = 0 from rfl] at hx134_3)
      (try rw [Addr.add_zero'] at hx134_3)
      replace hx134_0 := (HB.out.cell (World.block_lt_of_cell? w _ hx134_0)).trans hx134_0
      replace hx134_1 := (HB.out.cell (World.block_lt_of_cell? w _ hx134_1)).trans hx134_1
      replace hx134_2 := (HB.out.cell (World.block_lt_of_cell? w _ hx134_2)).trans hx134_2
      replace hx134_3 := (HB.out.cell (World.block_lt_of_cell? w _ hx134_3)).trans hx134_3
      have HR134_0 := Aside0.mk hi134_0
      have HC134_0 := Aside0.mk hl134_0
      clear hi134_0 hl134_0
      replace p134 := eq_true p134
      replace q134 := eq_true q134
      have ea_ := Option.some.inj (hx129_0.symm.trans hx134_0)
      injection ea_ with ea_ en_ ec_
      subst ea_
      subst ec_
      clear en_
      have p135 : 0 ≤ (0 : Int) := (by omega)
      have q135 : 0 < (l1.length : Int) := of_decide_eq_true (by first | (with_reducible assumption) | assumption)
      obtain ⟨ad135, A135_0, c135_0, e135, hx135_0, hx135_1, hx135_2, hx135_3, hl135_0, hi135_0⟩ := at_T72 HR1.out 0 p135 q135
      have hw135_3 := hx135_3
      (try rw [show ((0 : Int)).toNat = 0 from rfl] at hw135_3)
      (try rw [show 0 * 4 = 0 from rfl] at hw135_3)
      (try rw [Addr.add_zero'] at hw135_3)
      have hw135_2 := hx135_2
      (try rw [show ((0 : Int)).toNat = 0 from rfl] at hw135_2)
      (try rw [show 0 * 4 = 0 from rfl] at hw135_2)
      (try rw [Addr.add_zero'] at hw135_2)
      have hw135_1 := hx135_1
      (try rw [show ((0 : Int)).toNat = 0 from rfl] at hw135_1)
      (try rw [show 0 * 4 = 0 from rfl] at hw135_1)
      (try rw [Addr.add_zero'] at hw135_1)
      have hw135_0 := hx135_0
      (try rw [show ((0 : Int)).toNat = 0 from rfl] at hw135_0)
      (try rw [show 0 * 4 = 0 from rfl] at hw135_0)
      (try rw [Addr.add_zero'] at hw135_0)
      obtain rfl : ad129 = ad135 := (by injection e135)
      have qi135 : (0 < l1.length) = True := eq_true (by omega)
      (try rw [show ((0 : Int)).toNat = 0 from rfl] at hx135_0)
      (try rw [show 0 * 4 = 0 from rfl] at hx135_0)
      (try rw [Addr.add_zero'] at hx135_0)
      (try rw [show ((0 : Int)).toNat = 0 from rfl] at hx135_1)
      (try rw [show 0 * 4 = 0 from rfl] at hx135_1)
      (try rw [Addr.add_zero'] at hx135_1)
      (try rw [show ((0 : Int)).toNat = 0 from rfl] at hx135_2)
      (try rw [show 0 * 4 = 0 from rfl] at hx135_2)
      (try rw [Addr.add_zero'] at hx135_2)
      (try rw [show ((0 : Int)).toNat = 0 from rfl] at hx135_3)
      (try rw [show 0 * 4 = 0 from rfl] at hx135_3)
      (try rw [Addr.add_zero'] at hx135_3)
      replace hx135_0 := (HB.out.cell (World.block_lt_of_cell? w _ hx135_0)).trans hx135_0
      replace hx135_1 := (HB.out.cell (World.block_lt_of_cell? w _ hx135_1)).trans hx135_1
      replace hx135_2 := (HB.out.cell (World.block_lt_of_cell? w _ hx135_2)).trans hx135_2
      replace hx135_3 := (HB.out.cell (World.block_lt_of_cell? w _ hx135_3)).trans hx135_3
      have HR135_0 := Aside0.mk hi135_0
      have HC135_0 := Aside0.mk hl135_0
      clear hi135_0 hl135_0
      replace p135 := eq_true p135
      replace q135 := eq_true q135
      have ea_ := Option.some.inj (hx129_0.symm.trans hx135_0)
      injection ea_ with ea_ en_ ec_
      subst ea_
      subst ec_
      clear en_
      have p137 : 0 ≤ (0 : Int) := (by omega)
      have q137 : 0 < (l0.length : Int) := of_decide_eq_true (by first | (with_reducible assumption) | assumption)
      obtain ⟨ad137, A137_0, c137_0, e137, hx137_0, hx137_1, hx137_2, hx137_3, hl137_0, hi137_0⟩ := at_T72 HR0.out 0 p137 q137
      have hw137_3 := hx137_3
      (try rw [show ((0 : Int)).toNat = 0 from rfl] at hw137_3)
      (try rw [show 0 * 4 = 0 from rfl] at hw137_3)
      (try rw [Addr.add_zero'] at hw137_3)
      have hw137_2 := hx137_2
      (try rw [show ((0 : Int)).toNat = 0 from rfl] at hw137_2)
      (try rw [show 0 * 4 = 0 from rfl] at hw137_2)
      (try rw [Addr.add_zero'] at hw137_2)
      have hw137_1 := hx137_1
      (try rw [show ((0 : Int)).toNat = 0 from rfl] at hw137_1)
      (try rw [show 0 * 4 = 0 from rfl] at hw137_1)
      (try rw [Addr.add_zero'] at hw137_1)
      have hw137_0 := hx137_0
      (try rw [show ((0 : Int)).toNat = 0 from rfl] at hw137_0)
      (try rw [show 0 * 4 = 0 from rfl] at hw137_0)
      (try rw [Addr.add_zero'] at hw137_0)
      obtain rfl : ad127 = ad137 := (by injection e137)
      have qi137 : (0 < l0.length) = True := eq_true (by omega)
      (try rw [show ((0 : Int)).toNat = 0 from rfl] at hx137_0)
      (try rw [show 0 * 4 = 0 from rfl] at hx137_0)
      (try rw [Addr.add_zero'] at hx137_0)
      (try rw [show ((0 : Int)).toNat = 0 from rfl] at hx137_1)
      (try rw [show 0 * 4 = 0 from rfl] at hx137_1)
      (try rw [Addr.add_zero'] at hx137_1)
      (try rw [show ((0 : Int)).toNat = 0 from rfl] at hx137_2)
      (try rw [show 0 * 4 = 0 from rfl] at hx137_2)
      (try rw [Addr.add_zero'] at hx137_2)
      (try rw [show ((0 : Int)).toNat = 0 from rfl] at hx137_3)
      (try rw [show 0 * 4 = 0 from rfl] at hx137_3)
      (try rw [Addr.add_zero'] at hx137_3)
      replace hx137_0 := (HB.out.cell (World.block_lt_of_cell? w _ hx137_0)).trans hx137_0
      replace hx137_1 := (HB.out.cell (World.block_lt_of_cell? w _ hx137_1)).trans hx137_1
      replace hx137_2 := (HB.out.cell (World.block_lt_of_cell? w _ hx137_2)).trans hx137_2
      replace hx137_3 := (HB.out.cell (World.block_lt_of_cell? w _ hx137_3)).trans hx137_3
      have HR137_0 := Aside0.mk hi137_0
      have HC137_0 := Aside0.mk hl137_0
      clear hi137_0 hl137_0
      replace p137 := eq_true p137
      replace q137 := eq_true q137
      have ea_ := Option.some.inj (hx127_0.symm.trans hx137_0)
      injection ea_ with ea_ en_ ec_
      subst ea_
      subst ec_
      clear en_
      have p138 : 0 ≤ (0 : Int) := (by omega)
      have q138 : 0 < (l0.length : Int) := of_decide_eq_true (by first | (with_reducible assumption) | assumption)
      obtain ⟨ad138, A138_0, c138_0, e138, hx138_0, hx138_1, hx138_2, hx138_3, hl138_0, hi138_0⟩ := at_T72 HR0.out 0 p138 q138
      have hw138_3 := hx138_3
      (try rw [show ((0 : Int)).toNat = 0 from rfl] at hw138_3)
      (try rw [show 0 * 4 = 0 from rfl] at hw138_3)
      (try rw [Addr.add_zero'] at hw138_3)
      have hw138_2 := hx138_2
      (try rw [show ((0 : Int)).toNat = 0 from rfl] at hw138_2)
      (try rw [show 0 * 4 = 0 from rfl] at hw138_2)
      (try rw [Addr.add_zero'] at hw138_2)
      have hw138_1 := hx138_1
      (try rw [show ((0 : Int)).toNat = 0 from rfl] at hw138_1)
      (try rw [show 0 * 4 = 0 from rfl] at hw138_1)
      (try rw [Addr.add_zero'] at hw138_1)
      have hw138_0 := hx138_0
      (try rw [show ((0 : Int)).toNat = 0 from rfl] at hw138_0)
      (try rw [show 0 * 4 = 0 from rfl] at hw138_0)
      (try rw [Addr.add_zero'] at hw138_0)
      obtain rfl : ad127 = ad138 := (by injection e138)
      have qi138 : (0 < l0.length) = True := eq_true (by omega)
      (try rw [show ((0 : Int)).toNat = 0 from rfl] at hx138_0)
      (try rw [show 0 * 4 = 0 from rfl] at hx138_0)
      (try rw [Addr.add_zero'] at hx138_0)
      (try rw [show ((0 : Int)).toNat = 0 from rfl] at hx138_1)
      (try rw [show 0 * 4 = 0 from rfl] at hx138_1)
      (try rw [Addr.add_zero'] at hx138_1)
      (try rw [show ((0 : Int)).toNat = 0 from rfl] at hx138_2)
      (try rw [show 0 * 4 = 0 from rfl] at hx138_2)
      (try rw [Addr.add_zero'] at hx138_2)
      (try rw [show ((0 : Int)).toNat = 0 from rfl] at hx138_3)
      (try rw [show 0 * 4 = 0 from rfl] at hx138_3)
      (try rw [Addr.add_zero'] at hx138_3)
      replace hx138_0 := (HB.out.cell (World.block_lt_of_cell? w _ hx138_0)).trans hx138_0
      replace hx138_1 := (HB.out.cell (World.block_lt_of_cell? w _ hx138_1)).trans hx138_1
      replace hx138_2 := (HB.out.cell (World.block_lt_of_cell? w _ hx138_2)).trans hx138_2
      replace hx138_3 := (HB.out.cell (World.block_lt_of_cell? w _ hx138_3)).trans hx138_3
      have HR138_0 := Aside0.mk hi138_0
      have HC138_0 := Aside0.mk hl138_0
      clear hi138_0 hl138_0
      replace p138 := eq_true p138
      replace q138 := eq_true q138
      have ea_ := Option.some.inj (hx127_0.symm.trans hx138_0)
      injection ea_ with ea_ en_ ec_
      subst ea_
      subst ec_
      clear en_
      have p139 : 0 ≤ (0 : Int) := (by omega)
      have q139 : 0 < (l1.length : Int) := of_decide_eq_true (by first | (with_reducible assumption) | assumption)
      obtain ⟨ad139, A139_0, c139_0, e139, hx139_0, hx139_1, hx139_2, hx139_3, hl139_0, hi139_0⟩ := at_T72 HR1.out 0 p139 q139
      have hw139_3 := hx139_3
      (try rw [show ((0 : Int)).toNat = 0 from rfl] at hw139_3)
      (try rw [show 0 * 4 = 0 from rfl] at hw139_3)
      (try rw [Addr.add_zero'] at hw139_3)
      have hw139_2 := hx139_2
      (try rw [show ((0 : Int)).toNat = 0 from rfl] at hw139_2)
      (try rw [show 0 * 4 = 0 from rfl] at hw139_2)
      (try rw [Addr.add_zero'] at hw139_2)
      have hw139_1 := hx139_1
      (try rw [show ((0 : Int)).toNat = 0 from rfl] at hw139_1)
      (try rw [show 0 * 4 = 0 from rfl] at hw139_1)
      (try rw [Addr.add_zero'] at hw139_1)
      have hw139_0 := hx139_0
      (try rw [show ((0 : Int)).toNat = 0 from rfl] at hw139_0)
      (try rw [show 0 * 4 = 0 from rfl] at hw139_0)
      (try rw [Addr.add_zero'] at hw139_0)
      obtain rfl : ad129 = ad139 := (by injection e139)
      have qi139 : (0 < l1.length) = True := eq_true (by omega)
      (try rw [show ((0 : Int)).toNat = 0 from rfl] at hx139_0)
      (try rw [show 0 * 4 = 0 from rfl] at hx139_0)
      (try rw [Addr.add_zero'] at hx139_0)
      (try rw [show ((0 : Int)).toNat = 0 from rfl] at hx139_1)
      (try rw [show 0 * 4 = 0 from rfl] at hx139_1)
      (try rw [Addr.add_zero'] at hx139_1)
      (try rw [show ((0 : Int)).toNat = 0 from rfl] at hx139_2)
      (try rw [show 0 * 4 = 0 from rfl] at hx139_2)
      (try rw [Addr.add_zero'] at hx139_2)
      (try rw [show ((0 : Int)).toNat = 0 from rfl] at hx139_3)
      (try rw [show 0 * 4 = 0 from rfl] at hx139_3)
      (try rw [Addr.add_zero'] at hx139_3)
      replace hx139_0 := (HB.out.cell (World.block_lt_of_cell? w _ hx139_0)).trans hx139_0
      replace hx139_1 := (HB.out.cell (World.block_lt_of_cell? w _ hx139_1)).trans hx139_1
      replace hx139_2 := (HB.out.cell (World.block_lt_of_cell? w _ hx139_2)).trans hx139_2
      replace hx139_3 := (HB.out.cell (World.block_lt_of_cell? w _ hx139_3)).trans hx139_3
      have HR139_0 := Aside0.mk hi139_0
      have HC139_0 := Aside0.mk hl139_0
      clear hi139_0 hl139_0
      replace p139 := eq_true p139
      replace q139 := eq_true q139
      have ea_ := Option.some.inj (hx129_0.symm.trans hx139_0)
      injection ea_ with ea_ en_ ec_
      subst ea_
      subst ec_
      clear en_
      have p140 : 0 ≤ (0 : Int) := (by omega)
      have q140 : 0 < (l1.length : Int) := of_decide_eq_true (by first | (with_reducible assumption) | assumption)
      obtain ⟨ad140, A140_0, c140_0, e140, hx140_0, hx140_1, hx140_2, hx140_3, hl140_0, hi140_0⟩ := at_T72 HR1.out 0 p140 q140
      have hw140_3 := hx140_3
      (try rw [show ((0 : Int)).toNat = 0 from rfl] at hw140_3)
      (try rw [show 0 * 4 = 0 from rfl] at hw140_3)
      (try rw [Addr.add_zero'] at hw140_3)
      have hw140_2 := hx140_2
      (try rw [show ((0 : Int)).toNat = 0 from rfl] at hw140_2)
      (try rw [show 0 * 4 = 0 from rfl] at hw140_2)
      (try rw [Addr.add_zero'] at hw140_2)
      have hw140_1 := hx140_1
      (try rw [show ((0 : Int)).toNat = 0 from rfl] at hw140_1)
      (try rw [show 0 * 4 = 0 from rfl] at hw140_1)
      (try rw [Addr.add_zero'] at hw140_1)
      have hw140_0 := hx140_0
      (try rw [show ((0 : Int)).toNat = 0 from rfl] at hw140_0)
      (try rw [show 0 * 4 = 0 from rfl] at hw140_0)
      (try rw [Addr.add_zero'] at hw140_0)
      obtain rfl : ad129 = ad140 := (by injection e140)
      have qi140 : (0 < l1.length) = True := eq_true (by omega)
      (try rw [show ((0 : Int)).toNat = 0 from rfl] at hx140_0)
      (try rw [show 0 * 4 = 0 from rfl] at hx140_0)
      (try rw [Addr.add_zero'] at hx140_0)
      (try rw [show ((0 : Int)).toNat = 0 from rfl] at hx140_1)
      (try rw [show 0 * 4 = 0 from rfl] at hx140_1)
      (try rw [Addr.add_zero'] at hx140_1)
      (try rw [show ((0 : Int)).toNat = 0 from rfl] at hx140_2)
      (try rw [show 0 * 4 = 0 from rfl] at hx140_2)
      (try rw [Addr.add_zero'] at hx140_2)
      (try rw [show ((0 : Int)).toNat = 0 from rfl] at hx140_3)
      (try rw [show 0 * 4 = 0 from rfl] at hx140_3)
      (try rw [Addr.add_zero'] at hx140_3)
      replace hx140_0 := (HB.out.cell (World.block_lt_of_cell? w _ hx140_0)).trans hx140_0
      replace hx140_1 := (HB.out.cell (World.block_lt_of_cell? w _ hx140_1)).trans hx140_1
      replace hx140_2 := (HB.out.cell (World.block_lt_of_cell? w _ hx140_2)).trans hx140_2
      replace hx140_3 := (HB.out.cell (World.block_lt_of_cell? w _ hx140_3)).trans hx140_3
      have HR140_0 := Aside0.mk hi140_0
      have HC140_0 := Aside0.mk hl140_0
      clear hi140_0 hl140_0
      replace p140 := eq_true p140
      replace q140 := eq_true q140
      have ea_ := Option.some.inj (hx129_0.symm.trans hx140_0)
      injection ea_ with ea_ en_ ec_
      subst ea_
      subst ec_
      clear en_
      refine start_ (n := 43) (S := fun w' => w'.cell? ad127 = some (.slice A127_0 ((rd_T72 l0 0).f0).length c127_0) ∧ w'.cell? ⟨ad127.block, ad127.off + 1, none⟩ = some (.float .f32 ((rd_T72 l0 0).f1)) ∧ w'.cell? ⟨ad127.block, ad127.off + 2, none⟩ = some (.float .f32 ((rd_T72 l0 0).f2)) ∧ w'.cell? ⟨ad127.block, ad127.off + 3, none⟩ = some (.float .f32 ((rd_T72 l0 0).f3)) ∧ w'.cell? ad127 = some (.slice A127_0 ((rd_T72 l0 0).f0).length c127_0) ∧ w'.cell? ⟨ad127.block, ad127.off + 1, none⟩ = some (.float .f32 ((rd_T72 l0 0).f1)) ∧ w'.cell? ⟨ad127.block, ad127.off + 2, none⟩ = some (.float .f32 ((rd_T72 l0 0).f2)) ∧ w'.cell? ⟨ad127.block, ad127.off + 3, none⟩ = some (.float .f32 ((rd_T72 l0 0).f3)) ∧ w'.cell? ad129 = some (.slice A129_0 ((rd_T72 l1 0).f0).length c129_0) ∧ w'.cell? ⟨ad129.block, ad129.off + 1, none⟩ = some (.float .f32 ((rd_T72 l1 0).f1)) ∧ w'.cell? ⟨ad129.block, ad129.off + 2, none⟩ = some (.float .f32 ((rd_T72 l1 0).f2)) ∧ w'.cell? ⟨ad129.block, ad129.off + 3, none⟩ = some (.float .f32 ((rd_T72 l1 0).f3)) ∧ w'.cell? ad129 = some (.slice A129_0 ((rd_T72 l1 0).f0).length c129_0) ∧ w'.cell? ⟨ad129.block, ad129.off + 1, none⟩ = some (.float .f32 ((rd_T72 l1 0).f1)) ∧ w'.cell? ⟨ad129.block, ad129.off + 2, none⟩ = some (.float .f32 ((rd_T72 l1 0).f2)) ∧ w'.cell? ⟨ad129.block, ad129.off + 3, none⟩ = some (.float .f32 ((rd_T72 l1 0).f3)) ∧ w'.cell? ad127 = some (.slice A127_0 ((rd_T72 l0 0).f0).length c127_0) ∧ w'.cell? ⟨ad127.block, ad127.off + 1, none⟩ = some (.float .f32 ((rd_T72 l0 0).f1)) ∧ w'.cell? ⟨ad127.block, ad127.off + 2, none⟩ = some (.float .f32 ((rd_T72 l0 0).f2)) ∧ w'.cell? ⟨ad127.block, ad127.off + 3, none⟩ = some (.float .f32 ((rd_T72 l0 0).f3)) ∧ w'.cell? ad127 = some (.slice A127_0 ((rd_T72 l0 0).f0).length c127_0) ∧ w'.cell? ⟨ad127.block, ad127.off + 1, none⟩ = some (.float .f32 ((rd_T72 l0 0).f1)) ∧ w'.cell? ⟨ad127.block, ad127.off + 2, none⟩ = some (.float .f32 ((rd_T72 l0 0).f2)) ∧ w'.cell? ⟨ad127.block, ad127.off + 3, none⟩ = some (.float .f32 ((rd_T72 l0 0).f3)) ∧ w'.cell? ad129 = some (.slice A129_0 ((rd_T72 l1 0).f0).length c129_0) ∧ w'.cell? ⟨ad129.block, ad129.off + 1, none⟩ = some (.float .f32 ((rd_T72 l1 0).f1)) ∧ w'.cell? ⟨ad129.block, ad129.off + 2, none⟩ = some (.float .f32 ((rd_T72 l1 0).f2)) ∧ w'.cell? ⟨ad129.block, ad129.off + 3, none⟩ = some (.float .f32 ((rd_T72 l1 0).f3)) ∧ w'.cell? ad129 = some (.slice A129_0 ((rd_T72 l1 0).f0).length c129_0) ∧ w'.cell? ⟨ad129.block, ad129.off + 1, none⟩ = some (.float .f32 ((rd_T72 l1 0).f1)) ∧ w'.cell? ⟨ad129.block, ad129.off + 2, none⟩ = some (.float .f32 ((rd_T72 l1 0).f2)) ∧ w'.cell? ⟨ad129.block, ad129.off + 3, none⟩ = some (.float .f32 ((rd_T72 l1 0).f3)) ∧ w'.cell? ad127 = some (.slice A127_0 ((rd_T72 l0 0).f0).length c127_0) ∧ w'.cell? ⟨ad127.block, ad127.off + 1, none⟩ = some (.float .f32 ((rd_T72 l0 0).f1)) ∧ w'.cell? ⟨ad127.block, ad127.off + 2, none⟩ = some (.float .f32 ((rd_T72 l0 0).f2)) ∧ w'.cell? ⟨ad127.block, ad127.off + 3, none⟩ = some (.float .f32 ((rd_T72 l0 0).f3)) ∧ w'.cell? ad127 = some (.slice A127_0 ((rd_T72 l0 0).f0).length c127_0) ∧ w'.cell? ⟨ad127.block, ad127.off + 1, none⟩ = some (.float .f32 ((rd_T72 l0 0).f1)) ∧ w'.cell? ⟨ad127.block, ad127.off + 2, none⟩ = some (.float .f32 ((rd_T72 l0 0).f2)) ∧ w'.cell? ⟨ad127.block, ad127.off + 3, none⟩ = some (.float .f32 ((rd_T72 l0 0).f3)) ∧ w'.cell? ad129 = some (.slice A129_0 ((rd_T72 l1 0).f0).length c129_0) ∧ w'.cell? ⟨ad129.block, ad129.off + 1, none⟩ = some (.float .f32 ((rd_T72 l1 0).f1)) ∧ w'.cell? ⟨ad129.block, ad129.off + 2, none⟩ = some (.float .f32 ((rd_T72 l1 0).f2)) ∧ w'.cell? ⟨ad129.block, ad129.off + 3, none⟩ = some (.float .f32 ((rd_T72 l1 0).f3)) ∧ w'.cell? ad129 = some (.slice A129_0 ((rd_T72 l1 0).f0).length c129_0) ∧ w'.cell? ⟨ad129.block, ad129.off + 1, none⟩ = some (.float .f32 ((rd_T72 l1 0).f1)) ∧ w'.cell? ⟨ad129.block, ad129.off + 2, none⟩ = some (.float .f32 ((rd_T72 l1 0).f2)) ∧ w'.cell? ⟨ad129.block, ad129.off + 3, none⟩ = some (.float .f32 ((rd_T72 l1 0).f3))) (ds := []) spec_l02Same.z0 (by kernel_rfl) rfl rfl ⟨(cu_ HB.out hw127_0), (cu_ HB.out hw127_1), (cu_ HB.out hw127_2), (cu_ HB.out hw127_3), (cu_ HB.out hw128_0), (cu_ HB.out hw128_1), (cu_ HB.out hw128_2), (cu_ HB.out hw128_3), (cu_ HB.out hw129_0), (cu_ HB.out hw129_1), (cu_ HB.out hw129_2), (cu_ HB.out hw129_3), (cu_ HB.out hw130_0), (cu_ HB.out hw130_1), (cu_ HB.out hw130_2), (cu_ HB.out hw130_3), (cu_ HB.out hw132_0), (cu_ HB.out hw132_1), (cu_ HB.out hw132_2), (cu_ HB.out hw132_3), (cu_ HB.out hw133_0), (cu_ HB.out hw133_1), (cu_ HB.out hw133_2), (cu_ HB.out hw133_3), (cu_ HB.out hw134_0), (cu_ HB.out hw134_1), (cu_ HB.out hw134_2), (cu_ HB.out hw134_3), (cu_ HB.out hw135_0), (cu_ HB.out hw135_1), (cu_ HB.out hw135_2), (cu_ HB.out hw135_3), (cu_ HB.out hw137_0), (cu_ HB.out hw137_1), (cu_ HB.out hw137_2), (cu_ HB.out hw137_3), (cu_ HB.out hw138_0), (cu_ HB.out hw138_1), (cu_ HB.out hw138_2), (cu_ HB.out hw138_3), (cu_ HB.out hw139_0), (cu_ HB.out hw139_1), (cu_ HB.out hw139_2), (cu_ HB.out hw139_3), (cu_ HB.out hw140_0), (cu_ HB.out hw140_1), (cu_ HB.out hw140_2), (cu_ HB.out hw140_3)⟩ (fun hHeld => ?_); refine with_tabW spec_l02Same.tab1 spec_l02Same.bits1 (fun HT_ HW_ => ?_)
      generalize w.drew = w13 at HB HR127_0 HR128_0 HR129_0 HR130_0 HR132_0 HR133_0 HR134_0 HR135_0 HR137_0 HR138_0 HR139_0 HR140_0 hx127_0 hx127_1 hx127_2 hx127_3 hx128_0 hx128_1 hx128_2 hx128_3 hx129_0 hx129_1 hx129_2 hx129_3 hx130_0 hx130_1 hx130_2 hx130_3 hx132_0 hx132_1 hx132_2 hx132_3 hx133_0 hx133_1 hx133_2 hx133_3 hx134_0 hx134_1 hx134_2 hx134_3 hx135_0 hx135_1 hx135_2 hx135_3 hx137_0 hx137_1 hx137_2 hx137_3 hx138_0 hx138_1 hx138_2 hx138_3 hx139_0 hx139_1 hx139_2 hx139_3 hx140_0 hx140_1 hx140_2 hx140_3 hHeld ⊢
      refine pure_ (i := 0) (N := some 5) (v := ?_) (a' := ?_) spec_l02Same.z1 rfl rfl (any_of HT_.out (by kernel_rfl)) (fun _ _ _ h => h) (Or.inl ⟨by rfl, ?_⟩) ?_ ?_
      pv_
      refine pure_ (i := 1) (N := some 6) (v := ?_) (a' := ?_) spec_l02Same.z2 rfl rfl (any_of HT_.out (by kernel_rfl)) (fun _ _ _ h => h) (Or.inl ⟨by rfl, ?_⟩) ?_ ?_
      pv_
      refine pure_ (i := 2) (N := some 7) (v := ?_) (a' := ?_) spec_l02Same.z3 rfl rfl (any_of HT_.out (by kernel_rfl)) (fun _ _ _ h => h) (Or.inl ⟨by rfl, ?_⟩) ?_ ?_
      pv_
      refine pure_ (i := 4) (N := some 9) (v := ?_) (a' := ?_) spec_l02Same.z4 rfl rfl (any_of HT_.out (by kernel_rfl)) (fun _ _ _ h => h) (Or.inl ⟨by rfl, ?_⟩) ?_ ?_
      pv_
      refine pure_ (i := 5) (N := some 10) (v := ?_) (a' := ?_) spec_l02Same.z5 rfl rfl (any_of HT_.out (by kernel_rfl)) (fun _ _ _ h => h) (Or.inl ⟨by rfl, ?_⟩) ?_ ?_
      pv_
      refine pure_ (i := 6) (N := some 11) (v := ?_) (a' := ?_) spec_l02Same.z6 rfl rfl (any_of HT_.out (by kernel_rfl)) (fun _ _ _ h => h) (Or.inl ⟨by rfl, ?_⟩) ?_ ?_
      pv_
      refine take_ (i := 3) (N := some 8) (v := ?_) (a' := ?_) spec_l02Same.z7 rfl rfl (take_ofW HT_.out HW_.out (by kernel_rfl)) (fun _ _ _ h => h) (Or.inl ⟨by rfl, ?_⟩) hHeld ?_ ?_
      rotate_left
      ·rintro w' ⟨s0, s1, s2, s3, s4, s5, s6, s7, s8, s9, s10, s11, s12, s13, s14, s15, s16, s17, s18, s19, s20, s21, s22, s23, s24, s25, s26, s27, s28, s29, s30, s31, s32, s33, s34, s35, s36, s37, s38, s39, s40, s41, s42, s43, s44, s45, s46, s47⟩
       go_simp
       with_reducible rfl
      rotate_left
      ·pw_
      refine take_ (i := 7) (N := some 12) (v := ?_) (a' := ?_) spec_l02Same.z8 rfl rfl (take_ofW HT_.out HW_.out (by kernel_rfl)) (fun _ _ _ h => h) (Or.inl ⟨by rfl, ?_⟩) hHeld ?_ ?_
      rotate_left
      ·rintro w' ⟨s0, s1, s2, s3, s4, s5, s6, s7, s8, s9, s10, s11, s12, s13, s14, s15, s16, s17, s18, s19, s20, s21, s22, s23, s24, s25, s26, s27, s28, s29, s30, s31, s32, s33, s34, s35, s36, s37, s38, s39, s40, s41, s42, s43, s44, s45, s46, s47⟩
       go_simp
       with_reducible rfl
      rotate_left
      ·pw_
      refine one_ (i := 8) (N := some 13) spec_l02Same.z9 rfl rfl (one_of HT_.out (by kernel_rfl)) (by decide) (fun K hK => ?_)
      refine goes_ Try.func176 (by kernel_rfl) rfl #[.slice A127_0 ((rd_T72 l0 0).f0).length c127_0, .slice A129_0 ((rd_T72 l1 0).f0).length c129_0] (by rfl) rfl rfl (by (try simp only [List.map_toArray, List.map_cons, List.map_nil]); first | done | rfl | (simp only [List.length_drop, List.length_take]; rfl)) ?_
      with_reducible refine (spec_l01SameAll.calls k _ _ ((rd_T72 l0 0).f0) _ _ ((rd_T72 l1 0).f0) true _ ?side1 ?side2 ?side3 ?side4 A5.out).mono ?_
      (case side1 => repeat (first | exact (Kd.C_below HR128_0.out HB.out) | (with_reducible refine Kd.C_alloc ?_ _) | (with_reducible refine Kd.C_drewN ?_ _) | (with_reducible refine Kd.C_drew ?_)))
      (case side2 => exact HC128_0.out)
      (case side3 => repeat (first | exact (Kd.C_below HR130_0.out HB.out) | (with_reducible refine Kd.C_alloc ?_ _) | (with_reducible refine Kd.C_drewN ?_ _) | (with_reducible refine Kd.C_drew ?_)))
      (case side4 => exact HC130_0.out)
      rintro e w' ⟨rfl, ⟨nd, rfl⟩⟩
      refine ⟨_, rfl, ?_⟩
      refine hK.out _ _ ⟨(cu_ HB.out hw127_0), (cu_ HB.out hw127_1), (cu_ HB.out hw127_2), (cu_ HB.out hw127_3), (cu_ HB.out hw128_0), (cu_ HB.out hw128_1), (cu_ HB.out hw128_2), (cu_ HB.out hw128_3), (cu_ HB.out hw129_0), (cu_ HB.out hw129_1), (cu_ HB.out hw129_2), (cu_ HB.out hw129_3), (cu_ HB.out hw130_0), (cu_ HB.out hw130_1), (cu_ HB.out hw130_2), (cu_ HB.out hw130_3), (cu_ HB.out hw132_0), (cu_ HB.out hw132_1), (cu_ HB.out hw132_2), (cu_ HB.out hw132_3), (cu_ HB.out hw133_0), (cu_ HB.out hw133_1), (cu_ HB.out hw133_2), (cu_ HB.out hw133_3), (cu_ HB.out hw134_0), (cu_ HB.out hw134_1), (cu_ HB.out hw134_2), (cu_ HB.out hw134_3), (cu_ HB.out hw135_0), (cu_ HB.out hw135_1), (cu_ HB.out hw135_2), (cu_ HB.out hw135_3), (cu_ HB.out hw137_0), (cu_ HB.out hw137_1), (cu_ HB.out hw137_2), (cu_ HB.out hw137_3), (cu_ HB.out hw138_0), (cu_ HB.out hw138_1), (cu_ HB.out hw138_2), (cu_ HB.out hw138_3), (cu_ HB.out hw139_0), (cu_ HB.out hw139_1), (cu_ HB.out hw139_2), (cu_ HB.out hw139_3), (cu_ HB.out hw140_0), (cu_ HB.out hw140_1), (cu_ HB.out hw140_2), (cu_ HB.out hw140_3)⟩ (fun hHeld => ?_)
      clear hK K
      refine norm_ (a' := ?_) ?_ ?_
      rotate_left
      ·show Act.put _ (some 13) _ = _
       pw_
      refine pure_ (i := 9) (N := some 14) (v := ?_) (a' := ?_) spec_l02Same.z10 rfl rfl (any_of HT_.out (by kernel_rfl)) (fun _ _ _ h => h) (Or.inl ⟨by rfl, ?_⟩) ?_ ?_
      pv_
      refine pure_ (i := 10) (N := some 15) (v := ?_) (a' := ?_) spec_l02Same.z11 rfl rfl (any_of HT_.out (by kernel_rfl)) (fun _ _ _ h => h) (Or.inl ⟨by rfl, ?_⟩) ?_ ?_
      pv_
      refine pure_ (i := 11) (N := some 16) (v := ?_) (a' := ?_) spec_l02Same.z12 rfl rfl (any_of HT_.out (by kernel_rfl)) (fun _ _ _ h => h) (Or.inl ⟨by rfl, ?_⟩) ?_ ?_
      pv_
      refine pure_ (i := 12) (N := some 17) (v := ?_) (a' := ?_) spec_l02Same.z13 rfl rfl (any_of HT_.out (by kernel_rfl)) (fun _ _ _ h => h) (Or.inl ⟨by rfl, ?_⟩) ?_ ?_
      pv_
      refine pure_ (i := 14) (N := some 19) (v := ?_) (a' := ?_) spec_l02Same.z14 rfl rfl (any_of HT_.out (by kernel_rfl)) (fun _ _ _ h => h) (Or.inl ⟨by rfl, ?_⟩) ?_ ?_
      pv_
      refine pure_ (i := 15) (N := some 20) (v := ?_) (a' := ?_) spec_l02Same.z15 rfl rfl (any_of HT_.out (by kernel_rfl)) (fun _ _ _ h => h) (Or.inl ⟨by rfl, ?_⟩) ?_ ?_
      pv_
      refine pure_ (i := 16) (N := some 21) (v := ?_) (a' := ?_) spec_l02Same.z16 rfl rfl (any_of HT_.out (by kernel_rfl)) (fun _ _ _ h => h) (Or.inl ⟨by rfl, ?_⟩) ?_ ?_
      pv_
      refine take_ (i := 13) (N := some 18) (v := ?_) (a' := ?_) spec_l02Same.z17 rfl rfl (take_ofW HT_.out HW_.out (by kernel_rfl)) (fun _ _ _ h => h) (Or.inl ⟨by rfl, ?_⟩) hHeld ?_ ?_
      rotate_left
      ·rintro w' ⟨s0, s1, s2, s3, s4, s5, s6, s7, s8, s9, s10, s11, s12, s13, s14, s15, s16, s17, s18, s19, s20, s21, s22, s23, s24, s25, s26, s27, s28, s29, s30, s31, s32, s33, s34, s35, s36, s37, s38, s39, s40, s41, s42, s43, s44, s45, s46, s47⟩
       go_simp
       with_reducible rfl
      rotate_left
      ·pw_
      refine take_ (i := 17) (N := some 22) (v := ?_) (a' := ?_) spec_l02Same.z18 rfl rfl (take_ofW HT_.out HW_.out (by kernel_rfl)) (fun _ _ _ h => h) (Or.inl ⟨by rfl, ?_⟩) hHeld ?_ ?_
      rotate_left
      ·rintro w' ⟨s0, s1, s2, s3, s4, s5, s6, s7, s8, s9, s10, s11, s12, s13, s14, s15, s16, s17, s18, s19, s20, s21, s22, s23, s24, s25, s26, s27, s28, s29, s30, s31, s32, s33, s34, s35, s36, s37, s38, s39, s40, s41, s42, s43, s44, s45, s46, s47⟩
       go_simp
       with_reducible rfl
      rotate_left
      ·pw_
      refine one_ (i := 18) (N := some 23) spec_l02Same.z19 rfl rfl (one_of HT_.out (by kernel_rfl)) (by decide) (fun K hK => ?_)
      refine goes_ Try.func163 (by kernel_rfl) rfl #[.float .f32 ((rd_T72 l0 0).f1), .float .f32 ((rd_T72 l1 0).f1)] (by rfl) rfl rfl (by (try simp only [List.map_toArray, List.map_cons, List.map_nil]); first | done | rfl | (simp only [List.length_drop, List.length_take]; rfl)) ?_
      with_reducible refine (spec_l01Same.calls ((rd_T72 l0 0).f1) ((rd_T72 l1 0).f1) true _ A7.out).mono ?_
      rintro e w' ⟨rfl, ⟨nd, rfl⟩⟩
      refine ⟨_, rfl, ?_⟩
      refine hK.out _ _ ⟨(cu_ HB.out hw127_0), (cu_ HB.out hw127_1), (cu_ HB.out hw127_2), (cu_ HB.out hw127_3), (cu_ HB.out hw128_0), (cu_ HB.out hw128_1), (cu_ HB.out hw128_2), (cu_ HB.out hw128_3), (cu_ HB.out hw129_0), (cu_ HB.out hw129_1), (cu_ HB.out hw129_2), (cu_ HB.out hw129_3), (cu_ HB.out hw130_0), (cu_ HB.out hw130_1), (cu_ HB.out hw130_2), (cu_ HB.out hw130_3), (cu_ HB.out hw132_0), (cu_ HB.out hw132_1), (cu_ HB.out hw132_2), (cu_ HB.out hw132_3), (cu_ HB.out hw133_0), (cu_ HB.out hw133_1), (cu_ HB.out hw133_2), (cu_ HB.out hw133_3), (cu_ HB.out hw134_0), (cu_ HB.out hw134_1), (cu_ HB.out hw134_2), (cu_ HB.out hw134_3), (cu_ HB.out hw135_0), (cu_ HB.out hw135_1), (cu_ HB.out hw135_2), (cu_ HB.out hw135_3), (cu_ HB.out hw137_0), (cu_ HB.out hw137_1), (cu_ HB.out hw137_2), (cu_ HB.out hw137_3), (cu_ HB.out hw138_0), (cu_ HB.out hw138_1), (cu_ HB.out hw138_2), (cu_ HB.out hw138_3), (cu_ HB.out hw139_0), (cu_ HB.out hw139_1), (cu_ HB.out hw139_2), (cu_ HB.out hw139_3), (cu_ HB.out hw140_0), (cu_ HB.out hw140_1), (cu_ HB.out hw140_2), (cu_ HB.out hw140_3)⟩ (fun hHeld => ?_)
      clear hK K
      refine norm_ (a' := ?_) ?_ ?_
      rotate_left
      ·show Act.put _ (some 23) _ = _
       pw_
      refine pure_ (i := 19) (N := some 24) (v := ?_) (a' := ?_) spec_l02Same.z20 rfl rfl (any_of HT_.out (by kernel_rfl)) (fun _ _ _ h => h) (Or.inl ⟨by rfl, ?_⟩) ?_ ?_
      pv_
      refine pure_ (i := 20) (N := some 25) (v := ?_) (a' := ?_) spec_l02Same.z21 rfl rfl (any_of HT_.out (by kernel_rfl)) (fun _ _ _ h => h) (Or.inl ⟨by rfl, ?_⟩) ?_ ?_
      pv_
      refine pure_ (i := 21) (N := some 26) (v := ?_) (a' := ?_) spec_l02Same.z22 rfl rfl (any_of HT_.out (by kernel_rfl)) (fun _ _ _ h => h) (Or.inl ⟨by rfl, ?_⟩) ?_ ?_
      pv_
      refine pure_ (i := 22) (N := some 27) (v := ?_) (a' := ?_) spec_l02Same.z23 rfl rfl (any_of HT_.out (by kernel_rfl)) (fun _ _ _ h => h) (Or.inl ⟨by rfl, ?_⟩) ?_ ?_
      pv_
      refine pure_ (i := 23) (N := some 28) (v := ?_) (a' := ?_) spec_l02Same.z24 rfl rfl (any_of HT_.out (by kernel_rfl)) (fun _ _ _ h => h) (Or.inl ⟨by rfl, ?_⟩) ?_ ?_
      pv_
      refine pure_ (i := 25) (N := some 30) (v := ?_) (a' := ?_) spec_l02Same.z25 rfl rfl (any_of HT_.out (by kernel_rfl)) (fun _ _ _ h => h) (Or.inl ⟨by rfl, ?_⟩) ?_ ?_
      pv_
      refine pure_ (i := 26) (N := some 31) (v := ?_) (a' := ?_) spec_l02Same.z26 rfl rfl (any_of HT_.out (by kernel_rfl)) (fun _ _ _ h => h) (Or.inl ⟨by rfl, ?_⟩) ?_ ?_
      pv_
      refine pure_ (i := 27) (N := some 32) (v := ?_) (a' := ?_) spec_l02Same.z27 rfl rfl (any_of HT_.out (by kernel_rfl)) (fun _ _ _ h => h) (Or.inl ⟨by rfl, ?_⟩) ?_ ?_
      pv_
      refine take_ (i := 24) (N := some 29) (v := ?_) (a' := ?_) spec_l02Same.z28 rfl rfl (take_ofW HT_.out HW_.out (by kernel_rfl)) (fun _ _ _ h => h) (Or.inl ⟨by rfl, ?_⟩) hHeld ?_ ?_
      rotate_left
      ·rintro w' ⟨s0, s1, s2, s3, s4, s5, s6, s7, s8, s9, s10, s11, s12, s13, s14, s15, s16, s17, s18, s19, s20, s21, s22, s23, s24, s25, s26, s27, s28, s29, s30, s31, s32, s33, s34, s35, s36, s37, s38, s39, s40, s41, s42, s43, s44, s45, s46, s47⟩
       go_simp
       with_reducible rfl
      rotate_left
      ·pw_
      refine take_ (i := 28) (N := some 33) (v := ?_) (a' := ?_) spec_l02Same.z29 rfl rfl (take_ofW HT_.out HW_.out (by kernel_rfl)) (fun _ _ _ h => h) (Or.inl ⟨by rfl, ?_⟩) hHeld ?_ ?_
      rotate_left
      ·rintro w' ⟨s0, s1, s2, s3, s4, s5, s6, s7, s8, s9, s10, s11, s12, s13, s14, s15, s16, s17, s18, s19, s20, s21, s22, s23, s24, s25, s26, s27, s28, s29, s30, s31, s32, s33, s34, s35, s36, s37, s38, s39, s40, s41, s42, s43, s44, s45, s46, s47⟩
       go_simp
       with_reducible rfl
      rotate_left
      ·pw_
      refine one_ (i := 29) (N := some 34) spec_l02Same.z30 rfl rfl (one_of HT_.out (by kernel_rfl)) (by decide) (fun K hK => ?_)
      refine goes_ Try.func163 (by kernel_rfl) rfl #[.float .f32 ((rd_T72 l0 0).f2), .float .f32 ((rd_T72 l1 0).f2)] (by rfl) rfl rfl (by (try simp only [List.map_toArray, List.map_cons, List.map_nil]); first | done | rfl | (simp only [List.length_drop, List.length_take]; rfl)) ?_
      with_reducible refine (spec_l01Same.calls ((rd_T72 l0 0).f2) ((rd_T72 l1 0).f2) false _ A9.out).mono ?_
      rintro e w' ⟨rfl, ⟨nd, rfl⟩⟩
      refine ⟨_, rfl, ?_⟩
      refine hK.out _ _ ⟨(cu_ HB.out hw127_0), (cu_ HB.out hw127_1), (cu_ HB.out hw127_2), (cu_ HB.out hw127_3), (cu_ HB.out hw128_0), (cu_ HB.out hw128_1), (cu_ HB.out hw128_2), (cu_ HB.out hw128_3), (cu_ HB.out hw129_0), (cu_ HB.out hw129_1), (cu_ HB.out hw129_2), (cu_ HB.out hw129_3), (cu_ HB.out hw130_0), (cu_ HB.out hw130_1), (cu_ HB.out hw130_2), (cu_ HB.out hw130_3), (cu_ HB.out hw132_0), (cu_ HB.out hw132_1), (cu_ HB.out hw132_2), (cu_ HB.out hw132_3), (cu_ HB.out hw133_0), (cu_ HB.out hw133_1), (cu_ HB.out hw133_2), (cu_ HB.out hw133_3), (cu_ HB.out hw134_0), (cu_ HB.out hw134_1), (cu_ HB.out hw134_2), (cu_ HB.out hw134_3), (cu_ HB.out hw135_0), (cu_ HB.out hw135_1), (cu_ HB.out hw135_2), (cu_ HB.out hw135_3), (cu_ HB.out hw137_0), (cu_ HB.out hw137_1), (cu_ HB.out hw137_2), (cu_ HB.out hw137_3), (cu_ HB.out hw138_0), (cu_ HB.out hw138_1), (cu_ HB.out hw138_2), (cu_ HB.out hw138_3), (cu_ HB.out hw139_0), (cu_ HB.out hw139_1), (cu_ HB.out hw139_2), (cu_ HB.out hw139_3), (cu_ HB.out hw140_0), (cu_ HB.out hw140_1), (cu_ HB.out hw140_2), (cu_ HB.out hw140_3)⟩ (fun hHeld => ?_)
      clear hK K
      refine norm_ (a' := ?_) ?_ ?_
      rotate_left
      ·show Act.put _ (some 34) _ = _
       pw_
      refine pure_ (i := 30) (N := some 35) (v := ?_) (a' := ?_) spec_l02Same.z31 rfl rfl (any_of HT_.out (by kernel_rfl)) (fun _ _ _ h => h) (Or.inl ⟨by rfl, ?_⟩) ?_ ?_
      pv_
      refine pure_ (i := 31) (N := some 36) (v := ?_) (a' := ?_) spec_l02Same.z32 rfl rfl (any_of HT_.out (by kernel_rfl)) (fun _ _ _ h => h) (Or.inl ⟨by rfl, ?_⟩) ?_ ?_
      pv_
      refine pure_ (i := 32) (N := some 37) (v := undef) (a' := ?_) spec_l02Same.z33 rfl rfl (any_of HT_.out (by kernel_rfl)) (fun _ _ _ h => h) (Or.inr ⟨by rfl, rfl⟩) ?_ ?_
      rotate_left
      ·pw_
      refine pure_ (i := 33) (N := some 38) (v := undef) (a' := ?_) spec_l02Same.z34 rfl rfl (any_of HT_.out (by kernel_rfl)) (fun _ _ _ h => h) (Or.inr ⟨by rfl, rfl⟩) ?_ ?_
      rotate_left
      ·pw_
      refine pure_ (i := 34) (N := some 39) (v := undef) (a' := ?_) spec_l02Same.z35 rfl rfl (any_of HT_.out (by kernel_rfl)) (fun _ _ _ h => h) (Or.inr ⟨by rfl, rfl⟩) ?_ ?_
      rotate_left
      ·pw_
      refine pure_ (i := 35) (N := some 40) (v := undef) (a' := ?_) spec_l02Same.z44 rfl rfl (any_of HT_.out (by kernel_rfl)) (fun _ _ _ h => h) (Or.inr ⟨by rfl, rfl⟩) ?_ ?_
      rotate_left
      ·pw_
      refine pure_ (i := 36) (N := some 41) (v := undef) (a' := ?_) spec_l02Same.z45 rfl rfl (any_of HT_.out (by kernel_rfl)) (fun _ _ _ h => h) (Or.inr ⟨by rfl, rfl⟩) ?_ ?_
      rotate_left
      ·pw_
      refine pure_ (i := 37) (N := some 42) (v := undef) (a' := ?_) spec_l02Same.z46 rfl rfl (any_of HT_.out (by kernel_rfl)) (fun _ _ _ h => h) (Or.inr ⟨by rfl, rfl⟩) ?_ ?_
      rotate_left
      ·pw_
      refine pure_ (i := 38) (N := some 43) (v := undef) (a' := ?_) spec_l02Same.z39 rfl rfl (any_of HT_.out (by kernel_rfl)) (fun _ _ _ h => h) (Or.inr ⟨by rfl, rfl⟩) ?_ ?_
      rotate_left
      ·pw_
      refine pure_ (i := 39) (N := some 44) (v := undef) (a' := ?_) spec_l02Same.z40 rfl rfl (any_of HT_.out (by kernel_rfl)) (fun _ _ _ h => h) (Or.inr ⟨by rfl, rfl⟩) ?_ ?_
      rotate_left
      ·pw_
      refine pure_ (i := 40) (N := some 45) (v := undef) (a' := ?_) spec_l02Same.z41 rfl rfl (any_of HT_.out (by kernel_rfl)) (fun _ _ _ h => h) (Or.inr ⟨by rfl, rfl⟩) ?_ ?_
      rotate_left
      ·pw_
      refine pure_ (i := 41) (N := some 46) (v := ?_) (a' := ?_) spec_l02Same.z42 rfl rfl (any_of HT_.out (by kernel_rfl)) (fun _ _ _ h => h) (Or.inl ⟨by rfl, ?_⟩) ?_ ?_
      pv_
      refine pure_ (i := 42) (N := some 4) (v := ?_) (a' := ?_) spec_l02Same.z43 rfl rfl (any_of HT_.out (by kernel_rfl)) (fun _ _ _ h => h) (Or.inl ⟨by rfl, ?_⟩) ?_ ?_
      pv_
      refine done_ (done_of HT_.out (by kernel_rfl)) ?_
      try go_wp2
      go_ret
      exact ⟨by first | rfl | (simp [errW_none, errW_some] <;> rfl) | (simp [*, errW_none, errW_some] <;> rfl), by repeat (first | (with_reducible first | exact HB.out | apply below_alloc | apply pw_below_drewN | apply below_drew1) | exact HB.out)⟩
    ·replace c8 := Bool.eq_false_iff.mpr c8
     subst c8
     have H1 : (some false) = some r := by rw [if_neg (show ¬ (false = true) by decide)] at H; exact H
     clear H
     have H := H1
     clear H1
     obtain rfl := Option.some.inj H
     go_enter Try.func121, Try.ntmps121
     try go_wp2
     have n0_ := Aside0.mk (below_drew1 HB.out)
     clear HB
     have HB := n0_
     clear n0_
     have p127 : 0 ≤ (0 : Int) := (by omega)
     have q127 : 0 < (l0.length : Int) := of_decide_eq_true (by first | (with_reducible assumption) | assumption)
     obtain ⟨ad127, A127_0, c127_0, e127, hx127_0, hx127_1, hx127_2, hx127_3, hl127_0, hi127_0⟩ := at_T72 HR0.out 0 p127 q127
     have hw127_3 := hx127_3
     (try rw [show ((0 : Int)).toNat = 0 from rfl] at hw127_3)
     (try rw [show 0 * 4 = 0 from rfl] at hw127_3)
     (try rw [Addr.add_zero'] at hw127_3)
     have hw127_2 := hx127_2
     (try rw [show ((0 : Int)).toNat = 0 from rfl] at hw127_2)
     (try rw [show 0 * 4 = 0 from rfl] at hw127_2)
     (try rw [Addr.add_zero'] at hw127_2)
     have hw127_1 := hx127_1
     (try rw [show ((0 : Int)).toNat = 0 from rfl] at hw127_1)
     (try rw [show 0 * 4 = 0 from rfl] at hw127_1)
     (try rw [Addr.add_zero'] at hw127_1)
     have hw127_0 := hx127_0
     (try rw [show ((0 : Int)).toNat = 0 from rfl] at hw127_0)
     (try rw [show 0 * 4 = 0 from rfl] at hw127_0)
     (try rw [Addr.add_zero'] at hw127_0)
     cases e127
     have qi127 : (0 < l0.length) = True := eq_true (by omega)
     (try rw [show ((0 : Int)).toNat = 0 from rfl] at hx127_0)
     (try rw [show 0 * 4 = 0 from rfl] at hx127_0)
     (try rw [Addr.add_zero'] at hx127_0)
     (try rw [show ((0 : Int)).toNat = 0 from rfl] at hx127_1)
     (try rw [show 0 * 4 = 0 from rfl] at hx127_1)
     (try rw [Addr.add_zero'] at hx127_1)
     (try rw [show ((0 : Int)).toNat = 0 from rfl] at hx127_2)
     (try rw [show 0 * 4 = 0 from rfl] at hx127_2)
     (try rw [Addr.add_zero'] at hx127_2)
     (try rw [show ((0 : Int)).toNat = 0 from rfl] at hx127_3)
     (try rw [show 0 * 4 = 0 from rfl] at hx127_3)
     (try rw [Addr.add_zero'] at hx127_3)
     replace hx127_0 := (HB.out.cell (World.block_lt_of_cell? w _ hx127_0)).trans hx127_0
     replace hx127_1 := (HB.out.cell (World.block_lt_of_cell? w _ hx127_1)).trans hx127_1
     replace hx127_2 := (HB.out.cell (World.block_lt_of_cell? w _ hx127_2)).trans hx127_2
     replace hx127_3 := (HB.out.cell (World.block_lt_of_cell? w _ hx127_3)).trans hx127_3
     have HR127_0 := Aside0.mk hi127_0
     have HC127_0 := Aside0.mk hl127_0
     clear hi127_0 hl127_0
     replace p127 := eq_true p127
     replace q127 := eq_true q127
     have p128 : 0 ≤ (0 : Int) := (by omega)
     have q128 : 0 < (l0.length : Int) := of_decide_eq_true (by first | (with_reducible assumption) | assumption)
     obtain ⟨ad128, A128_0, c128_0, e128, hx128_0, hx128_1, hx128_2, hx128_3, hl128_0, hi128_0⟩ := at_T72 HR0.out 0 p128 q128
     have hw128_3 := hx128_3
     (try rw [show ((0 : Int)).toNat = 0 from rfl] at hw128_3)
     (try rw [show 0 * 4 = 0 from rfl] at hw128_3)
     (try rw [Addr.add_zero'] at hw128_3)
     have hw128_2 := hx128_2
     (try rw [show ((0 : Int)).toNat = 0 from rfl] at hw128_2)
     (try rw [show 0 * 4 = 0 from rfl] at hw128_2)
     (try rw [Addr.add_zero'] at hw128_2)
     have hw128_1 := hx128_1
     (try rw [show ((0 : Int)).toNat = 0 from rfl] at hw128_1)
     (try rw [show 0 * 4 = 0 from rfl] at hw128_1)
     (try rw [Addr.add_zero'] at hw128_1)
     have hw128_0 := hx128_0
     (try rw [show ((0 : Int)).toNat = 0 from rfl] at hw128_0)
     (try rw [show 0 * 4 = 0 from rfl] at hw128_0)
     (try rw [Addr.add_zero'] at hw128_0)
     obtain rfl : ad127 = ad128 := (by injection e128)
     have qi128 : (0 < l0.length) = True := eq_true (by omega)
     (try rw [show ((0 : Int)).toNat = 0 from rfl] at hx128_0)
     (try rw [show 0 * 4 = 0 from rfl] at hx128_0)
     (try rw [Addr.add_zero'] at hx128_0)
     (try rw [show ((0 : Int)).toNat = 0 from rfl] at hx128_1)
     (try rw [show 0 * 4 = 0 from rfl] at hx128_1)
     (try rw [Addr.add_zero'] at hx128_1)
     (try rw [show ((0 : Int)).toNat = 0 from rfl] at hx128_2)
     (try rw [show 0 * 4 = 0 from rfl] at hx128_2)
     (try rw [Addr.add_zero'] at hx128_2)
     (try rw [show ((0 : Int)).toNat = 0 from rfl] at hx128_3)
     (try rw [show 0 * 4 = 0 from rfl] at hx128_3)
     (try rw [Addr.add_zero'] at hx128_3)
     replace hx128_0 := (HB.out.cell (World.block_lt_of_cell? w _ hx128_0)).trans hx128_0
     replace hx128_1 := (HB.out.cell (World.block_lt_of_cell? w _ hx128_1)).trans hx128_1
     replace hx128_2 := (HB.out.cell (World.block_lt_of_cell? w _ hx128_2)).trans hx128_2
     replace hx128_3 := (HB.out.cell (World.block_lt_of_cell? w _ hx128_3)).trans hx128_3
     have HR128_0 := Aside0.mk hi128_0
     have HC128_0 := Aside0.mk hl128_0
     clear hi128_0 hl128_0
     replace p128 := eq_true p128
     replace q128 := eq_true q128
     have ea_ := Option.some.inj (hx127_0.symm.trans hx128_0)
     injection ea_ with ea_ en_ ec_
     subst ea_
     subst ec_
     clear en_
     have p129 : 0 ≤ (0 : Int) := (by omega)
     have q129 : 0 < (l1.length : Int) := of_decide_eq_true (by first | (with_reducible assumption) | assumption)
     obtain ⟨ad129, A129_0, c129_0, e129, hx129_0, hx129_1, hx129_2, hx129_3, hl129_0, hi129_0⟩ := at_T72 HR1.out 0 p129 q129
     have hw129_3 := hx129_3
     (try rw [show ((0 : Int)).toNat = 0 from rfl] at hw129_3)
     (try rw [show 0 * 4 = 0 from rfl] at hw129_3)
     (try rw [Addr.add_zero'] at hw129_3)
     have hw129_2 := hx129_2
     (try rw [show ((0 : Int)).toNat = 0 from rfl] at hw129_2)
     (try rw [show 0 * 4 = 0 from rfl] at hw129_2)
     (try rw [Addr.add_zero'] at hw129_2)
     have hw129_1 := hx129_1
     (try rw [show ((0 : Int)).toNat = 0 from rfl] at hw129_1)
     (try rw [show 0 * 4 = 0 from rfl] at hw129_1)
     (try rw [Addr.add_zero'] at hw129_1)
     have hw129_0 := hx129_0
     (try rw [show ((0 : Int)).toNat = 0 from rfl] at hw129_0)
     (try rw [show 0 * 4 = 0 from rfl] at hw129_0)
     (try rw [Addr.add_zero'] at hw129_0)
     cases e129
     have qi129 : (0 < l1.length) = True := eq_true (by omega)
     (try rw [show ((0 : Int)).toNat = 0 from rfl] at hx129_0)
     (try rw [show 0 * 4 = 0 from rfl] at hx129_0)
     (try rw [Addr.add_zero'] at hx129_0)
     (try rw [show ((0 : Int)).toNat = 0 from rfl] at hx129_1)
     (try rw [show 0 * 4 = 0 from rfl] at hx129_1)
     (try rw [Addr.add_zero'] at hx129_1)
     (try rw [show ((0 : Int)).toNat = 0 from rfl] at hx129_2)
     (try rw [show 0 * 4 = 0 from rfl] at hx129_2)
     (try rw [Addr.add_zero'] at hx129_2)
     (try rw [show ((0 : Int)).toNat = 0 from rfl] at hx129_3)
     (try rw [show 0 * 4 = 0 from rfl] at hx129_3)
     (try rw [Addr.add_zero'] at hx129_3)
     replace hx129_0 := (HB.out.cell (World.block_lt_of_cell? w _ hx129_0)).trans hx129_0
     replace hx129_1 := (HB.out.cell (World.block_lt_of_cell? w _ hx129_1)).trans hx129_1
     replace hx129_2 := (HB.out.cell (World.block_lt_of_cell? w _ hx129_2)).trans hx129_2
     replace hx129_3 := (HB.out.cell (World.block_lt_of_cell? w _ hx129_3)).trans hx129_3
     have HR129_0 := Aside0.mk hi129_0
     have HC129_0 := Aside0.mk hl129_0
     clear hi129_0 hl129_0
     replace p129 := eq_true p129
     replace q129 := eq_true q129
     have p130 : 0 ≤ (0 : Int) := (by omega)
     have q130 : 0 < (l1.length : Int) := of_decide_eq_true (by first | (with_reducible assumption) | assumption)
     obtain ⟨ad130, A130_0, c130_0, e130, hx130_0, hx130_1, hx130_2, hx130_3, hl130_0, hi130_0⟩ := at_T72 HR1.out 0 p130 q130
     have hw130_3 := hx130_3
     (try rw [show ((0 : Int)).toNat = 0 from rfl] at hw130_3)
     (try rw [show 0 * 4 = 0 from rfl] at hw130_3)
     (try rw [Addr.add_zero'] at hw130_3)
     have hw130_2 := hx130_2
     (try rw [show ((0 : Int)).toNat = 0 from rfl] at hw130_2)
     (try rw [show 0 * 4 = 0 from rfl] at hw130_2)
     (try rw [Addr.add_zero'] at hw130_2)
     have hw130_1 := hx130_1
     (try rw [show ((0 : Int)).toNat = 0 from rfl] at hw130_1)
     (try rw [show 0 * 4 = 0 from rfl] at hw130_1)
     (try rw [Addr.add_zero'] at hw130_1)
     have hw130_0 := hx130_0
     (try rw [show ((0 : Int)).toNat = 0 from rfl] at hw130_0)
     (try rw [show 0 * 4 = 0 from rfl] at hw130_0)
     (try rw [Addr.add_zero'] at hw130_0)
     obtain rfl : ad129 = ad130 := (by injection e130)
     have qi130 : (0 < l1.length) = True := eq_true (by omega)
     (try rw [show ((0 : Int)).toNat = 0 from rfl] at hx130_0)
     (try rw [show 0 * 4 = 0 from rfl] at hx130_0)
     (try rw [Addr.add_zero'] at hx130_0)
     (try rw [show ((0 : Int)).toNat = 0 from rfl] at hx130_1)
     (try rw [show 0 * 4 = 0 from rfl] at hx130_1)
     (try rw [Addr.add_zero'] at hx130_1)
     (try rw [show ((0 : Int)).toNat = 0 from rfl] at hx130_2)
     (try rw [show 0 * 4 = 0 from rfl] at hx130_2)
     (try rw [Addr.add_zero'] at hx130_2)
     (try rw [show ((0 : Int)).toNat = 0 from rfl] at hx130_3)
     (try rw [show 0 * 4 = 0 from rfl] at hx130_3)
     (try rw [Addr.add_zero'] at hx130_3)
     replace hx130_0 := (HB.out.cell (World.block_lt_of_cell? w _ hx130_0)).trans hx130_0
     replace hx130_1 := (HB.out.cell (World.block_lt_of_cell? w _ hx130_1)).trans hx130_1
     replace hx130_2 := (HB.out.cell (World.block_lt_of_cell? w _ hx130_2)).trans hx130_2
     replace hx130_3 := (HB.out.cell (World.block_lt_of_cell? w _ hx130_3)).trans hx130_3
     have HR130_0 := Aside0.mk hi130_0
     have HC130_0 := Aside0.mk hl130_0
     clear hi130_0 hl130_0
     replace p130 := eq_true p130
     replace q130 := eq_true q130
     have ea_ := Option.some.inj (hx129_0.symm.trans hx130_0)
     injection ea_ with ea_ en_ ec_
     subst ea_
     subst ec_
     clear en_
     have p132 : 0 ≤ (0 : Int) := (by omega)
     have q132 : 0 < (l0.length : Int) := of_decide_eq_true (by first | (with_reducible assumption) | assumption)
     obtain ⟨ad132, A132_0, c132_0, e132, hx132_0, hx132_1, hx132_2, hx132_3, hl132_0, hi132_0⟩ := at_T72 HR0.out 0 p132 q132
     have hw132_3 := hx132_3
     (try rw [show ((0 : Int)).toNat = 0 from rfl] at hw132_3)
     (try rw [show 0 * 4 = 0 from rfl] at hw132_3)
     (try rw [Addr.add_zero'] at hw132_3)
     have hw132_2 := hx132_2
     (try rw [show ((0 : Int)).toNat = 0 from rfl] at hw132_2)
     (try rw [show 0 * 4 = 0 from rfl] at hw132_2)
     (try rw [Addr.add_zero'] at hw132_2)
     have hw132_1 := hx132_1
     (try rw [show ((0 : Int)).toNat = 0 from rfl] at hw132_1)
     (try rw [show 0 * 4 = 0 from rfl] at hw132_1)
     (try rw [Addr.add_zero'] at hw132_1)
     have hw132_0 := hx132_0
     (try rw [show ((0 : Int)).toNat = 0 from rfl] at hw132_0)
     (try rw [show 0 * 4 = 0 from rfl] at hw132_0)
     (try rw [Addr.add_zero'] at hw132_0)
     obtain rfl : ad127 = ad132 := (by injection e132)
     have qi132 : (0 < l0.length) = True := eq_true (by omega)
     (try rw [show ((0 : Int)).toNat = 0 from rfl] at hx132_0)
     (try rw [show 0 * 4 = 0 from rfl] at hx132_0)
     (try rw [Addr.add_zero'] at hx132_0)
     (try rw [show ((0 : Int)).toNat = 0 from rfl] at hx132_1)
     (try rw [show 0 * 4 = 0 from rfl] at hx132_1)
     (try rw [Addr.add_zero'] at hx132_1)
     (try rw [show ((0 : Int)).toNat = 0 from rfl] at hx132_2)
     (try rw [show 0 * 4 = 0 from rfl] at hx132_2)
     (try rw [Addr.add_zero'] at hx132_2)
     (try rw [show ((0 : Int)).toNat = 0 from rfl] at hx132_3)
     (try rw [show 0 * 4 = 0 from rfl] at hx132_3)
     (try rw [Addr.add_zero'] at hx132_3)
     replace hx132_0 := (HB.out.cell (World.block_lt_of_cell? w _ hx132_0)).trans hx132_0
     replace hx132_1 := (HB.out.cell (World.block_lt_of_cell? w _ hx132_1)).trans hx132_1
     replace hx132_2 := (HB.out.cell (World.block_lt_of_cell? w _ hx132_2)).trans hx132_2
     replace hx132_3 := (HB.out.cell (World.block_lt_of_cell? w _ hx132_3)).trans hx132_3
     have HR132_0 := Aside0.mk hi132_0
     have HC132_0 := Aside0.mk hl132_0
     clear hi132_0 hl132_0
     replace p132 := eq_true p132
     replace q132 := eq_true q132
     have ea_ := Option.some.inj (hx127_0.symm.trans hx132_0)
     injection ea_ with ea_ en_ ec_
     subst ea_
     subst ec_
     clear en_
     have p133 : 0 ≤ (0 : Int) := (by omega)
     have q133 : 0 < (l0.length : Int) := of_decide_eq_true (by first | (with_reducible assumption) | assumption)
     obtain ⟨ad133, A133_0, c133_0, e133, hx133_0, hx133_1, hx133_2, hx133_3, hl133_0, hi133_0⟩ := at_T72 HR0.out 0 p133 q133
     have hw133_3 := hx133_3
     (try rw [show ((0 : Int)).toNat = 0 from rfl] at hw133_3)
     (try rw [show 0 * 4 = 0 from rfl] at hw133_3)
     (try rw [Addr.add_zero'] at hw133_3)
     have hw133_2 := hx133_2
     (try rw [show ((0 : Int)).toNat = 0 from rfl] at hw133_2)
     (try rw [show 0 * 4 = 0 from rfl] at hw133_2)
     (try rw [Addr.add_zero'] at hw133_2)
     have hw133_1 := hx133_1
     (try rw [show ((0 : Int)).toNat = 0 from rfl] at hw133_1)
     (try rw [show 0 * 4 = 0 from rfl] at hw133_1)
     (try rw [Addr.add_zero'] at hw133_1)
     have hw133_0 := hx133_0
     (try rw [show ((0 : Int)).toNat = 0 from rfl] at hw133_0)
     (try rw [show 0 * 4 = 0 from rfl] at hw133_0)
     (try rw [Addr.add_zero'] at hw133_0)
     obtain rfl : ad127 = ad133 := (by injection e133)
     have qi133 : (0 < l0.length) = True := eq_true (by omega)
     (try rw [show ((0 : Int)).toNat = 0 from rfl] at hx133_0)
     (try rw [show 0 * 4 = 0 from rfl] at hx133_0)
     (try rw [Addr.add_zero'] at hx133_0)
     (try rw [show ((0 : Int)).toNat = 0 from rfl] at hx133_1)
     (try rw [show 0 * 4 = 0 from rfl] at hx133_1)
     (try rw [Addr.add_zero'] at hx133_1)
     (try rw [show ((0 : Int)).toNat = 0 from rfl] at hx133_2)
     (try rw [show 0 * 4 = 0 from rfl] at hx133_2)
     (try rw [Addr.add_zero'] at hx133_2)
     (try rw [show ((0 : Int)).toNat = 0 from rfl] at hx133_3)
     (try rw [show 0 * 4 = 0 from rfl] at hx133_3)
     (try rw [Addr.add_zero'] at hx133_3)
     replace hx133_0 := (HB.out.cell (World.block_lt_of_cell? w _ hx133_0)).trans hx133_0
     replace hx133_1 := (HB.out.cell (World.block_lt_of_cell? w _ hx133_1)).trans hx133_1
     replace hx133_2 := (HB.out.cell (World.block_lt_of_cell? w _ hx133_2)).trans hx133_2
     replace hx133_3 := (HB.out.cell (World.block_lt_of_cell? w _ hx133_3)).trans hx133_3
     have HR133_0 := Aside0.mk hi133_0
     have HC133_0 := Aside0.mk hl133_0
     clear hi133_0 hl133_0
     replace p133 := eq_true p133
     replace q133 := eq_true q133
     have ea_ := Option.some.inj (hx127_0.symm.trans hx133_0)
     injection ea_ with ea_ en_ ec_
     subst ea_
     subst ec_
     clear en_
     have p134 : 0 ≤ (0 : Int) := (by omega)
     have q134 : 0 < (l1.length : Int) := of_decide_eq_true (by first | (with_reducible assumption) | assumption)
     obtain ⟨ad134, A134_0, c134_0, e134, hx134_0, hx134_1, hx134_2, hx134_3, hl134_0, hi134_0⟩ := at_T72 HR1.out 0 p134 q134
     have hw134_3 := hx134_3
     (try rw [show ((0 : Int)).toNat = 0 from rfl] at hw134_3)
     (try rw [show 0 * 4 = 0 from rfl] at hw134_3)
     (try rw [Addr.add_zero'] at hw134_3)
     have hw134_2 := hx134_2
     (try rw [show ((0 : Int)).toNat = 0 from rfl] at hw134_2)
     (try rw [show 0 * 4 = 0 from rfl] at hw134_2)
     (try rw [Addr.add_zero'] at hw134_2)
     have hw134_1 := hx134_1
     (try rw [show ((0 : Int)).toNat = 0 from rfl] at hw134_1)
     (try rw [show 0 * 4 = 0 from rfl] at hw134_1)
     (try rw [Addr.add_zero'] at hw134_1)
     have hw134_0 := hx134_0
     (try rw [show ((0 : Int)).toNat = 0 from rfl] at hw134_0)
     (try rw [show 0 * 4 = 0 from rfl] at hw134_0)
     (try rw [Addr.add_zero'] at hw134_0)
     obtain rfl : ad129 = ad134 := (by injection e134)
     have qi134 : (0 < l1.length) = True := eq_true (by omega)
     (try rw [show ((0 : Int)).toNat = 0 from rfl] at hx134_0)
     (try rw [show 0 * 4 = 0 from rfl] at hx134_0)
     (try rw [Addr.add_zero'] at hx134_0)
     (try rw [show ((0 : Int)).toNat = 0 from rfl] at hx134_1)
     (try rw [show 0 * 4 = 0 from rfl] at hx134_1)
     (try rw [Addr.add_zero'] at hx134_1)
     (try rw [show ((0 : Int)).toNat = 0 from rfl] at hx134_2)
     (try rw [show 0 * 4 = 0 from rfl] at hx134_2)
     (try rw [Addr.add_zero'] at hx134_2)
     (try rw [show ((0 : Int)).toNat = 0 from rfl] at hx134_3)
     (try rw [show 0 * 4 = 0 from rfl] at hx134_3)
     (try rw [Addr.add_zero'] at hx134_3)
     replace hx134_0 := (HB.out.cell (World.block_lt_of_cell? w _ hx134_0)).trans hx134_0
     replace hx134_1 := (HB.out.cell (World.block_lt_of_cell? w _ hx134_1)).trans hx134_1
     replace hx134_2 := (HB.out.cell (World.block_lt_of_cell? w _ hx134_2)).trans hx134_2
     replace hx134_3 := (HB.out.cell (World.block_lt_of_cell? w _ hx134_3)).trans hx134_3
     have HR134_0 := Aside0.mk hi134_0
     have HC134_0 := Aside0.mk hl134_0
     clear hi134_0 hl134_0
     replace p134 := eq_true p134
     replace q134 := eq_true q134
     have ea_ := Option.some.inj (hx129_0.symm.trans hx134_0)
     injection ea_ with ea_ en_ ec_
     subst ea_
     subst ec_
     clear en_
     have p135 : 0 ≤ (0 : Int) := (by omega)
     have q135 : 0 < (l1.length : Int) := of_decide_eq_true (by first | (with_reducible assumption) | assumption)
     obtain ⟨ad135, A135_0, c135_0, e135, hx135_0, hx135_1, hx135_2, hx135_3, hl135_0, hi135_0⟩ := at_T72 HR1.out 0 p135 q135
     have hw135_3 := hx135_3
     (try rw [show ((0 : Int)).toNat = 0 from rfl] at hw135_3)
     (try rw [show 0 * 4 = 0 from rfl] at hw135_3)
     (try rw [Addr.add_zero'] at hw135_3)
     have hw135_2 := hx135_2
     (try rw [show ((0 : Int)).toNat = 0 from rfl] at hw135_2)
     (try rw [show 0 * 4 = 0 from rfl] at hw135_2)
     (try rw [Addr.add_zero'] at hw135_2)
     have hw135_1 := hx135_1
     (try rw [show ((0 : Int)).toNat = 0 from rfl] at hw135_1)
     (try rw [show 0 * 4 = 0 from rfl] at hw135_1)
     (try rw [Addr.add_zero'] at hw135_1)
     have hw135_0 := hx135_0
     (try rw [show ((0 : Int)).toNat = 0 from rfl] at hw135_0)
     (try rw [show 0 * 4 = 0 from rfl] at hw135_0)
     (try rw [Addr.add_zero'] at hw135_0)
     obtain rfl : ad129 = ad135 := (by injection e135)
     have qi135 : (0 < l1.length) = True := eq_true (by omega)
     (try rw [show ((0 : Int)).toNat = 0 from rfl] at hx135_0)
     (try rw [show 0 * 4 = 0 from rfl] at hx135_0)
     (try rw [Addr.add_zero'] at hx135_0)
     (try rw [show ((0 : Int)).toNat = 0 from rfl] at hx135_1)
     (try rw [show 0 * 4 = 0 from rfl] at hx135_1)
     (try rw [Addr.add_zero'] at hx135_1)
     (try rw [show ((0 : Int)).toNat = 0 from rfl] at hx135_2)
     (try rw [show 0 * 4 = 0 from rfl] at hx135_2)
     (try rw [Addr.add_zero'] at hx135_2)
     (try rw [show ((0 : Int)).toNat = 0 from rfl] at hx135_3)
     (try rw [show 0 * 4 = 0 from rfl] at hx135_3)
     (try rw [Addr.add_zero'] at hx135_3)
     replace hx135_0 := (HB.out.cell (World.block_lt_of_cell? w _ hx135_0)).trans hx135_0
     replace hx135_1 := (HB.out.cell (World.block_lt_of_cell? w _ hx135_1)).trans hx135_1
     replace hx135_2 := (HB.out.cell (World.block_lt_of_cell? w _ hx135_2)).trans hx135_2
     replace hx135_3 := (HB.out.cell (World.block_lt_of_cell? w _ hx135_3)).trans hx135_3
     have HR135_0 := Aside0.mk hi135_0
     have HC135_0 := Aside0.mk hl135_0
     clear hi135_0 hl135_0
     replace p135 := eq_true p135
     replace q135 := eq_true q135
     have ea_ := Option.some.inj (hx129_0.symm.trans hx135_0)
     injection ea_ with ea_ en_ ec_
     subst ea_
     subst ec_
     clear en_
     refine start_ (n := 43) (S := fun w' => w'.cell? ad127 = some (.slice A127_0 ((rd_T72 l0 0).f0).length c127_0) ∧ w'.cell? ⟨ad127.block, ad127.off + 1, none⟩ = some (.float .f32 ((rd_T72 l0 0).f1)) ∧ w'.cell? ⟨ad127.block, ad127.off + 2, none⟩ = some (.float .f32 ((rd_T72 l0 0).f2)) ∧ w'.cell? ⟨ad127.block, ad127.off + 3, none⟩ = some (.float .f32 ((rd_T72 l0 0).f3)) ∧ w'.cell? ad127 = some (.slice A127_0 ((rd_T72 l0 0).f0).length c127_0) ∧ w'.cell? ⟨ad127.block, ad127.off + 1, none⟩ = some (.float .f32 ((rd_T72 l0 0).f1)) ∧ w'.cell? ⟨ad127.block, ad127.off + 2, none⟩ = some (.float .f32 ((rd_T72 l0 0).f2)) ∧ w'.cell? ⟨ad127.block, ad127.off + 3, none⟩ = some (.float .f32 ((rd_T72 l0 0).f3)) ∧ w'.cell? ad129 = some (.slice A129_0 ((rd_T72 l1 0).f0).length c129_0) ∧ w'.cell? ⟨ad129.block, ad129.off + 1, none⟩ = some (.float .f32 ((rd_T72 l1 0).f1)) ∧ w'.cell? ⟨ad129.block, ad129.off + 2, none⟩ = some (.float .f32 ((rd_T72 l1 0).f2)) ∧ w'.cell? ⟨ad129.block, ad129.off + 3, none⟩ = some (.float .f32 ((rd_T72 l1 0).f3)) ∧ w'.cell? ad129 = some (.slice A129_0 ((rd_T72 l1 0).f0).length c129_0) ∧ w'.cell? ⟨ad129.block, ad129.off + 1, none⟩ = some (.float .f32 ((rd_T72 l1 0).f1)) ∧ w'.cell? ⟨ad129.block, ad129.off + 2, none⟩ = some (.float .f32 ((rd_T72 l1 0).f2)) ∧ w'.cell? ⟨ad129.block, ad129.off + 3, none⟩ = some (.float .f32 ((rd_T72 l1 0).f3)) ∧ w'.cell? ad127 = some (.slice A127_0 ((rd_T72 l0 0).f0).length c127_0) ∧ w'.cell? ⟨ad127.block, ad127.off + 1, none⟩ = some (.float .f32 ((rd_T72 l0 0).f1)) ∧ w'.cell? ⟨ad127.block, ad127.off + 2, none⟩ = some (.float .f32 ((rd_T72 l0 0).f2)) ∧ w'.cell? ⟨ad127.block, ad127.off + 3, none⟩ = some (.float .f32 ((rd_T72 l0 0).f3)) ∧ w'.cell? ad127 = some (.slice A127_0 ((rd_T72 l0 0).f0).length c127_0) ∧ w'.cell? ⟨ad127.block, ad127.off + 1, none⟩ = some (.float .f32 ((rd_T72 l0 0).f1)) ∧ w'.cell? ⟨ad127.block, ad127.off + 2, none⟩ = some (.float .f32 ((rd_T72 l0 0).f2)) ∧ w'.cell? ⟨ad127.block, ad127.off + 3, none⟩ = some (.float .f32 ((rd_T72 l0 0).f3)) ∧ w'.cell? ad129 = some (.slice A129_0 ((rd_T72 l1 0).f0).length c129_0) ∧ w'.cell? ⟨ad129.block, ad129.off + 1, none⟩ = some (.float .f32 ((rd_T72 l1 0).f1)) ∧ w'.cell? ⟨ad129.block, ad129.off + 2, none⟩ = some (.float .f32 ((rd_T72 l1 0).f2)) ∧ w'.cell? ⟨ad129.block, ad129.off + 3, none⟩ = some (.float .f32 ((rd_T72 l1 0).f3)) ∧ w'.cell? ad129 = some (.slice A129_0 ((rd_T72 l1 0).f0).length c129_0) ∧ w'.cell? ⟨ad129.block, ad129.off + 1, none⟩ = some (.float .f32 ((rd_T72 l1 0).f1)) ∧ w'.cell? ⟨ad129.block, ad129.off + 2, none⟩ = some (.float .f32 ((rd_T72 l1 0).f2)) ∧ w'.cell? ⟨ad129.block, ad129.off + 3, none⟩ = some (.float .f32 ((rd_T72 l1 0).f3))) (ds := []) spec_l02Same.z0 (by kernel_rfl) rfl rfl ⟨(cu_ HB.out hw127_0), (cu_ HB.out hw127_1), (cu_ HB.out hw127_2), (cu_ HB.out hw127_3), (cu_ HB.out hw128_0), (cu_ HB.out hw128_1), (cu_ HB.out hw128_2), (cu_ HB.out hw128_3), (cu_ HB.out hw129_0), (cu_ HB.out hw129_1), (cu_ HB.out hw129_2), (cu_ HB.out hw129_3), (cu_ HB.out hw130_0), (cu_ HB.out hw130_1), (cu_ HB.out hw130_2), (cu_ HB.out hw130_3), (cu_ HB.out hw132_0), (cu_ HB.out hw132_1), (cu_ HB.out hw132_2), (cu_ HB.out hw132_3), (cu_ HB.out hw133_0), (cu_ HB.out hw133_1), (cu_ HB.out hw133_2), (cu_ HB.out hw133_3), (cu_ HB.out hw134_0), (cu_ HB.out hw134_1), (cu_ HB.out hw134_2), (cu_ HB.out hw134_3), (cu_ HB.out hw135_0), (cu_ HB.out hw135_1), (cu_ HB.out hw135_2), (cu_ HB.out hw135_3)⟩ (fun hHeld => ?_); refine with_tabW spec_l02Same.tab1 spec_l02Same.bits1 (fun HT_ HW_ => ?_)
     generalize w.drew = w14 at HB HR127_0 HR128_0 HR129_0 HR130_0 HR132_0 HR133_0 HR134_0 HR135_0 hx127_0 hx127_1 hx127_2 hx127_3 hx128_0 hx128_1 hx128_2 hx128_3 hx129_0 hx129_1 hx129_2 hx129_3 hx130_0 hx130_1 hx130_2 hx130_3 hx132_0 hx132_1 hx132_2 hx132_3 hx133_0 hx133_1 hx133_2 hx133_3 hx134_0 hx134_1 hx134_2 hx134_3 hx135_0 hx135_1 hx135_2 hx135_3 hHeld ⊢
     refine pure_ (i := 0) (N := some 5) (v := ?_) (a' := ?_) spec_l02Same.z1 rfl rfl (any_of HT_.out (by kernel_rfl)) (fun _ _ _ h => h) (Or.inl ⟨by rfl, ?_⟩) ?_ ?_
     pv_
     refine pure_ (i := 1) (N := some 6) (v := ?_) (a' := ?_) spec_l02Same.z2 rfl rfl (any_of HT_.out (by kernel_rfl)) (fun _ _ _ h => h) (Or.inl ⟨by rfl, ?_⟩) ?_ ?_
     pv_
     refine pure_ (i := 2) (N := some 7) (v := ?_) (a' := ?_) spec_l02Same.z3 rfl rfl (any_of HT_.out (by kernel_rfl)) (fun _ _ _ h => h) (Or.inl ⟨by rfl, ?_⟩) ?_ ?_
     pv_
     refine pure_ (i := 4) (N := some 9) (v := ?_) (a' := ?_) spec_l02Same.z4 rfl rfl (any_of HT_.out (by kernel_rfl)) (fun _ _ _ h => h) (Or.inl ⟨by rfl, ?_⟩) ?_ ?_
     pv_
     refine pure_ (i := 5) (N := some 10) (v := ?_) (a' := ?_) spec_l02Same.z5 rfl rfl (any_of HT_.out (by kernel_rfl)) (fun _ _ _ h => h) (Or.inl ⟨by rfl, ?_⟩) ?_ ?_
     pv_
     refine pure_ (i := 6) (N := some 11) (v := ?_) (a' := ?_) spec_l02Same.z6 rfl rfl (any_of HT_.out (by kernel_rfl)) (fun _ _ _ h => h) (Or.inl ⟨by rfl, ?_⟩) ?_ ?_
     pv_
     refine take_ (i := 3) (N := some 8) (v := ?_) (a' := ?_) spec_l02Same.z7 rfl rfl (take_ofW HT_.out HW_.out (by kernel_rfl)) (fun _ _ _ h => h) (Or.inl ⟨by rfl, ?_⟩) hHeld ?_ ?_
     rotate_left
     ·rintro w' ⟨s0, s1, s2, s3, s4, s5, s6, s7, s8, s9, s10, s11, s12, s13, s14, s15, s16, s17, s18, s19, s20, s21, s22, s23, s24, s25, s26, s27, s28, s29, s30, s31⟩
      go_simp
      with_reducible rfl
     rotate_left
     ·pw_
     refine take_ (i := 7) (N := some 12) (v := ?_) (a' := ?_) spec_l02Same.z8 rfl rfl (take_ofW HT_.out HW_.out (by kernel_rfl)) (fun _ _ _ h => h) (Or.inl ⟨by rfl, ?_⟩) hHeld ?_ ?_
     rotate_left
     ·rintro w' ⟨s0, s1, s2, s3, s4, s5, s6, s7, s8, s9, s10, s11, s12, s13, s14, s15, s16, s17, s18, s19, s20, s21, s22, s23, s24, s25, s26, s27, s28, s29, s30, s31⟩
      go_simp
      with_reducible rfl
     rotate_left
     ·pw_
     refine one_ (i := 8) (N := some 13) spec_l02Same.z9 rfl rfl (one_of HT_.out (by kernel_rfl)) (by decide) (fun K hK => ?_)
     refine goes_ Try.func176 (by kernel_rfl) rfl #[.slice A127_0 ((rd_T72 l0 0).f0).length c127_0, .slice A129_0 ((rd_T72 l1 0).f0).length c129_0] (by rfl) rfl rfl (by (try simp only [List.map_toArray, List.map_cons, List.map_nil]); first | done | rfl | (simp only [List.length_drop, List.length_take]; rfl)) ?_
     with_reducible refine (spec_l01SameAll.calls k _ _ ((rd_T72 l0 0).f0) _ _ ((rd_T72 l1 0).f0) true _ ?side1 ?side2 ?side3 ?side4 A5.out).mono ?_
     (case side1 => repeat (first | exact (Kd.C_below HR128_0.out HB.out) | (with_reducible refine Kd.C_alloc ?_ _) | (with_reducible refine Kd.C_drewN ?_ _) | (with_reducible refine Kd.C_drew ?_)))
     (case side2 => exact HC128_0.out)
     (case side3 => repeat (first | exact (Kd.C_below HR130_0.out HB.out) | (with_reducible refine Kd.C_alloc ?_ _) | (with_reducible refine Kd.C_drewN ?_ _) | (with_reducible refine Kd.C_drew ?_)))
     (case side4 => exact HC130_0.out)
     rintro e w' ⟨rfl, ⟨nd, rfl⟩⟩
     refine ⟨_, rfl, ?_⟩
     refine hK.out _ _ ⟨(cu_ HB.out hw127_0), (cu_ HB.out hw127_1), (cu_ HB.out hw127_2), (cu_ HB.out hw127_3), (cu_ HB.out hw128_0), (cu_ HB.out hw128_1), (cu_ HB.out hw128_2), (cu_ HB.out hw128_3), (cu_ HB.out hw129_0), (cu_ HB.out hw129_1), (cu_ HB.out hw129_2), (cu_ HB.out hw129_3), (cu_ HB.out hw130_0), (cu_ HB.out hw130_1), (cu_ HB.out hw130_2), (cu_ HB.out hw130_3), (cu_ HB.out hw132_0), (cu_ HB.out hw132_1), (cu_ HB.out hw132_2), (cu_ HB.out hw132_3), (cu_ HB.out hw133_0), (cu_ HB.out hw133_1), (cu_ HB.out hw133_2), (cu_ HB.out hw133_3), (cu_ HB.out hw134_0), (cu_ HB.out hw134_1), (cu_ HB.out hw134_2), (cu_ HB.out hw134_3), (cu_ HB.out hw135_0), (cu_ HB.out hw135_1), (cu_ HB.out hw135_2), (cu_ HB.out hw135_3)⟩ (fun hHeld => ?_)
     clear hK K
     refine norm_ (a' := ?_) ?_ ?_
     rotate_left
     ·show Act.put _ (some 13) _ = _
      pw_
     refine pure_ (i := 9) (N := some 14) (v := ?_) (a' := ?_) spec_l02Same.z10 rfl rfl (any_of HT_.out (by kernel_rfl)) (fun _ _ _ h => h) (Or.inl ⟨by rfl, ?_⟩) ?_ ?_
     pv_
     refine pure_ (i := 10) (N := some 15) (v := ?_) (a' := ?_) spec_l02Same.z11 rfl rfl (any_of HT_.out (by kernel_rfl)) (fun _ _ _ h => h) (Or.inl ⟨by rfl, ?_⟩) ?_ ?_
     pv_
     refine pure_ (i := 11) (N := some 16) (v := ?_) (a' := ?_) spec_l02Same.z12 rfl rfl (any_of HT_.out (by kernel_rfl)) (fun _ _ _ h => h) (Or.inl ⟨by rfl, ?_⟩) ?_ ?_
     pv_
     refine pure_ (i := 12) (N := some 17) (v := ?_) (a' := ?_) spec_l02Same.z13 rfl rfl (any_of HT_.out (by kernel_rfl)) (fun _ _ _ h => h) (Or.inl ⟨by rfl, ?_⟩) ?_ ?_
     pv_
     refine pure_ (i := 14) (N := some 19) (v := ?_) (a' := ?_) spec_l02Same.z14 rfl rfl (any_of HT_.out (by kernel_rfl)) (fun _ _ _ h => h) (Or.inl ⟨by rfl, ?_⟩) ?_ ?_
     pv_
     refine pure_ (i := 15) (N := some 20) (v := ?_) (a' := ?_) spec_l02Same.z15 rfl rfl (any_of HT_.out (by kernel_rfl)) (fun _ _ _ h => h) (Or.inl ⟨by rfl, ?_⟩) ?_ ?_
     pv_
     refine pure_ (i := 16) (N := some 21) (v := ?_) (a' := ?_) spec_l02Same.z16 rfl rfl (any_of HT_.out (by kernel_rfl)) (fun _ _ _ h => h) (Or.inl ⟨by rfl, ?_⟩) ?_ ?_
     pv_
     refine take_ (i := 13) (N := some 18) (v := ?_) (a' := ?_) spec_l02Same.z17 rfl rfl (take_ofW HT_.out HW_.out (by kernel_rfl)) (fun _ _ _ h => h) (Or.inl ⟨by rfl, ?_⟩) hHeld ?_ ?_
     rotate_left
     ·rintro w' ⟨s0, s1, s2, s3, s4, s5, s6, s7, s8, s9, s10, s11, s12, s13, s14, s15, s16, s17, s18, s19, s20, s21, s22, s23, s24, s25, s26, s27, s28, s29, s30, s31⟩
      go_simp
      with_reducible rfl
     rotate_left
     ·pw_
     refine take_ (i := 17) (N := some 22) (v := ?_) (a' := ?_) spec_l02Same.z18 rfl rfl (take_ofW HT_.out HW_.out (by kernel_rfl)) (fun _ _ _ h => h) (Or.inl ⟨by rfl, ?_⟩) hHeld ?_ ?_
     rotate_left
     ·rintro w' ⟨s0, s1, s2, s3, s4, s5, s6, s7, s8, s9, s10, s11, s12, s13, s14, s15, s16, s17, s18, s19, s20, s21, s22, s23, s24, s25, s26, s27, s28, s29, s30, s31⟩
      go_simp
      with_reducible rfl
     rotate_left
     ·pw_
     refine one_ (i := 18) (N := some 23) spec_l02Same.z19 rfl rfl (one_of HT_.out (by kernel_rfl)) (by decide) (fun K hK => ?_)
     refine goes_ Try.func163 (by kernel_rfl) rfl #[.float .f32 ((rd_T72 l0 0).f1), .float .f32 ((rd_T72 l1 0).f1)] (by rfl) rfl rfl (by (try simp only [List.map_toArray, List.map_cons, List.map_nil]); first | done | rfl | (simp only [List.length_drop, List.length_take]; rfl)) ?_
     with_reducible refine (spec_l01Same.calls ((rd_T72 l0 0).f1) ((rd_T72 l1 0).f1) false _ A7.out).mono ?_
     rintro e w' ⟨rfl, ⟨nd, rfl⟩⟩
     refine ⟨_, rfl, ?_⟩
     refine hK.out _ _ ⟨(cu_ HB.out hw127_0), (cu_ HB.out hw127_1), (cu_ HB.out hw127_2), (cu_ HB.out hw127_3), (cu_ HB.out hw128_0), (cu_ HB.out hw128_1), (cu_ HB.out hw128_2), (cu_ HB.out hw128_3), (cu_ HB.out hw129_0), (cu_ HB.out hw129_1), (cu_ HB.out hw129_2), (cu_ HB.out hw129_3), (cu_ HB.out hw130_0), (cu_ HB.out hw130_1), (cu_ HB.out hw130_2), (cu_ HB.out hw130_3), (cu_ HB.out hw132_0), (cu_ HB.out hw132_1), (cu_ HB.out hw132_2), (cu_ HB.out hw132_3), (cu_ HB.out hw133_0), (cu_ HB.out hw133_1), (cu_ HB.out hw133_2), (cu_ HB.out hw133_3), (cu_ HB.out hw134_0), (cu_ HB.out hw134_1), (cu_ HB.out hw134_2), (cu_ HB.out hw134_3), (cu_ HB.out hw135_0), (cu_ HB.out hw135_1), (cu_ HB.out hw135_2), (cu_ HB.out hw135_3)⟩ (fun hHeld => ?_)
     clear hK K
     refine norm_ (a' := ?_) ?_ ?_
     rotate_left
     ·show Act.put _ (some 23) _ = _
      pw_
     refine pure_ (i := 19) (N := some 24) (v := ?_) (a' := ?_) spec_l02Same.z20 rfl rfl (any_of HT_.out (by kernel_rfl)) (fun _ _ _ h => h) (Or.inl ⟨by rfl, ?_⟩) ?_ ?_
     pv_
     refine pure_ (i := 20) (N := some 25) (v := ?_) (a' := ?_) spec_l02Same.z21 rfl rfl (any_of HT_.out (by kernel_rfl)) (fun _ _ _ h => h) (Or.inl ⟨by rfl, ?_⟩) ?_ ?_
     pv_
     refine pure_ (i := 21) (N := some 26) (v := undef) (a' := ?_) spec_l02Same.z22 rfl rfl (any_of HT_.out (by kernel_rfl)) (fun _ _ _ h => h) (Or.inr ⟨by rfl, rfl⟩) ?_ ?_
     rotate_left
     ·pw_
     refine pure_ (i := 22) (N := some 27) (v := undef) (a' := ?_) spec_l02Same.z23 rfl rfl (any_of HT_.out (by kernel_rfl)) (fun _ _ _ h => h) (Or.inr ⟨by rfl, rfl⟩) ?_ ?_
     rotate_left
     ·pw_
     refine pure_ (i := 23) (N := some 28) (v := undef) (a' := ?_) spec_l02Same.z24 rfl rfl (any_of HT_.out (by kernel_rfl)) (fun _ _ _ h => h) (Or.inr ⟨by rfl, rfl⟩) ?_ ?_
     rotate_left
     ·pw_
     refine pure_ (i := 24) (N := some 29) (v := undef) (a' := ?_) spec_l02Same.z47 rfl rfl (any_of HT_.out (by kernel_rfl)) (fun _ _ _ h => h) (Or.inr ⟨by rfl, rfl⟩) ?_ ?_
     rotate_left
     ·pw_
     refine pure_ (i := 25) (N := some 30) (v := undef) (a' := ?_) spec_l02Same.z48 rfl rfl (any_of HT_.out (by kernel_rfl)) (fun _ _ _ h => h) (Or.inr ⟨by rfl, rfl⟩) ?_ ?_
     rotate_left
     ·pw_
     refine pure_ (i := 26) (N := some 31) (v := undef) (a' := ?_) spec_l02Same.z49 rfl rfl (any_of HT_.out (by kernel_rfl)) (fun _ _ _ h => h) (Or.inr ⟨by rfl, rfl⟩) ?_ ?_
     rotate_left
     ·pw_
     refine pure_ (i := 27) (N := some 32) (v := undef) (a' := ?_) spec_l02Same.z28 rfl rfl (any_of HT_.out (by kernel_rfl)) (fun _ _ _ h => h) (Or.inr ⟨by rfl, rfl⟩) ?_ ?_
     rotate_left
     ·pw_
     refine pure_ (i := 28) (N := some 33) (v := undef) (a' := ?_) spec_l02Same.z29 rfl rfl (any_of HT_.out (by kernel_rfl)) (fun _ _ _ h => h) (Or.inr ⟨by rfl, rfl⟩) ?_ ?_
     rotate_left
     ·pw_
     refine pure_ (i := 29) (N := some 34) (v := undef) (a' := ?_) spec_l02Same.z30 rfl rfl (any_of HT_.out (by kernel_rfl)) (fun _ _ _ h => h) (Or.inr ⟨by rfl, rfl⟩) ?_ ?_
     rotate_left
     ·pw_
     refine pure_ (i := 30) (N := some 35) (v := ?_) (a' := ?_) spec_l02Same.z31 rfl rfl (any_of HT_.out (by kernel_rfl)) (fun _ _ _ h => h) (Or.inl ⟨by rfl, ?_⟩) ?_ ?_
     pv_
     refine pure_ (i := 31) (N := some 36) (v := ?_) (a' := ?_) spec_l02Same.z32 rfl rfl (any_of HT_.out (by kernel_rfl)) (fun _ _ _ h => h) (Or.inl ⟨by rfl, ?_⟩) ?_ ?_
     pv_
     refine pure_ (i := 32) (N := some 37) (v := undef) (a' := ?_) spec_l02Same.z33 rfl rfl (any_of HT_.out (by kernel_rfl)) (fun _ _ _ h => h) (Or.inr ⟨by rfl, rfl⟩) ?_ ?_
     rotate_left
     ·pw_
     refine pure_ (i := 33) (N := some 38) (v := undef) (a' := ?_) spec_l02Same.z34 rfl rfl (any_of HT_.out (by kernel_rfl)) (fun _ _ _ h => h) (Or.inr ⟨by rfl, rfl⟩) ?_ ?_
     rotate_left
     ·pw_
     refine pure_ (i := 34) (N := some 39) (v := undef) (a' := ?_) spec_l02Same.z35 rfl rfl (any_of HT_.out (by kernel_rfl)) (fun _ _ _ h => h) (Or.inr ⟨by rfl, rfl⟩) ?_ ?_
     rotate_left
     ·pw_
     refine pure_ (i := 35) (N := some 40) (v := undef) (a' := ?_) spec_l02Same.z44 rfl rfl (any_of HT_.out (by kernel_rfl)) (fun _ _ _ h => h) (Or.inr ⟨by rfl, rfl⟩) ?_ ?_
     rotate_left
     ·pw_
     refine pure_ (i := 36) (N := some 41) (v := undef) (a' := ?_) spec_l02Same.z45 rfl rfl (any_of HT_.out (by kernel_rfl)) (fun _ _ _ h => h) (Or.inr ⟨by rfl, rfl⟩) ?_ ?_
     rotate_left
     ·pw_
     refine pure_ (i := 37) (N := some 42) (v := undef) (a' := ?_) spec_l02Same.z46 rfl rfl (any_of HT_.out (by kernel_rfl)) (fun _ _ _ h => h) (Or.inr ⟨by rfl, rfl⟩) ?_ ?_
     rotate_left
     ·pw_
     refine pure_ (i := 38) (N := some 43) (v := undef) (a' := ?_) spec_l02Same.z39 rfl rfl (any_of HT_.out (by kernel_rfl)) (fun _ _ _ h => h) (Or.inr ⟨by rfl, rfl⟩) ?_ ?_
     rotate_left
     ·pw_
     refine pure_ (i := 39) (N := some 44) (v := undef) (a' := ?_) spec_l02Same.z40 rfl rfl (any_of HT_.out (by kernel_rfl)) (fun _ _ _ h => h) (Or.inr ⟨by rfl, rfl⟩) ?_ ?_
     rotate_left
     ·pw_
     refine pure_ (i := 40) (N := some 45) (v := undef) (a' := ?_) spec_l02Same.z41 rfl rfl (any_of HT_.out (by kernel_rfl)) (fun _ _ _ h => h) (Or.inr ⟨by rfl, rfl⟩) ?_ ?_
     rotate_left
     ·pw_
     refine pure_ (i := 41) (N := some 46) (v := ?_) (a' := ?_) spec_l02Same.z42 rfl rfl (any_of HT_.out (by kernel_rfl)) (fun _ _ _ h => h) (Or.inl ⟨by rfl, ?_⟩) ?_ ?_
     pv_
     refine pure_ (i := 42) (N := some 4) (v := ?_) (a' := ?_) spec_l02Same.z43 rfl rfl (any_of HT_.out (by kernel_rfl)) (fun _ _ _ h => h) (Or.inl ⟨by rfl, ?_⟩) ?_ ?_
     pv_
     refine done_ (done_of HT_.out (by kernel_rfl)) ?_
     try go_wp2
     go_ret
     exact ⟨by first | rfl | (simp [errW_none, errW_some] <;> rfl) | (simp [*, errW_none, errW_some] <;> rfl), by repeat (first | (with_reducible first | exact HB.out | apply below_alloc | apply pw_below_drewN | apply below_drew1) | exact HB.out)⟩
   ·replace c6 := Bool.eq_false_iff.mpr c6
    subst c6
    have H1 : (some false) = some r := by rw [if_neg (show ¬ (false = true) by decide)] at H; exact H
    clear H
    have H := H1
    clear H1
    obtain rfl := Option.some.inj H
    go_enter Try.func121, Try.ntmps121
    try go_wp2
    have n0_ := Aside0.mk (below_drew1 HB.out)
    clear HB
    have HB := n0_
    clear n0_
    have p127 : 0 ≤ (0 : Int) := (by omega)
    have q127 : 0 < (l0.length : Int) := of_decide_eq_true (by first | (with_reducible assumption) | assumption)
    obtain ⟨ad127, A127_0, c127_0, e127, hx127_0, hx127_1, hx127_2, hx127_3, hl127_0, hi127_0⟩ := at_T72 HR0.out 0 p127 q127
    have hw127_3 := hx127_3
    (try rw [show ((0 : Int)).toNat = 0 from rfl] at hw127_3)
    (try rw [show 0 * 4 = 0 from rfl] at hw127_3)
    (try rw [Addr.add_zero'] at hw127_3)
    have hw127_2 := hx127_2
    (try rw [show ((0 : Int)).toNat = 0 from rfl] at hw127_2)
    (try rw [show 0 * 4 = 0 from rfl] at hw127_2)
    (try rw [Addr.add_zero'] at hw127_2)
    have hw127_1 := hx127_1
    (try rw [show ((0 : Int)).toNat = 0 from rfl] at hw127_1)
    (try rw [show 0 * 4 = 0 from rfl] at hw127_1)
    (try rw [Addr.add_zero'] at hw127_1)
    have hw127_0 := hx127_0
    (try rw [show ((0 : Int)).toNat = 0 from rfl] at hw127_0)
    (try rw [show 0 * 4 = 0 from rfl] at hw127_0)
    (try rw [Addr.add_zero'] at hw127_0)
    cases e127
    have qi127 : (0 < l0.length) = True := eq_true (by omega)
    (try rw [show ((0 : Int)).toNat = 0 from rfl] at hx127_0)
    (try rw [show 0 * 4 = 0 from rfl] at hx127_0)
    (try rw [Addr.add_zero'] at hx127_0)
    (try rw [show ((0 : Int)).toNat = 0 from rfl] at hx127_1)
    (try rw [show 0 * 4 = 0 from rfl] at hx127_1)
    (try rw [Addr.add_zero'] at hx127_1)
    (try rw [show ((0 : Int)).toNat = 0 from rfl] at hx127_2)
    (try rw [show 0 * 4 = 0 from rfl] at hx127_2)
    (try rw [Addr.add_zero'] at hx127_2)
    (try rw [show ((0 : Int)).toNat = 0 from rfl] at hx127_3)
    (try rw [show 0 * 4 = 0 from rfl] at hx127_3)
    (try rw [Addr.add_zero'] at hx127_3)
    replace hx127_0 := (HB.out.cell (World.block_lt_of_cell? w _ hx127_0)).trans hx127_0
    replace hx127_1 := (HB.out.cell (World.block_lt_of_cell? w _ hx127_1)).trans hx127_1
    replace hx127_2 := (HB.out.cell (World.block_lt_of_cell? w _ hx127_2)).trans hx127_2
    replace hx127_3 := (HB.out.cell (World.block_lt_of_cell? w _ hx127_3)).trans hx127_3
    have HR127_0 := Aside0.mk hi127_0
    have HC127_0 := Aside0.mk hl127_0
    clear hi127_0 hl127_0
    replace p127 := eq_true p127
    replace q127 := eq_true q127
    have p128 : 0 ≤ (0 : Int) := (by omega)
    have q128 : 0 < (l0.length : Int) := of_decide_eq_true (by first | (with_reducible assumption) | assumption)
    obtain ⟨ad128, A128_0, c128_0, e128, hx128_0, hx128_1, hx128_2, hx128_3, hl128_0, hi128_0⟩ := at_T72 HR0.out 0 p128 q128
    have hw128_3 := hx128_3
    (try rw [show ((0 : Int)).toNat = 0 from rfl] at hw128_3)
    (try rw [show 0 * 4 = 0 from rfl] at hw128_3)
    (try rw [Addr.add_zero'] at hw128_3)
    have hw128_2 := hx128_2
    (try rw [show ((0 : Int)).toNat = 0 from rfl] at hw128_2)
    (try rw [show 0 * 4 = 0 from rfl] at hw128_2)
    (try rw [Addr.add_zero'] at hw128_2)
    have hw128_1 := hx128_1
    (try rw [show ((0 : Int)).toNat = 0 from rfl] at hw128_1)
    (try rw [show 0 * 4 = 0 from rfl] at hw128_1)
    (try rw [Addr.add_zero'] at hw128_1)
    have hw128_0 := hx128_0
    (try rw [show ((0 : Int)).toNat = 0 from rfl] at hw128_0)
    (try rw [show 0 * 4 = 0 from rfl] at hw128_0)
    (try rw [Addr.add_zero'] at hw128_0)
    obtain rfl : ad127 = ad128 := (by injection e128)
    have qi128 : (0 < l0.length) = True := eq_true (by omega)
    (try rw [show ((0 : Int)).toNat = 0 from rfl] at hx128_0)
    (try rw [show 0 * 4 = 0 from rfl] at hx128_0)
    (try rw [Addr.add_zero'] at hx128_0)
    (try rw [show ((0 : Int)).toNat = 0 from rfl] at hx128_1)
    (try rw [show 0 * 4 = 0 from rfl] at hx128_1)
    (try rw [Addr.add_zero'] at hx128_1)
    (try rw [show ((0 : Int)).toNat = 0 from rfl] at hx128_2)
    (try rw [show 0 * 4 = 0 from rfl] at hx128_2)
    (try rw [Addr.add_zero'] at hx128_2)
    (try rw [show ((0 : Int)).toNat = 0 from rfl] at hx128_3)
    (try rw [show 0 * 4 = 0 from rfl] at hx128_3)
    (try rw [Addr.add_zero'] at hx128_3)
    replace hx128_0 := (HB.out.cell (World.block_lt_of_cell? w _ hx128_0)).trans hx128_0
    replace hx128_1 := (HB.out.cell (World.block_lt_of_cell? w _ hx128_1)).trans hx128_1
    replace hx128_2 := (HB.out.cell (World.block_lt_of_cell? w _ hx128_2)).trans hx128_2
    replace hx128_3 := (HB.out.cell (World.block_lt_of_cell? w _ hx128_3)).trans hx128_3
    have HR128_0 := Aside0.mk hi128_0
    have HC128_0 := Aside0.mk hl128_0
    clear hi128_0 hl128_0
    replace p128 := eq_true p128
    replace q128 := eq_true q128
    have ea_ := Option.some.inj (hx127_0.symm.trans hx128_0)
    injection ea_ with ea_ en_ ec_
    subst ea_
    subst ec_
    clear en_
    have p129 : 0 ≤ (0 : Int) := (by omega)
    have q129 : 0 < (l1.length : Int) := of_decide_eq_true (by first | (with_reducible assumption) | assumption)
    obtain ⟨ad129, A129_0, c129_0, e129, hx129_0, hx129_1, hx129_2, hx129_3, hl129_0, hi129_0⟩ := at_T72 HR1.out 0 p129 q129
    have hw129_3 := hx129_3
    (try rw [show ((0 : Int)).toNat = 0 from rfl] at hw129_3)
    (try rw [show 0 * 4 = 0 from rfl] at hw129_3)
    (try rw [Addr.add_zero'] at hw129_3)
    have hw129_2 := hx129_2
    (try rw [show ((0 : Int)).toNat = 0 from rfl] at hw129_2)
    (try rw [show 0 * 4 = 0 from rfl] at hw129_2)
    (try rw [Addr.add_zero'] at hw129_2)
    have hw129_1 := hx129_1
    (try rw [show ((0 : Int)).toNat = 0 from rfl] at hw129_1)
    (try rw [show 0 * 4 = 0 from rfl] at hw129_1)
    (try rw [Addr.add_zero'] at hw129_1)
    have hw129_0 := hx129_0
    (try rw [show ((0 : Int)).toNat = 0 from rfl] at hw129_0)
    (try rw [show 0 * 4 = 0 from rfl] at hw129_0)
    (try rw [Addr.add_zero'] at hw129_0)
    cases e129
    have qi129 : (0 < l1.length) = True := eq_true (by omega)
    (try rw [show ((0 : Int)).toNat = 0 from rfl] at hx129_0)
    (try rw [show 0 * 4 = 0 from rfl] at hx129_0)
    (try rw [Addr.add_zero'] at hx129_0)
    (try rw [show ((0 : Int)).toNat = 0 from rfl] at hx129_1)
    (try rw [show 0 * 4 = 0 from rfl] at hx129_1)
    (try rw [Addr.add_zero'] at hx129_1)
    (try rw [show ((0 : Int)).toNat = 0 from rfl] at hx129_2)
    (try rw [show 0 * 4 = 0 from rfl] at hx129_2)
    (try rw [Addr.add_zero'] at hx129_2)
    (try rw [show ((0 : Int)).toNat = 0 from rfl] at hx129_3)
    (try rw [show 0 * 4 = 0 from rfl] at hx129_3)
    (try rw [Addr.add_zero'] at hx129_3)
    replace hx129_0 := (HB.out.cell (World.block_lt_of_cell? w _ hx129_0)).trans hx129_0
    replace hx129_1 := (HB.out.cell (World.block_lt_of_cell? w _ hx129_1)).trans hx129_1
    replace hx129_2 := (HB.out.cell (World.block_lt_of_cell? w _ hx129_2)).trans hx129_2
    replace hx129_3 := (HB.out.cell (World.block_lt_of_cell? w _ hx129_3)).trans hx129_3
    have HR129_0 := Aside0.mk hi129_0
    have HC129_0 := Aside0.mk hl129_0
    clear hi129_0 hl129_0
    replace p129 := eq_true p129
    replace q129 := eq_true q129
    have p130 : 0 ≤ (0 : Int) := (by omega)
    have q130 : 0 < (l1.length : Int) := of_decide_eq_true (by first | (with_reducible assumption) | assumption)
    obtain ⟨ad130, A130_0, c130_0, e130, hx130_0, hx130_1, hx130_2, hx130_3, hl130_0, hi130_0⟩ := at_T72 HR1.out 0 p130 q130
    have hw130_3 := hx130_3
    (try rw [show ((0 : Int)).toNat = 0 from rfl] at hw130_3)
    (try rw [show 0 * 4 = 0 from rfl] at hw130_3)
    (try rw [Addr.add_zero'] at hw130_3)
    have hw130_2 := hx130_2
    (try rw [show ((0 : Int)).toNat = 0 from rfl] at hw130_2)
    (try rw [show 0 * 4 = 0 from rfl] at hw130_2)
    (try rw [Addr.add_zero'] at hw130_2)
    have hw130_1 := hx130_1
    (try rw [show ((0 : Int)).toNat = 0 from rfl] at hw130_1)
    (try rw [show 0 * 4 = 0 from rfl] at hw130_1)
    (try rw [Addr.add_zero'] at hw130_1)
    have hw130_0 := hx130_0
    (try rw [show ((0 : Int)).toNat = 0 from rfl] at hw130_0)
    (try rw [show 0 * 4 = 0 from rfl] at hw130_0)
    (try rw [Addr.add_zero'] at hw130_0)
    obtain rfl : ad129 = ad130 := (by injection e130)
    have qi130 : (0 < l1.length) = True := eq_true (by omega)
    (try rw [show ((0 : Int)).toNat = 0 from rfl] at hx130_0)
    (try rw [show 0 * 4 = 0 from rfl] at hx130_0)
    (try rw [Addr.add_zero'] at hx130_0)
    (try rw [show ((0 : Int)).toNat = 0 from rfl] at hx130_1)
    (try rw [show 0 * 4 = 0 from rfl] at hx130_1)
    (try rw [Addr.add_zero'] at hx130_1)
    (try rw [show ((0 : Int)).toNat = 0 from rfl] at hx130_2)
    (try rw [show 0 * 4 = 0 from rfl] at hx130_2)
    (try rw [Addr.add_zero'] at hx130_2)
    (try rw [show ((0 : Int)).toNat = 0 from rfl] at hx130_3)
    (try rw [show 0 * 4 = 0 from rfl] at hx130_3)
    (try rw [Addr.add_zero'] at hx130_3)
    replace hx130_0 := (HB.out.cell (World.block_lt_of_cell? w _ hx130_0)).trans hx130_0
    replace hx130_1 := (HB.out.cell (World.block_lt_of_cell? w _ hx130_1)).trans hx130_1
    replace hx130_2 := (HB.out.cell (World.block_lt_of_cell? w _ hx130_2)).trans hx130_2
    replace hx130_3 := (HB.out.cell (World.block_lt_of_cell? w _ hx130_3)).trans hx130_3
    have HR130_0 := Aside0.mk hi130_0
    have HC130_0 := Aside0.mk hl130_0
    clear hi130_0 hl130_0
    replace p130 := eq_true p130
    replace q130 := eq_true q130
    have ea_ := Option.some.inj (hx129_0.symm.trans hx130_0)
    injection ea_ with ea_ en_ ec_
    subst ea_
    subst ec_
    clear en_
    refine start_ (n := 43) (S := fun w' => w'.cell? ad127 = some (.slice A127_0 ((rd_T72 l0 0).f0).length c127_0) ∧ w'.cell? ⟨ad127.block, ad127.off + 1, none⟩ = some (.float .f32 ((rd_T72 l0 0).f1)) ∧ w'.cell? ⟨ad127.block, ad127.off + 2, none⟩ = some (.float .f32 ((rd_T72 l0 0).f2)) ∧ w'.cell? ⟨ad127.block, ad127.off + 3, none⟩ = some (.float .f32 ((rd_T72 l0 0).f3)) ∧ w'.cell? ad127 = some (.slice A127_0 ((rd_T72 l0 0).f0).length c127_0) ∧ w'.cell? ⟨ad127.block, ad127.off + 1, none⟩ = some (.float .f32 ((rd_T72 l0 0).f1)) ∧ w'.cell? ⟨ad127.block, ad127.off + 2, none⟩ = some (.float .f32 ((rd_T72 l0 0).f2)) ∧ w'.cell? ⟨ad127.block, ad127.off + 3, none⟩ = some (.float .f32 ((rd_T72 l0 0).f3)) ∧ w'.cell? ad129 = some (.slice A129_0 ((rd_T72 l1 0).f0).length c129_0) ∧ w'.cell? ⟨ad129.block, ad129.off + 1, none⟩ = some (.float .f32 ((rd_T72 l1 0).f1)) ∧ w'.cell? ⟨ad129.block, ad129.off + 2, none⟩ = some (.float .f32 ((rd_T72 l1 0).f2)) ∧ w'.cell? ⟨ad129.block, ad129.off + 3, none⟩ = some (.float .f32 ((rd_T72 l1 0).f3)) ∧ w'.cell? ad129 = some (.slice A129_0 ((rd_T72 l1 0).f0).length c129_0) ∧ w'.cell? ⟨ad129.block, ad129.off + 1, none⟩ = some (.float .f32 ((rd_T72 l1 0).f1)) ∧ w'.cell? ⟨ad129.block, ad129.off + 2, none⟩ = some (.float .f32 ((rd_T72 l1 0).f2)) ∧ w'.cell? ⟨ad129.block, ad129.off + 3, none⟩ = some (.float .f32 ((rd_T72 l1 0).f3))) (ds := []) spec_l02Same.z0 (by kernel_rfl) rfl rfl ⟨(cu_ HB.out hw127_0), (cu_ HB.out hw127_1), (cu_ HB.out hw127_2), (cu_ HB.out hw127_3), (cu_ HB.out hw128_0), (cu_ HB.out hw128_1), (cu_ HB.out hw128_2), (cu_ HB.out hw128_3), (cu_ HB.out hw129_0), (cu_ HB.out hw129_1), (cu_ HB.out hw129_2), (cu_ HB.out hw129_3), (cu_ HB.out hw130_0), (cu_ HB.out hw130_1), (cu_ HB.out hw130_2), (cu_ HB.out hw130_3)⟩ (fun hHeld => ?_); refine with_tabW spec_l02Same.tab1 spec_l02Same.bits1 (fun HT_ HW_ => ?_)
    generalize w.drew = w15 at HB HR127_0 HR128_0 HR129_0 HR130_0 hx127_0 hx127_1 hx127_2 hx127_3 hx128_0 hx128_1 hx128_2 hx128_3 hx129_0 hx129_1 hx129_2 hx129_3 hx130_0 hx130_1 hx130_2 hx130_3 hHeld ⊢
    refine pure_ (i := 0) (N := some 5) (v := ?_) (a' := ?_) spec_l02Same.z1 rfl rfl (any_of HT_.out (by kernel_rfl)) (fun _ _ _ h => h) (Or.inl ⟨by rfl, ?_⟩) ?_ ?_
    pv_
    refine pure_ (i := 1) (N := some 6) (v := ?_) (a' := ?_) spec_l02Same.z2 rfl rfl (any_of HT_.out (by kernel_rfl)) (fun _ _ _ h => h) (Or.inl ⟨by rfl, ?_⟩) ?_ ?_
    pv_
    refine pure_ (i := 2) (N := some 7) (v := ?_) (a' := ?_) spec_l02Same.z3 rfl rfl (any_of HT_.out (by kernel_rfl)) (fun _ _ _ h => h) (Or.inl ⟨by rfl, ?_⟩) ?_ ?_
    pv_
    refine pure_ (i := 4) (N := some 9) (v := ?_) (a' := ?_) spec_l02Same.z4 rfl rfl (any_of HT_.out (by kernel_rfl)) (fun _ _ _ h => h) (Or.inl ⟨by rfl, ?_⟩) ?_ ?_
    pv_
    refine pure_ (i := 5) (N := some 10) (v := ?_) (a' := ?_) spec_l02Same.z5 rfl rfl (any_of HT_.out (by kernel_rfl)) (fun _ _ _ h => h) (Or.inl ⟨by rfl, ?_⟩) ?_ ?_
    pv_
    refine pure_ (i := 6) (N := some 11) (v := ?_) (a' := ?_) spec_l02Same.z6 rfl rfl (any_of HT_.out (by kernel_rfl)) (fun _ _ _ h => h) (Or.inl ⟨by rfl, ?_⟩) ?_ ?_
    pv_
    refine take_ (i := 3) (N := some 8) (v := ?_) (a' := ?_) spec_l02Same.z7 rfl rfl (take_ofW HT_.out HW_.out (by kernel_rfl)) (fun _ _ _ h => h) (Or.inl ⟨by rfl, ?_⟩) hHeld ?_ ?_
    rotate_left
    ·rintro w' ⟨s0, s1, s2, s3, s4, s5, s6, s7, s8, s9, s10, s11, s12, s13, s14, s15⟩
     go_simp
     with_reducible rfl
    rotate_left
    ·pw_
    refine take_ (i := 7) (N := some 12) (v := ?_) (a' := ?_) spec_l02Same.z8 rfl rfl (take_ofW HT_.out HW_.out (by kernel_rfl)) (fun _ _ _ h => h) (Or.inl ⟨by rfl, ?_⟩) hHeld ?_ ?_
    rotate_left
    ·rintro w' ⟨s0, s1, s2, s3, s4, s5, s6, s7, s8, s9, s10, s11, s12, s13, s14, s15⟩
     go_simp
     with_reducible rfl
    rotate_left
    ·pw_
    refine one_ (i := 8) (N := some 13) spec_l02Same.z9 rfl rfl (one_of HT_.out (by kernel_rfl)) (by decide) (fun K hK => ?_)
    refine goes_ Try.func176 (by kernel_rfl) rfl #[.slice A127_0 ((rd_T72 l0 0).f0).length c127_0, .slice A129_0 ((rd_T72 l1 0).f0).length c129_0] (by rfl) rfl rfl (by (try simp only [List.map_toArray, List.map_cons, List.map_nil]); first | done | rfl | (simp only [List.length_drop, List.length_take]; rfl)) ?_
    with_reducible refine (spec_l01SameAll.calls k _ _ ((rd_T72 l0 0).f0) _ _ ((rd_T72 l1 0).f0) false _ ?side1 ?side2 ?side3 ?side4 A5.out).mono ?_
    (case side1 => repeat (first | exact (Kd.C_below HR128_0.out HB.out) | (with_reducible refine Kd.C_alloc ?_ _) | (with_reducible refine Kd.C_drewN ?_ _) | (with_reducible refine Kd.C_drew ?_)))
    (case side2 => exact HC128_0.out)
    (case side3 => repeat (first | exact (Kd.C_below HR130_0.out HB.out) | (with_reducible refine Kd.C_alloc ?_ _) | (with_reducible refine Kd.C_drewN ?_ _) | (with_reducible refine Kd.C_drew ?_)))
    (case side4 => exact HC130_0.out)
    rintro e w' ⟨rfl, ⟨nd, rfl⟩⟩
    refine ⟨_, rfl, ?_⟩
    refine hK.out _ _ ⟨(cu_ HB.out hw127_0), (cu_ HB.out hw127_1), (cu_ HB.out hw127_2), (cu_ HB.out hw127_3), (cu_ HB.out hw128_0), (cu_ HB.out hw128_1), (cu_ HB.out hw128_2), (cu_ HB.out hw128_3), (cu_ HB.out hw129_0), (cu_ HB.out hw129_1), (cu_ HB.out hw129_2), (cu_ HB.out hw129_3), (cu_ HB.out hw130_0), (cu_ HB.out hw130_1), (cu_ HB.out hw130_2), (cu_ HB.out hw130_3)⟩ (fun hHeld => ?_)
    clear hK K
    refine norm_ (a' := ?_) ?_ ?_
    rotate_left
    ·show Act.put _ (some 13) _ = _
     pw_
    refine pure_ (i := 9) (N := some 14) (v := ?_) (a' := ?_) spec_l02Same.z10 rfl rfl (any_of HT_.out (by kernel_rfl)) (fun _ _ _ h => h) (Or.inl ⟨by rfl, ?_⟩) ?_ ?_
    pv_
    refine pure_ (i := 10) (N := some 15) (v := undef) (a' := ?_) spec_l02Same.z11 rfl rfl (any_of HT_.out (by kernel_rfl)) (fun _ _ _ h => h) (Or.inr ⟨by rfl, rfl⟩) ?_ ?_
    rotate_left
    ·pw_
    refine pure_ (i := 11) (N := some 16) (v := undef) (a' := ?_) spec_l02Same.z12 rfl rfl (any_of HT_.out (by kernel_rfl)) (fun _ _ _ h => h) (Or.inr ⟨by rfl, rfl⟩) ?_ ?_
    rotate_left
    ·pw_
    refine pure_ (i := 12) (N := some 17) (v := undef) (a' := ?_) spec_l02Same.z13 rfl rfl (any_of HT_.out (by kernel_rfl)) (fun _ _ _ h => h) (Or.inr ⟨by rfl, rfl⟩) ?_ ?_
    rotate_left
    ·pw_
    refine pure_ (i := 13) (N := some 18) (v := undef) (a' := ?_) spec_l02Same.z50 rfl rfl (any_of HT_.out (by kernel_rfl)) (fun _ _ _ h => h) (Or.inr ⟨by rfl, rfl⟩) ?_ ?_
    rotate_left
    ·pw_
    refine pure_ (i := 14) (N := some 19) (v := undef) (a' := ?_) spec_l02Same.z51 rfl rfl (any_of HT_.out (by kernel_rfl)) (fun _ _ _ h => h) (Or.inr ⟨by rfl, rfl⟩) ?_ ?_
    rotate_left
    ·pw_
    refine pure_ (i := 15) (N := some 20) (v := undef) (a' := ?_) spec_l02Same.z52 rfl rfl (any_of HT_.out (by kernel_rfl)) (fun _ _ _ h => h) (Or.inr ⟨by rfl, rfl⟩) ?_ ?_
    rotate_left
    ·pw_
    refine pure_ (i := 16) (N := some 21) (v := undef) (a' := ?_) spec_l02Same.z17 rfl rfl (any_of HT_.out (by kernel_rfl)) (fun _ _ _ h => h) (Or.inr ⟨by rfl, rfl⟩) ?_ ?_
    rotate_left
    ·pw_
    refine pure_ (i := 17) (N := some 22) (v := undef) (a' := ?_) spec_l02Same.z18 rfl rfl (any_of HT_.out (by kernel_rfl)) (fun _ _ _ h => h) (Or.inr ⟨by rfl, rfl⟩) ?_ ?_
    rotate_left
    ·pw_
    refine pure_ (i := 18) (N := some 23) (v := undef) (a' := ?_) spec_l02Same.z19 rfl rfl (any_of HT_.out (by kernel_rfl)) (fun _ _ _ h => h) (Or.inr ⟨by rfl, rfl⟩) ?_ ?_
    rotate_left
    ·pw_
    refine pure_ (i := 19) (N := some 24) (v := ?_) (a' := ?_) spec_l02Same.z20 rfl rfl (any_of HT_.out (by kernel_rfl)) (fun _ _ _ h => h) (Or.inl ⟨by rfl, ?_⟩) ?_ ?_
    pv_
    refine pure_ (i := 20) (N := some 25) (v := ?_) (a' := ?_) spec_l02Same.z21 rfl rfl (any_of HT_.out (by kernel_rfl)) (fun _ _ _ h => h) (Or.inl ⟨by rfl, ?_⟩) ?_ ?_
    pv_
    refine pure_ (i := 21) (N := some 26) (v := undef) (a' := ?_) spec_l02Same.z22 rfl rfl (any_of HT_.out (by kernel_rfl)) (fun _ _ _ h => h) (Or.inr ⟨by rfl, rfl⟩) ?_ ?_
    rotate_left
    ·pw_
    refine pure_ (i := 22) (N := some 27) (v := undef) (a' := ?_) spec_l02Same.z23 rfl rfl (any_of HT_.out (by kernel_rfl)) (fun _ _ _ h => h) (Or.inr ⟨by rfl, rfl⟩) ?_ ?_
    rotate_left
    ·pw_
    refine pure_ (i := 23) (N := some 28) (v := undef) (a' := ?_) spec_l02Same.z24 rfl rfl (any_of HT_.out (by kernel_rfl)) (fun _ _ _ h => h) (Or.inr ⟨by rfl, rfl⟩) ?_ ?_
    rotate_left
    ·pw_
    refine pure_ (i := 24) (N := some 29) (v := undef) (a' := ?_) spec_l02Same.z47 rfl rfl (any_of HT_.out (by kernel_rfl)) (fun _ _ _ h => h) (Or.inr ⟨by rfl, rfl⟩) ?_ ?_
    rotate_left
    ·pw_
    refine pure_ (i := 25) (N := some 30) (v := undef) (a' := ?_) spec_l02Same.z48 rfl rfl (any_of HT_.out (by kernel_rfl)) (fun _ _ _ h => h) (Or.inr ⟨by rfl, rfl⟩) ?_ ?_
    rotate_left
    ·pw_
    refine pure_ (i := 26) (N := some 31) (v := undef) (a' := ?_) spec_l02Same.z49 rfl rfl (any_of HT_.out (by kernel_rfl)) (fun _ _ _ h => h) (Or.inr ⟨by rfl, rfl⟩) ?_ ?_
    rotate_left
    ·pw_
    refine pure_ (i := 27) (N := some 32) (v := undef) (a' := ?_) spec_l02Same.z28 rfl rfl (any_of HT_.out (by kernel_rfl)) (fun _ _ _ h => h) (Or.inr ⟨by rfl, rfl⟩) ?_ ?_
    rotate_left
    ·pw_
    refine pure_ (i := 28) (N := some 33) (v := undef) (a' := ?_) spec_l02Same.z29 rfl rfl (any_of HT_.out (by kernel_rfl)) (fun _ _ _ h => h) (Or.inr ⟨by rfl, rfl⟩) ?_ ?_
    rotate_left
    ·pw_
    refine pure_ (i := 29) (N := some 34) (v := undef) (a' := ?_) spec_l02Same.z30 rfl rfl (any_of HT_.out (by kernel_rfl)) (fun _ _ _ h => h) (Or.inr ⟨by rfl, rfl⟩) ?_ ?_
    rotate_left
    ·pw_
    refine pure_ (i := 30) (N := some 35) (v := ?_) (a' := ?_) spec_l02Same.z31 rfl rfl (any_of HT_.out (by kernel_rfl)) (fun _ _ _ h => h) (Or.inl ⟨by rfl, ?_⟩) ?_ ?_
    pv_
    refine pure_ (i := 31) (N := some 36) (v := ?_) (a' := ?_) spec_l02Same.z32 rfl rfl (any_of HT_.out (by kernel_rfl)) (fun _ _ _ h => h) (Or.inl ⟨by rfl, ?_⟩) ?_ ?_
    pv_
    refine pure_ (i := 32) (N := some 37) (v := undef) (a' := ?_) spec_l02Same.z33 rfl rfl (any_of HT_.out (by kernel_rfl)) (fun _ _ _ h => h) (Or.inr ⟨by rfl, rfl⟩) ?_ ?_
    rotate_left
    ·pw_
    refine pure_ (i := 33) (N := some 38) (v := undef) (a' := ?_) spec_l02Same.z34 rfl rfl (any_of HT_.out (by kernel_rfl)) (fun _ _ _ h => h) (Or.inr ⟨by rfl, rfl⟩) ?_ ?_
    rotate_left
    ·pw_
    refine pure_ (i := 34) (N := some 39) (v := undef) (a' := ?_) spec_l02Same.z35 rfl rfl (any_of HT_.out (by kernel_rfl)) (fun _ _ _ h => h) (Or.inr ⟨by rfl, rfl⟩) ?_ ?_
    rotate_left
    ·pw_
    refine pure_ (i := 35) (N := some 40) (v := undef) (a' := ?_) spec_l02Same.z44 rfl rfl (any_of HT_.out (by kernel_rfl)) (fun _ _ _ h => h) (Or.inr ⟨by rfl, rfl⟩) ?_ ?_
    rotate_left
    ·pw_
    refine pure_ (i := 36) (N := some 41) (v := undef) (a' := ?_) spec_l02Same.z45 rfl rfl (any_of HT_.out (by kernel_rfl)) (fun _ _ _ h => h) (Or.inr ⟨by rfl, rfl⟩) ?_ ?_
    rotate_left
    ·pw_
    refine pure_ (i := 37) (N := some 42) (v := undef) (a' := ?_) spec_l02Same.z46 rfl rfl (any_of HT_.out (by kernel_rfl)) (fun _ _ _ h => h) (Or.inr ⟨by rfl, rfl⟩) ?_ ?_
    rotate_left
    ·pw_
    refine pure_ (i := 38) (N := some 43) (v := undef) (a' := ?_) spec_l02Same.z39 rfl rfl (any_of HT_.out (by kernel_rfl)) (fun _ _ _ h => h) (Or.inr ⟨by rfl, rfl⟩) ?_ ?_
    rotate_left
    ·pw_
    refine pure_ (i := 39) (N := some 44) (v := undef) (a' := ?_) spec_l02Same.z40 rfl rfl (any_of HT_.out (by kernel_rfl)) (fun _ _ _ h => h) (Or.inr ⟨by rfl, rfl⟩) ?_ ?_
    rotate_left
    ·pw_
    refine pure_ (i := 40) (N := some 45) (v := undef) (a' := ?_) spec_l02Same.z41 rfl rfl (any_of HT_.out (by kernel_rfl)) (fun _ _ _ h => h) (Or.inr ⟨by rfl, rfl⟩) ?_ ?_
    rotate_left
    ·pw_
    refine pure_ (i := 41) (N := some 46) (v := ?_) (a' := ?_) spec_l02Same.z42 rfl rfl (any_of HT_.out (by kernel_rfl)) (fun _ _ _ h => h) (Or.inl ⟨by rfl, ?_⟩) ?_ ?_
    pv_
    refine pure_ (i := 42) (N := some 4) (v := ?_) (a' := ?_) spec_l02Same.z43 rfl rfl (any_of HT_.out (by kernel_rfl)) (fun _ _ _ h => h) (Or.inl ⟨by rfl, ?_⟩) ?_ ?_
    pv_
    refine done_ (done_of HT_.out (by kernel_rfl)) ?_
    try go_wp2
    go_ret
    exact ⟨by first | rfl | (simp [errW_none, errW_some] <;> rfl) | (simp [*, errW_none, errW_some] <;> rfl), by repeat (first | (with_reducible first | exact HB.out | apply below_alloc | apply pw_below_drewN | apply below_drew1) | exact HB.out)⟩
  ·rw [if_neg c4] at H
   exact absurd H (by simp)
 ·rw [if_neg c3] at H
  exact absurd H (by simp)
end Go.Proofs.Ytoiaojdkgagblaa.PFnExactSameDesk
