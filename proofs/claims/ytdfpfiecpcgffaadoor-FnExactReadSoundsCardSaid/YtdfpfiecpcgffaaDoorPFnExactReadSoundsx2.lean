import Derived.Test.YtdfpfiecpcgffaaDoorPFnExactReadSoundsx0
import Derived.Test.YtdfpfiecpcgffaaDoorPFnExactReadSoundsx1
namespace Go.Proofs.YtdfpfiecpcgffaaDoor.PFnExactReadSounds
open Go.RowKit Go.Proofs.YtdfpfiecpcgffaaDoorW.PrintWords Go.Proofs.YtdfpfiecpcgffaaDoorW.PrintLast Go.Proofs.YtdfpfiecpcgffaaDoorW.PrintMore
open Go.Proofs.YtdfpfiecpcgffaaDoorW.PrintFl
attribute [local go_sem high] binOp_feq binOp_fne binOp_fls binOp_fle binOp_fgr binOp_fge binOp_sle binOp_sgt
attribute [local go_sem] run_fopr run_fconv run_fint run_stf run_stc ext_f32bits ext_f32frombits
attribute [local go_sem] max2_int min2_int max_two min_two max_three min_three max_four min_four
set_option linter.unusedVariables false
set_option linter.unusedSimpArgs false
abbrev spec_l06Are.z0 : Array Bool := #[false, false, false, false, false, false, false, false, false, false, false, false, false, false, false, false, false, false, false, false, false, false, false, false, false, false, false, false, false, false, false, false, false, false, false, false, false]
abbrev spec_l06Are.z1 : Array Bool := #[true, false, false, false, false, false, false, false, false, false, false, false, false, false, false, false, false, false, false, false, false, false, false, false, false, false, false, false, false, false, false, false, false, false, false, false, false]
abbrev spec_l06Are.z2 : Array Bool := #[true, true, false, false, false, false, false, false, false, false, false, false, false, false, false, false, false, false, false, false, false, false, false, false, false, false, false, false, false, false, false, false, false, false, false, false, false]
abbrev spec_l06Are.z3 : Array Bool := #[true, true, true, false, false, false, false, false, false, false, false, false, false, false, false, false, false, false, false, false, false, false, false, false, false, false, false, false, false, false, false, false, false, false, false, false, false]
abbrev spec_l06Are.z4 : Array Bool := #[true, true, true, true, false, false, false, false, false, false, false, false, false, false, false, false, false, false, false, false, false, false, false, false, false, false, false, false, false, false, false, false, false, false, false, false, false]
abbrev spec_l06Are.z5 : Array Bool := #[true, true, true, true, true, false, false, false, false, false, false, false, false, false, false, false, false, false, false, false, false, false, false, false, false, false, false, false, false, false, false, false, false, false, false, false, false]
abbrev spec_l06Are.z6 : Array Bool := #[true, true, true, true, true, true, false, false, false, false, false, false, false, false, false, false, false, false, false, false, false, false, false, false, false, false, false, false, false, false, false, false, false, false, false, false, false]
abbrev spec_l06Are.z7 : Array Bool := #[true, true, true, true, true, true, true, false, false, false, false, false, false, false, false, false, false, false, false, false, false, false, false, false, false, false, false, false, false, false, false, false, false, false, false, false, false]
abbrev spec_l06Are.z8 : Array Bool := #[true, true, true, true, true, true, true, true, false, false, false, false, false, false, false, false, false, false, false, false, false, false, false, false, false, false, false, false, false, false, false, false, false, false, false, false, false]
abbrev spec_l06Are.z9 : Array Bool := #[true, true, true, true, true, true, true, true, true, false, false, false, false, false, false, false, false, false, false, false, false, false, false, false, false, false, false, false, false, false, false, false, false, false, false, false, false]
abbrev spec_l06Are.z10 : Array Bool := #[true, true, true, true, true, true, true, true, true, true, false, false, false, false, false, false, false, false, false, false, false, false, false, false, false, false, false, false, false, false, false, false, false, false, false, false, false]
abbrev spec_l06Are.z11 : Array Bool := #[true, true, true, true, true, true, true, true, true, true, false, false, true, false, false, false, false, false, false, false, false, false, false, false, false, false, false, false, false, false, false, false, false, false, false, false, false]
abbrev spec_l06Are.z12 : Array Bool := #[true, true, true, true, true, true, true, true, true, true, false, false, true, true, false, false, false, false, false, false, false, false, false, false, false, false, false, false, false, false, false, false, false, false, false, false, false]
abbrev spec_l06Are.z13 : Array Bool := #[true, true, true, true, true, true, true, true, true, true, false, false, true, true, true, false, false, false, false, false, false, false, false, false, false, false, false, false, false, false, false, false, false, false, false, false, false]
abbrev spec_l06Are.z14 : Array Bool := #[true, true, true, true, true, true, true, true, true, true, true, false, true, true, true, false, false, false, false, false, false, false, false, false, false, false, false, false, false, false, false, false, false, false, false, false, false]
abbrev spec_l06Are.z15 : Array Bool := #[true, true, true, true, true, true, true, true, true, true, true, true, true, true, true, false, false, false, false, false, false, false, false, false, false, false, false, false, false, false, false, false, false, false, false, false, false]
abbrev spec_l06Are.z16 : Array Bool := #[true, true, true, true, true, true, true, true, true, true, true, true, true, true, true, true, false, false, false, false, false, false, false, false, false, false, false, false, false, false, false, false, false, false, false, false, false]
abbrev spec_l06Are.z17 : Array Bool := #[true, true, true, true, true, true, true, true, true, true, true, true, true, true, true, true, true, false, false, false, false, false, false, false, false, false, false, false, false, false, false, false, false, false, false, false, false]
abbrev spec_l06Are.z18 : Array Bool := #[true, true, true, true, true, true, true, true, true, true, true, true, true, true, true, true, true, true, false, false, false, false, false, false, false, false, false, false, false, false, false, false, false, false, false, false, false]
abbrev spec_l06Are.z19 : Array Bool := #[true, true, true, true, true, true, true, true, true, true, true, true, true, true, true, true, true, true, true, false, false, false, false, false, false, false, false, false, false, false, false, false, false, false, false, false, false]
abbrev spec_l06Are.z20 : Array Bool := #[true, true, true, true, true, true, true, true, true, true, true, true, true, true, true, true, true, true, true, true, false, false, false, false, false, false, false, false, false, false, false, false, false, false, false, false, false]
abbrev spec_l06Are.z21 : Array Bool := #[true, true, true, true, true, true, true, true, true, true, true, true, true, true, true, true, true, true, true, true, true, false, false, false, false, false, false, false, false, false, false, false, false, false, false, false, false]
abbrev spec_l06Are.z22 : Array Bool := #[true, true, true, true, true, true, true, true, true, true, true, true, true, true, true, true, true, true, true, true, true, true, false, false, false, false, false, false, false, false, false, false, false, false, false, false, false]
abbrev spec_l06Are.z23 : Array Bool := #[true, true, true, true, true, true, true, true, true, true, true, true, true, true, true, true, true, true, true, true, true, true, true, false, false, false, false, false, false, false, false, false, false, false, false, false, false]
abbrev spec_l06Are.z24 : Array Bool := #[true, true, true, true, true, true, true, true, true, true, true, true, true, true, true, true, true, true, true, true, true, true, true, true, false, false, false, false, false, false, false, false, false, false, false, false, false]
abbrev spec_l06Are.z25 : Array Bool := #[true, true, true, true, true, true, true, true, true, true, true, true, true, true, true, true, true, true, true, true, true, true, true, true, true, false, false, false, false, false, false, false, false, false, false, false, false]
abbrev spec_l06Are.z26 : Array Bool := #[true, true, true, true, true, true, true, true, true, true, true, true, true, true, true, true, true, true, true, true, true, true, true, true, true, true, false, false, false, false, false, false, false, false, false, false, false]
abbrev spec_l06Are.z27 : Array Bool := #[true, true, true, true, true, true, true, true, true, true, true, true, true, true, true, true, true, true, true, true, true, true, true, true, true, true, true, false, false, false, false, false, false, false, false, false, false]
abbrev spec_l06Are.z28 : Array Bool := #[true, true, true, true, true, true, true, true, true, true, true, true, true, true, true, true, true, true, true, true, true, true, true, true, true, true, true, false, true, false, false, false, false, false, false, false, false]
abbrev spec_l06Are.z29 : Array Bool := #[true, true, true, true, true, true, true, true, true, true, true, true, true, true, true, true, true, true, true, true, true, true, true, true, true, true, true, false, true, true, false, false, false, false, false, false, false]
abbrev spec_l06Are.z30 : Array Bool := #[true, true, true, true, true, true, true, true, true, true, true, true, true, true, true, true, true, true, true, true, true, true, true, true, true, true, true, false, true, true, true, false, false, false, false, false, false]
abbrev spec_l06Are.z31 : Array Bool := #[true, true, true, true, true, true, true, true, true, true, true, true, true, true, true, true, true, true, true, true, true, true, true, true, true, true, true, false, true, true, true, true, false, false, false, false, false]
abbrev spec_l06Are.z32 : Array Bool := #[true, true, true, true, true, true, true, true, true, true, true, true, true, true, true, true, true, true, true, true, true, true, true, true, true, true, true, false, true, true, true, true, true, false, false, false, false]
abbrev spec_l06Are.z33 : Array Bool := #[true, true, true, true, true, true, true, true, true, true, true, true, true, true, true, true, true, true, true, true, true, true, true, true, true, true, true, true, true, true, true, true, true, false, false, false, false]
abbrev spec_l06Are.z34 : Array Bool := #[true, true, true, true, true, true, true, true, true, true, true, true, true, true, true, true, true, true, true, true, true, true, true, true, true, true, true, true, true, true, true, true, true, true, false, false, false]
abbrev spec_l06Are.z35 : Array Bool := #[true, true, true, true, true, true, true, true, true, true, true, true, true, true, true, true, true, true, true, true, true, true, true, true, true, true, true, true, true, true, true, true, true, true, true, false, false]
abbrev spec_l06Are.z36 : Array Bool := #[true, true, true, true, true, true, true, true, true, true, true, true, true, true, true, true, true, true, true, true, true, true, true, true, true, true, true, true, true, true, true, true, true, true, true, true, false]
abbrev spec_l06Are.z37 : Array Bool := #[true, true, true, true, true, true, true, true, true, true, true, true, true, true, true, true, true, true, true, true, true, true, true, true, true, true, true, true, true, true, true, true, true, true, true, true, true]
abbrev spec_l06Are.z38 : Array Bool := #[true, true, true, true, true, true, true, true, true, true, true, true, true, true, true, true, true, true, true, true, true, true, true, true, true, true, true, true, false, false, false, false, false, false, false, false, false]
abbrev spec_l06Are.z39 : Array Bool := #[true, true, true, true, true, true, true, true, true, true, true, true, true, true, true, true, true, true, true, true, true, true, true, true, true, true, true, true, true, false, false, false, false, false, false, false, false]
abbrev spec_l06Are.z40 : Array Bool := #[true, true, true, true, true, true, true, true, true, true, true, true, true, true, true, true, true, true, true, true, true, true, true, true, true, true, true, true, true, true, false, false, false, false, false, false, false]
abbrev spec_l06Are.z41 : Array Bool := #[true, true, true, true, true, true, true, true, true, true, true, true, true, true, true, true, true, true, true, true, true, true, true, true, true, true, true, true, true, true, true, false, false, false, false, false, false]
abbrev spec_l06Are.z42 : Array Bool := #[true, true, true, true, true, true, true, true, true, true, true, true, true, true, true, true, true, true, true, true, true, true, true, true, true, true, true, true, true, true, true, true, false, false, false, false, false]
abbrev spec_l06Are.z43 : Array Bool := #[true, true, true, true, true, true, true, true, true, true, true, false, false, false, false, false, false, false, false, false, false, false, false, false, false, false, false, false, false, false, false, false, false, false, false, false, false]
abbrev spec_l06Are.z44 : Array Bool := #[true, true, true, true, true, true, true, true, true, true, true, true, false, false, false, false, false, false, false, false, false, false, false, false, false, false, false, false, false, false, false, false, false, false, false, false, false]
abbrev spec_l06Are.z45 : Array Bool := #[true, true, true, true, true, true, true, true, true, true, true, true, true, false, false, false, false, false, false, false, false, false, false, false, false, false, false, false, false, false, false, false, false, false, false, false, false]
abbrev spec_l06Are.z46 : Array Bool := #[true, true, true, true, true, true, true, true, true, true, true, true, true, true, false, false, false, false, false, false, false, false, false, false, false, false, false, false, false, false, false, false, false, false, false, false, false]
mutual
def spec_l06Are.l0 : Nat → List (S58) → Int → Option (Bool)
 | 0, _, _ => none
 | k + 1, x0, x3 => if x3 < (x0.length : Int) then (spec_l06Are.j1 k x0 x3 (decide ((x0.length : Int) ≤ 16))) else (spec_l06Are.j1 k x0 x3 false)
def spec_l06Are.j1 : Nat → List (S58) → Int → Bool → Option (Bool)
 | 0, _, _, _ => none
 | k + 1, x0, x3, x12 => if x12 = true then (if 0 ≤ x3 then (if x3 < (x0.length : Int) then ((spec_l06Sound.f k [rd_T58 x0 x3]).bind fun t149 => (if t149 = true then (if 0 < (x0.length : Int) then (if (((rd_T58 x0 x3).f1).length : Int) = (((rd_T58 x0 0).f1).length : Int) then (if x3 > 0 then (if 0 ≤ (wrap64 (x3 - 1)) then (if (wrap64 (x3 - 1)) < (x0.length : Int) then (if ((Op.bytesLess (((rd_T58 x0 (wrap64 (x3 - 1))).f0).toList) (((rd_T58 x0 x3).f0).toList)) = true) then (spec_l06Are.l0 k x0 (wrap64 (x3 + 1))) else (some false)) else (none)) else (none)) else (spec_l06Are.l0 k x0 (wrap64 (x3 + 1)))) else (some false)) else (none)) else (some false))) else (none)) else (none)) else (some (decide ((x0.length : Int) ≤ 16)))
end
def spec_l06Are.f (k : Nat) (l0 : List (S58)) : Option (Bool) := spec_l06Are.l0 k l0 0
theorem spec_l06Are.mono_l : ∀ k, (∀ y0 y1, LeO (spec_l06Are.l0 k y0 y1) (spec_l06Are.l0 (k + 1) y0 y1)) ∧ (∀ y0 y1 y2, LeO (spec_l06Are.j1 k y0 y1 y2) (spec_l06Are.j1 (k + 1) y0 y1 y2))
 | 0 => ⟨fun _ _ r h => by simp [spec_l06Are.l0] at h, fun _ _ _ r h => by simp [spec_l06Are.j1] at h⟩
 | k + 1 => by
  obtain ⟨ih0, ih1⟩ := spec_l06Are.mono_l k
  refine ⟨?_, ?_⟩
  ·intro y0 y1
   unfold spec_l06Are.l0
   repeat' first
   | (with_reducible exact ih0 _ _)
   | (with_reducible exact ih1 _ _ _)
   | (with_reducible exact spec_l06Sound.mono _ _)
   | (with_reducible exact LeO.refl _)
   | (with_reducible exact LeO.none _)
   | (with_reducible refine LeO.ite ?_ ?_)
   | (with_reducible refine LeO.bind ?_ (fun _ => ?_))
   | exact ih0 _ _
   | exact ih1 _ _ _
   | exact spec_l06Sound.mono _ _
   | exact LeO.none _
   | refine LeO.ite ?_ ?_
   | refine LeO.bind ?_ (fun _ => ?_)
  ·intro y0 y1 y2
   unfold spec_l06Are.j1
   repeat' first
   | (with_reducible exact ih0 _ _)
   | (with_reducible exact ih1 _ _ _)
   | (with_reducible exact spec_l06Sound.mono _ _)
   | (with_reducible exact LeO.refl _)
   | (with_reducible exact LeO.none _)
   | (with_reducible refine LeO.ite ?_ ?_)
   | (with_reducible refine LeO.bind ?_ (fun _ => ?_))
   | exact ih0 _ _
   | exact ih1 _ _ _
   | exact spec_l06Sound.mono _ _
   | exact LeO.none _
   | refine LeO.ite ?_ ?_
   | refine LeO.bind ?_ (fun _ => ?_)
theorem spec_l06Are.mono : ∀ a0 k, LeO (spec_l06Are.f k a0) (spec_l06Are.f (k + 1) a0) := by
 intro a0 k
 obtain ⟨ih0, ih1⟩ := spec_l06Are.mono_l k
 unfold spec_l06Are.f
 repeat' first
   | (with_reducible exact ih0 _ _)
   | (with_reducible exact ih1 _ _ _)
   | (with_reducible exact spec_l06Sound.mono _ _)
   | (with_reducible exact LeO.refl _)
   | (with_reducible exact LeO.none _)
   | (with_reducible refine LeO.ite ?_ ?_)
   | (with_reducible refine LeO.bind ?_ (fun _ => ?_))
   | exact ih0 _ _
   | exact ih1 _ _ _
   | exact spec_l06Sound.mono _ _
   | exact LeO.none _
   | refine LeO.ite ?_ ?_
   | refine LeO.bind ?_ (fun _ => ?_)
def spec_l06Are.T4 : Bool × List (List Nat × List Nat) := (true, [([], []), ([], []), ([0, 1], [0, 1]), ([2], [2]), ([3], [3]), ([4, 3], [4]), ([5], [5]), ([5], [5]), ([6, 7, 5], [5, 6, 7]), ([8, 5], [5, 8]), ([9, 5], [5, 9]), ([10, 5], [5, 10]), ([5], [5]), ([12, 5], [5, 12]), ([13, 5], [5, 13]), ([14, 5], [5, 14]), ([15, 5], [5, 15]), ([11, 16, 5], [5, 11, 16]), ([5, 17], [5, 17]), ([18, 5], [18]), ([19], [19]), ([20, 19], [19, 20]), ([21, 19, 19], [19, 21]), ([22], [22]), ([22], [22]), ([23, 24, 22], [22, 23, 24]), ([25, 22], [22, 25]), ([26, 22], [22, 26]), ([22], [22]), ([22], [22]), ([29, 22], [22, 29]), ([28, 30, 22], [22, 28, 30]), ([31, 22], [22, 31]), ([32, 22], [22, 32]), ([27, 33, 22], [22, 27, 33]), ([22, 34, 19], [19, 22, 34]), ([19, 35], [19, 35])])
def spec_l06Are.B4 : List Nat := [0, 0, 3, 7, 15, 31, 63, 63, 255, 511, 1023, 2047, 63, 4159, 12351, 28735, 61503, 131071, 262143, 524287, 1048575, 2097151, 4194303, 8388607, 8388607, 33554431, 67108863, 134217727, 8388607, 8388607, 545259519, 1887436799, 4034920447, 8329887743, 17179869183, 34359738367, 68719476735]
theorem spec_l06Are.tab4 : rtab .any (opsOf Tryd.f31 4) = spec_l06Are.T4 := by kernel_rfl
theorem spec_l06Are.bits4 : waitsOk spec_l06Are.T4.2 spec_l06Are.B4 = true := by kernel_rfl
set_option maxHeartbeats 8000000 in
set_option maxRecDepth 100000 in
theorem spec_l06Are.calls (k : Nat) (A0 : Option Addr) (c0 : Nat) (l0 : List (S58)) (r : Bool) (w : World) (hr0 : Kd.C k58 w A0 l0.length l0) (hc0 : l0.length ≤ c0) (h : spec_l06Are.f k l0 = some r) :
  Calls Tryd.prog 31 #[.slice A0 l0.length c0] w fun e w' => e = .returned (.bool r) ∧ Below w.heap.size w w' := by
 have hu37 := Tryd.underlying37
 have hu9 := Tryd.underlying9
 have HR0 := Aside0.mk hr0
 have HC0 := Aside0.mk hc0
 clear hr0 hc0
 have HB := Aside0.mk (Below.refl w.heap.size w)
 have H : (spec_l06Are.l0 k l0 0) = some r := h
 clear h
 have H' := Aside0.mk H
 clear H
 go_enter Tryd.func31, Tryd.ntmps31
 go_wp2
 go_loopg [3] k (fun kq v3 w' => ∃ (x3_1 : Int), v3 = .int .i64 x3_1 ∧ Aside0 (spec_l06Are.l0 kq l0 x3_1 = some r) ∧ Aside0 (kq ≤ k) ∧ Aside0 (Below w.heap.size w w'))
 case atStart => exact ⟨(0), (by first | rfl | (simp; done) | (simp [*]; done)), H', ⟨Nat.le_refl _⟩, ⟨by repeat (first | (with_reducible first | exact HB.out | apply below_alloc | apply pw_below_drewN | apply below_drew1) | exact HB.out)⟩⟩
 case round =>
  clear H'
  obtain ⟨x3_1, rfl, HA, HK1, HB⟩ := hrel
  cases gk with
  | zero => exact absurd HA.out (by simp [spec_l06Are.l0])
  | succ k1 =>
   have H := HA.out
   clear HA
   simp only [spec_l06Are.l0] at H
   have HC2 := Aside0.mk H
   clear H
   go_upto_region 2 with (fail)
   go_cut [12] (fun v12 wc => ∃ (kq : Nat) (x12_1 : Bool), v12 = .bool x12_1 ∧ Aside0 (spec_l06Are.j1 kq l0 x3_1 x12_1 = some r) ∧ Aside0 (kq ≤ k1) ∧ Aside0 (Below w.heap.size w wc))
   case first =>
    have H := HC2.out
    clear HC2
    by_cases c3 : x3_1 < (l0.length : Int)
    ·rw [if_pos c3] at H
     have c3b0 : decide (x3_1 < (l0.length : Int)) = true := decide_eq_true c3
     clear c3
     (first | rw [c3b0] | (simp only [i64_w, i32_w]; rw [c3b0]) | skip)
     have H' := Aside0.mk H
     clear H
     go_wp2
     go_meet
     case rel => exact ⟨_, (decide ((l0.length : Int) ≤ 16)), (by first | rfl | (simp; done) | (simp [*]; done)), H', ⟨by have := HK1.out; first | omega | exact Nat.le_refl _⟩, ⟨by repeat (first | (with_reducible first | exact HB.out | apply below_alloc | apply pw_below_drewN | apply below_drew1) | exact HB.out)⟩⟩
    ·rw [if_neg c3] at H
     have c3b0 : decide (x3_1 < (l0.length : Int)) = false := decide_eq_false c3
     clear c3
     (first | rw [c3b0] | (simp only [i64_w, i32_w]; rw [c3b0]) | skip)
     have H' := Aside0.mk H
     clear H
     go_wp2
     go_meet
     case rel => exact ⟨_, (false), (by first | rfl | (simp; done) | (simp [*]; done)), H', ⟨by have := HK1.out; first | omega | exact Nat.le_refl _⟩, ⟨by repeat (first | (with_reducible first | exact HB.out | apply below_alloc | apply pw_below_drewN | apply below_drew1) | exact HB.out)⟩⟩
   case rest =>
    clear HC2
    try clear p2
    try clear c3
    try clear c3b0
    obtain ⟨kq, x12_1, rfl, HA, HJ1, HB⟩ := hcut
    cases kq with
    | zero => exact absurd HA.out (by simp [spec_l06Are.j1])
    | succ kj1 =>
     have H := HA.out
     clear HA
     simp only [spec_l06Are.j1] at H
     by_cases c4 : x12_1 = true
     ·subst c4
      have H1 : (if 0 ≤ x3_1 then (if x3_1 < (l0.length : Int) then ((spec_l06Sound.f kj1 [rd_T58 l0 x3_1]).bind fun t149 => (if t149 = true then (if 0 < (l0.length : Int) then (if (((rd_T58 l0 x3_1).f1).length : Int) = (((rd_T58 l0 0).f1).length : Int) then (if x3_1 > 0 then (if 0 ≤ (wrap64 (x3_1 - 1)) then (if (wrap64 (x3_1 - 1)) < (l0.length : Int) then (if ((Op.bytesLess (((rd_T58 l0 (wrap64 (x3_1 - 1))).f0).toList) (((rd_T58 l0 x3_1).f0).toList)) = true) then (spec_l06Are.l0 kj1 l0 (wrap64 (x3_1 + 1))) else (some false)) else (none)) else (none)) else (spec_l06Are.l0 kj1 l0 (wrap64 (x3_1 + 1)))) else (some false)) else (none)) else (some false))) else (none)) else (none)) = some r := by rw [if_pos rfl] at H; exact H
      clear H
      have H := H1
      clear H1
      by_cases c5 : 0 ≤ x3_1
      ·rw [if_pos c5] at H
       have c5b0 : decide (0 ≤ x3_1) = true := decide_eq_true c5
       clear c5
       by_cases c6 : x3_1 < (l0.length : Int)
       ·rw [if_pos c6] at H
        have c6b0 : decide (x3_1 < (l0.length : Int)) = true := decide_eq_true c6
        clear c6
        replace H := Option.bind_eq_some_iff.mp H
        obtain ⟨t149, A70, H⟩ := H
        replace H : (if t149 = true then (if 0 < (l0.length : Int) then (if (((rd_T58 l0 x3_1).f1).length : Int) = (((rd_T58 l0 0).f1).length : Int) then (if x3_1 > 0 then (if 0 ≤ (wrap64 (x3_1 - 1)) then (if (wrap64 (x3_1 - 1)) < (l0.length : Int) then (if ((Op.bytesLess (((rd_T58 l0 (wrap64 (x3_1 - 1))).f0).toList) (((rd_T58 l0 x3_1).f0).toList)) = true) then (spec_l06Are.l0 kj1 l0 (wrap64 (x3_1 + 1))) else (some false)) else (none)) else (none)) else (spec_l06Are.l0 kj1 l0 (wrap64 (x3_1 + 1)))) else (some false)) else (none)) else (some false)) = some r := H
        have A7 := Aside0.mk A70
        clear A70
        by_cases c8 : t149 = true
        ·subst c8
         have H1 : (if 0 < (l0.length : Int) then (if (((rd_T58 l0 x3_1).f1).length : Int) = (((rd_T58 l0 0).f1).length : Int) then (if x3_1 > 0 then (if 0 ≤ (wrap64 (x3_1 - 1)) then (if (wrap64 (x3_1 - 1)) < (l0.length : Int) then (if ((Op.bytesLess (((rd_T58 l0 (wrap64 (x3_1 - 1))).f0).toList) (((rd_T58 l0 x3_1).f0).toList)) = true) then (spec_l06Are.l0 kj1 l0 (wrap64 (x3_1 + 1))) else (some false)) else (none)) else (none)) else (spec_l06Are.l0 kj1 l0 (wrap64 (x3_1 + 1)))) else (some false)) else (none)) = some r := by rw [if_pos rfl] at H; exact H
         clear H
         have H := H1
         clear H1
         by_cases c9 : 0 < (l0.length : Int)
         ·rw [if_pos c9] at H
          have c9b0 : decide (0 < (l0.length : Int)) = true := decide_eq_true c9
          have c9b1 : decide (0 < l0.length) = true := decide_eq_true (by omega)
          clear c9
          by_cases c10 : (((rd_T58 l0 x3_1).f1).length : Int) = (((rd_T58 l0 0).f1).length : Int)
          ·rw [if_pos c10] at H
           have c10b0 : ((((rd_T58 l0 x3_1).f1).length : Int) == (((rd_T58 l0 0).f1).length : Int)) = true := beq_iff_eq.mpr c10
           have c10b1 : ((((rd_T58 l0 x3_1).f1).length : Int) != (((rd_T58 l0 0).f1).length : Int)) = false := bne_eq_false_iff_eq.mpr c10
           have c10b2 : (((rd_T58 l0 x3_1).f1).length == ((rd_T58 l0 0).f1).length) = true := by first | simpa using c10 | (simp at c10 ⊢; omega)
           clear c10
           by_cases c11 : x3_1 > 0
           ·rw [if_pos c11] at H
            have c11b0 : decide (0 < x3_1) = true := decide_eq_true c11
            clear c11
            obtain ⟨ji12, hji12⟩ : ∃ j_ : Int, (wrap64 (x3_1 - 1)) = j_ := ⟨_, rfl⟩
            replace H : (if 0 ≤ (ji12) then (if (ji12) < (l0.length : Int) then (if ((Op.bytesLess (((rd_T58 l0 (ji12)).f0).toList) (((rd_T58 l0 x3_1).f0).toList)) = true) then (spec_l06Are.l0 kj1 l0 (wrap64 (x3_1 + 1))) else (some false)) else (none)) else (none)) = some r := by first | (rw [hji12] at H; exact H) | (simp only [hji12] at H ⊢; exact H)
            (try rw [hji12] at A7)
            have hji12w : (IntKind.i64.wrap (x3_1 - 1)) = ji12 := (i64_w _).trans hji12
            by_cases c13 : 0 ≤ (ji12)
            ·rw [if_pos c13] at H
             have c13b0 : decide (0 ≤ (ji12)) = true := decide_eq_true c13
             clear c13
             by_cases c14 : (ji12) < (l0.length : Int)
             ·rw [if_pos c14] at H
              have c14b0 : decide ((ji12) < (l0.length : Int)) = true := decide_eq_true c14
              clear c14
              by_cases c15 : ((Op.bytesLess (((rd_T58 l0 (ji12)).f0).toList) (((rd_T58 l0 x3_1).f0).toList)) = true)
              ·rw [if_pos c15] at H
               have c15b0 : (Op.bytesLess (((rd_T58 l0 (ji12)).f0).toList) (((rd_T58 l0 x3_1).f0).toList)) = true := c15
               clear c15
               have H' := Aside0.mk H
               clear H
               try go_wp2
               have n0_ := Aside0.mk (below_drew1 HB.out)
               clear HB
               have HB := n0_
               clear n0_
               have p148 : 0 ≤ (x3_1 : Int) := of_decide_eq_true (by first | (with_reducible assumption) | assumption)
               have q148 : x3_1 < (l0.length : Int) := of_decide_eq_true (by first | (with_reducible assumption) | assumption)
               obtain ⟨ad148, A148_1, c148_1, e148, hx148_0, hx148_1, hx148_2, hx148_3, hx148_4, hx148_5, hl148_1, hi148_1⟩ := at_T58 HR0.out x3_1 p148 q148
               have hw148_5 := hx148_5
               have hw148_4 := hx148_4
               have hw148_3 := hx148_3
               have hw148_2 := hx148_2
               have hw148_1 := hx148_1
               have hw148_0 := hx148_0
               cases e148
               replace hx148_0 := (HB.out.cell (World.block_lt_of_cell? w _ hx148_0)).trans hx148_0
               replace hx148_1 := (HB.out.cell (World.block_lt_of_cell? w _ hx148_1)).trans hx148_1
               replace hx148_2 := (HB.out.cell (World.block_lt_of_cell? w _ hx148_2)).trans hx148_2
               replace hx148_3 := (HB.out.cell (World.block_lt_of_cell? w _ hx148_3)).trans hx148_3
               replace hx148_4 := (HB.out.cell (World.block_lt_of_cell? w _ hx148_4)).trans hx148_4
               replace hx148_5 := (HB.out.cell (World.block_lt_of_cell? w _ hx148_5)).trans hx148_5
               have HR148_1 := Aside0.mk hi148_1
               have HC148_1 := Aside0.mk hl148_1
               clear hi148_1 hl148_1
               replace p148 := eq_true p148
               replace q148 := eq_true q148
               have p150 : 0 ≤ (x3_1 : Int) := of_decide_eq_true (by first | (with_reducible assumption) | assumption)
               have q150 : x3_1 < (l0.length : Int) := of_decide_eq_true (by first | (with_reducible assumption) | assumption)
               obtain ⟨ad150, A150_1, c150_1, e150, hx150_0, hx150_1, hx150_2, hx150_3, hx150_4, hx150_5, hl150_1, hi150_1⟩ := at_T58 HR0.out x3_1 p150 q150
               have hw150_5 := hx150_5
               have hw150_4 := hx150_4
               have hw150_3 := hx150_3
               have hw150_2 := hx150_2
               have hw150_1 := hx150_1
               have hw150_0 := hx150_0
               obtain rfl : ad148 = ad150 := (by injection e150)
               replace hx150_0 := (HB.out.cell (World.block_lt_of_cell? w _ hx150_0)).trans hx150_0
               replace hx150_1 := (HB.out.cell (World.block_lt_of_cell? w _ hx150_1)).trans hx150_1
               replace hx150_2 := (HB.out.cell (World.block_lt_of_cell? w _ hx150_2)).trans hx150_2
               replace hx150_3 := (HB.out.cell (World.block_lt_of_cell? w _ hx150_3)).trans hx150_3
               replace hx150_4 := (HB.out.cell (World.block_lt_of_cell? w _ hx150_4)).trans hx150_4
               replace hx150_5 := (HB.out.cell (World.block_lt_of_cell? w _ hx150_5)).trans hx150_5
               have HR150_1 := Aside0.mk hi150_1
               have HC150_1 := Aside0.mk hl150_1
               clear hi150_1 hl150_1
               replace p150 := eq_true p150
               replace q150 := eq_true q150
               have ea_ := Option.some.inj (hx148_1.symm.trans hx150_1)
               injection ea_ with ea_ en_ ec_
               subst ea_
               subst ec_
               clear en_
               have p151 : 0 ≤ (0 : Int) := (by omega)
               have q151 : 0 < (l0.length : Int) := of_decide_eq_true (by first | (with_reducible assumption) | assumption)
               obtain ⟨ad151, A151_1, c151_1, e151, hx151_0, hx151_1, hx151_2, hx151_3, hx151_4, hx151_5, hl151_1, hi151_1⟩ := at_T58 HR0.out 0 p151 q151
               have hw151_5 := hx151_5
               (try rw [show ((0 : Int)).toNat = 0 from rfl] at hw151_5)
               (try rw [show 0 * 6 = 0 from rfl] at hw151_5)
               (try rw [Addr.add_zero'] at hw151_5)
               have hw151_4 := hx151_4
               (try rw [show ((0 : Int)).toNat = 0 from rfl] at hw151_4)
               (try rw [show 0 * 6 = 0 from rfl] at hw151_4)
               (try rw [Addr.add_zero'] at hw151_4)
               have hw151_3 := hx151_3
               (try rw [show ((0 : Int)).toNat = 0 from rfl] at hw151_3)
               (try rw [show 0 * 6 = 0 from rfl] at hw151_3)
               (try rw [Addr.add_zero'] at hw151_3)
               have hw151_2 := hx151_2
               (try rw [show ((0 : Int)).toNat = 0 from rfl] at hw151_2)
               (try rw [show 0 * 6 = 0 from rfl] at hw151_2)
               (try rw [Addr.add_zero'] at hw151_2)
               have hw151_1 := hx151_1
               (try rw [show ((0 : Int)).toNat = 0 from rfl] at hw151_1)
               (try rw [show 0 * 6 = 0 from rfl] at hw151_1)
               (try rw [Addr.add_zero'] at hw151_1)
               have hw151_0 := hx151_0
               (try rw [show ((0 : Int)).toNat = 0 from rfl] at hw151_0)
               (try rw [show 0 * 6 = 0 from rfl] at hw151_0)
               (try rw [Addr.add_zero'] at hw151_0)
               obtain rfl : ad148 = ad151 := (by injection e151)
               have qi151 : (0 < l0.length) = True := eq_true (by omega)
               (try rw [show ((0 : Int)).toNat = 0 from rfl] at hx151_0)
               (try rw [show 0 * 6 = 0 from rfl] at hx151_0)
               (try rw [Addr.add_zero'] at hx151_0)
               (try rw [show ((0 : Int)).toNat = 0 from rfl] at hx151_1)
               (try rw [show 0 * 6 = 0 from rfl] at hx151_1)
               (try rw [Addr.add_zero'] at hx151_1)
               (try rw [show ((0 : Int)).toNat = 0 from rfl] at hx151_2)
               (try rw [show 0 * 6 = 0 from rfl] at hx151_2)
               (try rw [Addr.add_zero'] at hx151_2)
               (try rw [show ((0 : Int)).toNat = 0 from rfl] at hx151_3)
               (try rw [show 0 * 6 = 0 from rfl] at hx151_3)
               (try rw [Addr.add_zero'] at hx151_3)
               (try rw [show ((0 : Int)).toNat = 0 from rfl] at hx151_4)
               (try rw [show 0 * 6 = 0 from rfl] at hx151_4)
               (try rw [Addr.add_zero'] at hx151_4)
               (try rw [show ((0 : Int)).toNat = 0 from rfl] at hx151_5)
               (try rw [show 0 * 6 = 0 from rfl] at hx151_5)
               (try rw [Addr.add_zero'] at hx151_5)
               replace hx151_0 := (HB.out.cell (World.block_lt_of_cell? w _ hx151_0)).trans hx151_0
               replace hx151_1 := (HB.out.cell (World.block_lt_of_cell? w _ hx151_1)).trans hx151_1
               replace hx151_2 := (HB.out.cell (World.block_lt_of_cell? w _ hx151_2)).trans hx151_2
               replace hx151_3 := (HB.out.cell (World.block_lt_of_cell? w _ hx151_3)).trans hx151_3
               replace hx151_4 := (HB.out.cell (World.block_lt_of_cell? w _ hx151_4)).trans hx151_4
               replace hx151_5 := (HB.out.cell (World.block_lt_of_cell? w _ hx151_5)).trans hx151_5
               have HR151_1 := Aside0.mk hi151_1
               have HC151_1 := Aside0.mk hl151_1
               clear hi151_1 hl151_1
               replace p151 := eq_true p151
               replace q151 := eq_true q151
               have p152 : 0 ≤ (x3_1 : Int) := of_decide_eq_true (by first | (with_reducible assumption) | assumption)
               have q152 : x3_1 < (l0.length : Int) := of_decide_eq_true (by first | (with_reducible assumption) | assumption)
               obtain ⟨ad152, A152_1, c152_1, e152, hx152_0, hx152_1, hx152_2, hx152_3, hx152_4, hx152_5, hl152_1, hi152_1⟩ := at_T58 HR0.out x3_1 p152 q152
               have hw152_5 := hx152_5
               have hw152_4 := hx152_4
               have hw152_3 := hx152_3
               have hw152_2 := hx152_2
               have hw152_1 := hx152_1
               have hw152_0 := hx152_0
               obtain rfl : ad148 = ad152 := (by injection e152)
               replace hx152_0 := (HB.out.cell (World.block_lt_of_cell? w _ hx152_0)).trans hx152_0
               replace hx152_1 := (HB.out.cell (World.block_lt_of_cell? w _ hx152_1)).trans hx152_1
               replace hx152_2 := (HB.out.cell (World.block_lt_of_cell? w _ hx152_2)).trans hx152_2
               replace hx152_3 := (HB.out.cell (World.block_lt_of_cell? w _ hx152_3)).trans hx152_3
               replace hx152_4 := (HB.out.cell (World.block_lt_of_cell? w _ hx152_4)).trans hx152_4
               replace hx152_5 := (HB.out.cell (World.block_lt_of_cell? w _ hx152_5)).trans hx152_5
               have HR152_1 := Aside0.mk hi152_1
               have HC152_1 := Aside0.mk hl152_1
               clear hi152_1 hl152_1
               replace p152 := eq_true p152
               replace q152 := eq_true q152
               have ea_ := Option.some.inj (hx148_1.symm.trans hx152_1)
               injection ea_ with ea_ en_ ec_
               subst ea_
               subst ec_
               clear en_
               have p153 : 0 ≤ ((ji12) : Int) := of_decide_eq_true (by first | (with_reducible assumption) | assumption)
               have q153 : (ji12) < (l0.length : Int) := of_decide_eq_true (by first | (with_reducible assumption) | assumption)
               obtain ⟨ad153, A153_1, c153_1, e153, hx153_0, hx153_1, hx153_2, hx153_3, hx153_4, hx153_5, hl153_1, hi153_1⟩ := at_T58 HR0.out (ji12) p153 q153
               have hw153_5 := hx153_5
               have hw153_4 := hx153_4
               have hw153_3 := hx153_3
               have hw153_2 := hx153_2
               have hw153_1 := hx153_1
               have hw153_0 := hx153_0
               obtain rfl : ad148 = ad153 := (by injection e153)
               replace hx153_0 := (HB.out.cell (World.block_lt_of_cell? w _ hx153_0)).trans hx153_0
               replace hx153_1 := (HB.out.cell (World.block_lt_of_cell? w _ hx153_1)).trans hx153_1
               replace hx153_2 := (HB.out.cell (World.block_lt_of_cell? w _ hx153_2)).trans hx153_2
               replace hx153_3 := (HB.out.cell (World.block_lt_of_cell? w _ hx153_3)).trans hx153_3
               replace hx153_4 := (HB.out.cell (World.block_lt_of_cell? w _ hx153_4)).trans hx153_4
               replace hx153_5 := (HB.out.cell (World.block_lt_of_cell? w _ hx153_5)).trans hx153_5
               have HR153_1 := Aside0.mk hi153_1
               have HC153_1 := Aside0.mk hl153_1
               clear hi153_1 hl153_1
               replace p153 := eq_true p153
               replace q153 := eq_true q153
               refine start_ (n := 37) (S := fun w' => w'.cell? (ad148.add ((x3_1).toNat * 6)) = some (.string ((rd_T58 l0 x3_1).f0)) ∧ w'.cell? ⟨(ad148.add ((x3_1).toNat * 6)).block, (ad148.add ((x3_1).toNat * 6)).off + 1, none⟩ = some (.slice A148_1 ((rd_T58 l0 x3_1).f1).length c148_1) ∧ w'.cell? ⟨(ad148.add ((x3_1).toNat * 6)).block, (ad148.add ((x3_1).toNat * 6)).off + 2, none⟩ = some (.float .f32 ((rd_T58 l0 x3_1).f2)) ∧ w'.cell? ⟨(ad148.add ((x3_1).toNat * 6)).block, (ad148.add ((x3_1).toNat * 6)).off + 3, none⟩ = some (.float .f32 ((rd_T58 l0 x3_1).f3)) ∧ w'.cell? ⟨(ad148.add ((x3_1).toNat * 6)).block, (ad148.add ((x3_1).toNat * 6)).off + 4, none⟩ = some (.float .f32 ((rd_T58 l0 x3_1).f4)) ∧ w'.cell? ⟨(ad148.add ((x3_1).toNat * 6)).block, (ad148.add ((x3_1).toNat * 6)).off + 5, none⟩ = some (.float .f32 ((rd_T58 l0 x3_1).f5)) ∧ w'.cell? (ad148.add ((x3_1).toNat * 6)) = some (.string ((rd_T58 l0 x3_1).f0)) ∧ w'.cell? ⟨(ad148.add ((x3_1).toNat * 6)).block, (ad148.add ((x3_1).toNat * 6)).off + 1, none⟩ = some (.slice A148_1 ((rd_T58 l0 x3_1).f1).length c148_1) ∧ w'.cell? ⟨(ad148.add ((x3_1).toNat * 6)).block, (ad148.add ((x3_1).toNat * 6)).off + 2, none⟩ = some (.float .f32 ((rd_T58 l0 x3_1).f2)) ∧ w'.cell? ⟨(ad148.add ((x3_1).toNat * 6)).block, (ad148.add ((x3_1).toNat * 6)).off + 3, none⟩ = some (.float .f32 ((rd_T58 l0 x3_1).f3)) ∧ w'.cell? ⟨(ad148.add ((x3_1).toNat * 6)).block, (ad148.add ((x3_1).toNat * 6)).off + 4, none⟩ = some (.float .f32 ((rd_T58 l0 x3_1).f4)) ∧ w'.cell? ⟨(ad148.add ((x3_1).toNat * 6)).block, (ad148.add ((x3_1).toNat * 6)).off + 5, none⟩ = some (.float .f32 ((rd_T58 l0 x3_1).f5)) ∧ w'.cell? ad148 = some (.string ((rd_T58 l0 0).f0)) ∧ w'.cell? ⟨ad148.block, ad148.off + 1, none⟩ = some (.slice A151_1 ((rd_T58 l0 0).f1).length c151_1) ∧ w'.cell? ⟨ad148.block, ad148.off + 2, none⟩ = some (.float .f32 ((rd_T58 l0 0).f2)) ∧ w'.cell? ⟨ad148.block, ad148.off + 3, none⟩ = some (.float .f32 ((rd_T58 l0 0).f3)) ∧ w'.cell? ⟨ad148.block, ad148.off + 4, none⟩ = some (.float .f32 ((rd_T58 l0 0).f4)) ∧ w'.cell? ⟨ad148.block, ad148.off + 5, none⟩ = some (.float .f32 ((rd_T58 l0 0).f5)) ∧ w'.cell? (ad148.add ((x3_1).toNat * 6)) = some (.string ((rd_T58 l0 x3_1).f0)) ∧ w'.cell? ⟨(ad148.add ((x3_1).toNat * 6)).block, (ad148.add ((x3_1).toNat * 6)).off + 1, none⟩ = some (.slice A148_1 ((rd_T58 l0 x3_1).f1).length c148_1) ∧ w'.cell? ⟨(ad148.add ((x3_1).toNat * 6)).block, (ad148.add ((x3_1).toNat * 6)).off + 2, none⟩ = some (.float .f32 ((rd_T58 l0 x3_1).f2)) ∧ w'.cell? ⟨(ad148.add ((x3_1).toNat * 6)).block, (ad148.add ((x3_1).toNat * 6)).off + 3, none⟩ = some (.float .f32 ((rd_T58 l0 x3_1).f3)) ∧ w'.cell? ⟨(ad148.add ((x3_1).toNat * 6)).block, (ad148.add ((x3_1).toNat * 6)).off + 4, none⟩ = some (.float .f32 ((rd_T58 l0 x3_1).f4)) ∧ w'.cell? ⟨(ad148.add ((x3_1).toNat * 6)).block, (ad148.add ((x3_1).toNat * 6)).off + 5, none⟩ = some (.float .f32 ((rd_T58 l0 x3_1).f5)) ∧ w'.cell? (ad148.add (((ji12)).toNat * 6)) = some (.string ((rd_T58 l0 (ji12)).f0)) ∧ w'.cell? ⟨(ad148.add (((ji12)).toNat * 6)).block, (ad148.add (((ji12)).toNat * 6)).off + 1, none⟩ = some (.slice A153_1 ((rd_T58 l0 (ji12)).f1).length c153_1) ∧ w'.cell? ⟨(ad148.add (((ji12)).toNat * 6)).block, (ad148.add (((ji12)).toNat * 6)).off + 2, none⟩ = some (.float .f32 ((rd_T58 l0 (ji12)).f2)) ∧ w'.cell? ⟨(ad148.add (((ji12)).toNat * 6)).block, (ad148.add (((ji12)).toNat * 6)).off + 3, none⟩ = some (.float .f32 ((rd_T58 l0 (ji12)).f3)) ∧ w'.cell? ⟨(ad148.add (((ji12)).toNat * 6)).block, (ad148.add (((ji12)).toNat * 6)).off + 4, none⟩ = some (.float .f32 ((rd_T58 l0 (ji12)).f4)) ∧ w'.cell? ⟨(ad148.add (((ji12)).toNat * 6)).block, (ad148.add (((ji12)).toNat * 6)).off + 5, none⟩ = some (.float .f32 ((rd_T58 l0 (ji12)).f5))) (ds := []) spec_l06Are.z0 (by kernel_rfl) rfl rfl ⟨(cu_ HB.out hw148_0), (cu_ HB.out hw148_1), (cu_ HB.out hw148_2), (cu_ HB.out hw148_3), (cu_ HB.out hw148_4), (cu_ HB.out hw148_5), (cu_ HB.out hw150_0), (cu_ HB.out hw150_1), (cu_ HB.out hw150_2), (cu_ HB.out hw150_3), (cu_ HB.out hw150_4), (cu_ HB.out hw150_5), (cu_ HB.out hw151_0), (cu_ HB.out hw151_1), (cu_ HB.out hw151_2), (cu_ HB.out hw151_3), (cu_ HB.out hw151_4), (cu_ HB.out hw151_5), (cu_ HB.out hw152_0), (cu_ HB.out hw152_1), (cu_ HB.out hw152_2), (cu_ HB.out hw152_3), (cu_ HB.out hw152_4), (cu_ HB.out hw152_5), (cu_ HB.out hw153_0), (cu_ HB.out hw153_1), (cu_ HB.out hw153_2), (cu_ HB.out hw153_3), (cu_ HB.out hw153_4), (cu_ HB.out hw153_5)⟩ (fun hHeld => ?_); refine with_tabW spec_l06Are.tab4 spec_l06Are.bits4 (fun HT_ HW_ => ?_)
               generalize wc.drew = w16 at HB HR148_1 HR150_1 HR151_1 HR152_1 HR153_1 hx148_0 hx148_1 hx148_2 hx148_3 hx148_4 hx148_5 hx150_0 hx150_1 hx150_2 hx150_3 hx150_4 hx150_5 hx151_0 hx151_1 hx151_2 hx151_3 hx151_4 hx151_5 hx152_0 hx152_1 hx152_2 hx152_3 hx152_4 hx152_5 hx153_0 hx153_1 hx153_2 hx153_3 hx153_4 hx153_5 hHeld ⊢
               refine pure_ (i := 0) (N := some 15) (v := ?_) (a' := ?_) spec_l06Are.z1 rfl rfl (any_of HT_.out (by kernel_rfl)) (fun _ _ _ h => h) (Or.inl ⟨by rfl, ?_⟩) ?_ ?_
               pv_
               refine pure_ (i := 1) (N := some 16) (v := ?_) (a' := ?_) spec_l06Are.z2 rfl rfl (any_of HT_.out (by kernel_rfl)) (fun _ _ _ h => h) (Or.inl ⟨by rfl, ?_⟩) ?_ ?_
               pv_
               refine pure_ (i := 2) (N := some 17) (v := ?_) (a' := ?_) spec_l06Are.z3 rfl rfl (any_of HT_.out (by kernel_rfl)) (fun _ _ _ h => h) (Or.inl ⟨by rfl, ?_⟩) ?_ ?_
               pv_
               refine one_ (i := 3) (N := some 18) spec_l06Are.z4 rfl rfl (one_of HT_.out (by kernel_rfl)) (by decide) (fun K hK => ?_)
               refine goes_ Tryd.func54 (by kernel_rfl) rfl #[.pointer (some (Addr.add ad148 ((x3_1 : Int).toNat * 6)))] (by rfl) rfl rfl (by (try simp only [List.map_toArray, List.map_cons, List.map_nil]); first | done | rfl | (simp only [List.length_drop, List.length_take]; rfl)) ?_
               with_reducible refine (spec_l06Sound.calls kj1 _ [rd_T58 l0 x3_1] true _ ?side1 A7.out).mono ?_
               (case side1 => refine Kd.C_sub (z := z58) ?_ x3_1 (of_eq_true p148) (by first | exact of_eq_true q148 | omega); repeat (first | exact (Kd.C_below HR0.out HB.out) | (with_reducible refine Kd.C_alloc ?_ _) | (with_reducible refine Kd.C_drewN ?_ _) | (with_reducible refine Kd.C_drew ?_)))
               rintro e w' ⟨rfl, ⟨nd, rfl⟩⟩
               refine ⟨_, rfl, ?_⟩
               refine hK.out _ _ ⟨(cu_ HB.out hw148_0), (cu_ HB.out hw148_1), (cu_ HB.out hw148_2), (cu_ HB.out hw148_3), (cu_ HB.out hw148_4), (cu_ HB.out hw148_5), (cu_ HB.out hw150_0), (cu_ HB.out hw150_1), (cu_ HB.out hw150_2), (cu_ HB.out hw150_3), (cu_ HB.out hw150_4), (cu_ HB.out hw150_5), (cu_ HB.out hw151_0), (cu_ HB.out hw151_1), (cu_ HB.out hw151_2), (cu_ HB.out hw151_3), (cu_ HB.out hw151_4), (cu_ HB.out hw151_5), (cu_ HB.out hw152_0), (cu_ HB.out hw152_1), (cu_ HB.out hw152_2), (cu_ HB.out hw152_3), (cu_ HB.out hw152_4), (cu_ HB.out hw152_5), (cu_ HB.out hw153_0), (cu_ HB.out hw153_1), (cu_ HB.out hw153_2), (cu_ HB.out hw153_3), (cu_ HB.out hw153_4), (cu_ HB.out hw153_5)⟩ (fun hHeld => ?_)
               clear hK K
               refine norm_ (a' := ?_) ?_ ?_
               rotate_left
               ·show Act.put _ (some 18) _ = _
                pw_
               refine pure_ (i := 4) (N := some 19) (v := ?_) (a' := ?_) spec_l06Are.z5 rfl rfl (any_of HT_.out (by kernel_rfl)) (fun _ _ _ h => h) (Or.inl ⟨by rfl, ?_⟩) ?_ ?_
               pv_
               refine pure_ (i := 5) (N := some 20) (v := ?_) (a' := ?_) spec_l06Are.z6 rfl rfl (any_of HT_.out (by kernel_rfl)) (fun _ _ _ h => h) (Or.inl ⟨by rfl, ?_⟩) ?_ ?_
               pv_
               refine pure_ (i := 6) (N := some 21) (v := ?_) (a' := ?_) spec_l06Are.z7 rfl rfl (any_of HT_.out (by kernel_rfl)) (fun _ _ _ h => h) (Or.inl ⟨by rfl, ?_⟩) ?_ ?_
               pv_
               refine pure_ (i := 7) (N := some 22) (v := ?_) (a' := ?_) spec_l06Are.z8 rfl rfl (any_of HT_.out (by kernel_rfl)) (fun _ _ _ h => h) (Or.inl ⟨by rfl, ?_⟩) ?_ ?_
               pv_
               refine pure_ (i := 8) (N := some 23) (v := ?_) (a' := ?_) spec_l06Are.z9 rfl rfl (any_of HT_.out (by kernel_rfl)) (fun _ _ _ h => h) (Or.inl ⟨by rfl, ?_⟩) ?_ ?_
               pv_
               refine pure_ (i := 9) (N := some 24) (v := ?_) (a' := ?_) spec_l06Are.z10 rfl rfl (any_of HT_.out (by kernel_rfl)) (fun _ _ _ h => h) (Or.inl ⟨by rfl, ?_⟩) ?_ ?_
               pv_
               refine pure_ (i := 12) (N := some 27) (v := ?_) (a' := ?_) spec_l06Are.z11 rfl rfl (any_of HT_.out (by kernel_rfl)) (fun _ _ _ h => h) (Or.inl ⟨by rfl, ?_⟩) ?_ ?_
               pv_
               refine pure_ (i := 13) (N := some 28) (v := ?_) (a' := ?_) spec_l06Are.z12 rfl rfl (any_of HT_.out (by kernel_rfl)) (fun _ _ _ h => h) (Or.inl ⟨by rfl, ?_⟩) ?_ ?_
               pv_
               refine pure_ (i := 14) (N := some 29) (v := ?_) (a' := ?_) spec_l06Are.z13 rfl rfl (any_of HT_.out (by kernel_rfl)) (fun _ _ _ h => h) (Or.inl ⟨by rfl, ?_⟩) ?_ ?_
               pv_
               refine take_ (i := 10) (N := some 25) (v := ?_) (a' := ?_) spec_l06Are.z14 rfl rfl (take_ofW HT_.out HW_.out (by kernel_rfl)) (fun _ _ _ h => h) (Or.inl ⟨by rfl, ?_⟩) hHeld ?_ ?_
               rotate_left
               ·rintro w' ⟨s0, s1, s2, s3, s4, s5, s6, s7, s8, s9, s10, s11, s12, s13, s14, s15, s16, s17, s18, s19, s20, s21, s22, s23, s24, s25, s26, s27, s28, s29⟩
                go_simp
                with_reducible rfl
               rotate_left
               ·pw_
               refine pure_ (i := 11) (N := some 26) (v := ?_) (a' := ?_) spec_l06Are.z15 rfl rfl (any_of HT_.out (by kernel_rfl)) (fun _ _ _ h => h) (Or.inl ⟨by rfl, ?_⟩) ?_ ?_
               pv_
               refine take_ (i := 15) (N := some 30) (v := ?_) (a' := ?_) spec_l06Are.z16 rfl rfl (take_ofW HT_.out HW_.out (by kernel_rfl)) (fun _ _ _ h => h) (Or.inl ⟨by rfl, ?_⟩) hHeld ?_ ?_
               rotate_left
               ·rintro w' ⟨s0, s1, s2, s3, s4, s5, s6, s7, s8, s9, s10, s11, s12, s13, s14, s15, s16, s17, s18, s19, s20, s21, s22, s23, s24, s25, s26, s27, s28, s29⟩
                go_simp
                with_reducible rfl
               rotate_left
               ·pw_
               refine pure_ (i := 16) (N := some 31) (v := ?_) (a' := ?_) spec_l06Are.z17 rfl rfl (any_of HT_.out (by kernel_rfl)) (fun _ _ _ h => h) (Or.inl ⟨by rfl, ?_⟩) ?_ ?_
               pv_
               refine pure_ (i := 17) (N := some 32) (v := ?_) (a' := ?_) spec_l06Are.z18 rfl rfl (any_of HT_.out (by kernel_rfl)) (fun _ _ _ h => h) (Or.inl ⟨by rfl, ?_⟩) ?_ ?_
               pv_
               refine pure_ (i := 18) (N := some 33) (v := ?_) (a' := ?_) spec_l06Are.z19 rfl rfl (any_of HT_.out (by kernel_rfl)) (fun _ _ _ h => h) (Or.inl ⟨by rfl, ?_⟩) ?_ ?_
               pv_
               refine pure_ (i := 19) (N := some 34) (v := ?_) (a' := ?_) spec_l06Are.z20 rfl rfl (any_of HT_.out (by kernel_rfl)) (fun _ _ _ h => h) (Or.inl ⟨by rfl, ?_⟩) ?_ ?_
               pv_
               refine pure_ (i := 20) (N := some 35) (v := ?_) (a' := ?_) spec_l06Are.z21 rfl rfl (any_of HT_.out (by kernel_rfl)) (fun _ _ _ h => h) (Or.inl ⟨by rfl, ?_⟩) ?_ ?_
               pv_
               refine pure_ (i := 21) (N := some 36) (v := ?_) (a' := ?_) spec_l06Are.z22 rfl rfl (any_of HT_.out (by kernel_rfl)) (fun _ _ _ h => h) (Or.inl ⟨by rfl, ?_⟩) ?_ ?_
               pv_
               refine pure_ (i := 22) (N := some 37) (v := ?_) (a' := ?_) spec_l06Are.z23 rfl rfl (any_of HT_.out (by kernel_rfl)) (fun _ _ _ h => h) (Or.inl ⟨by rfl, ?_⟩) ?_ ?_
               pv_
               refine pure_ (i := 23) (N := some 38) (v := ?_) (a' := ?_) spec_l06Are.z24 rfl rfl (any_of HT_.out (by kernel_rfl)) (fun _ _ _ h => h) (Or.inl ⟨by rfl, ?_⟩) ?_ ?_
               pv_
               refine pure_ (i := 24) (N := some 39) (v := ?_) (a' := ?_) spec_l06Are.z25 rfl rfl (any_of HT_.out (by kernel_rfl)) (fun _ _ _ h => h) (Or.inl ⟨by rfl, ?_⟩) ?_ ?_
               pv_
               refine pure_ (i := 25) (N := some 40) (v := ?_) (a' := ?_) spec_l06Are.z26 rfl rfl (any_of HT_.out (by kernel_rfl)) (fun _ _ _ h => h) (Or.inl ⟨by rfl, ?_⟩) ?_ ?_
               pv_
               refine pure_ (i := 26) (N := some 41) (v := ?_) (a' := ?_) spec_l06Are.z27 rfl rfl (any_of HT_.out (by kernel_rfl)) (fun _ _ _ h => h) (Or.inl ⟨by rfl, ?_⟩) ?_ ?_
               pv_
               refine pure_ (i := 28) (N := some 43) (v := ?_) (a' := ?_) spec_l06Are.z28 rfl rfl (any_of HT_.out (by kernel_rfl)) (fun _ _ _ h => h) (Or.inl ⟨by rfl, ?_⟩) ?_ ?_
               pv_
               refine pure_ (i := 29) (N := some 44) (v := ?_) (a' := ?_) spec_l06Are.z29 rfl rfl (any_of HT_.out (by kernel_rfl)) (fun _ _ _ h => h) (Or.inl ⟨by rfl, ?_⟩) ?_ ?_
               pv_
               refine pure_ (i := 30) (N := some 45) (v := ?_) (a' := ?_) spec_l06Are.z30 rfl rfl (any_of HT_.out (by kernel_rfl)) (fun _ _ _ h => h) (Or.inl ⟨by rfl, ?_⟩) ?_ ?_
               pv_
               refine pure_ (i := 31) (N := some 46) (v := ?_) (a' := ?_) spec_l06Are.z31 rfl rfl (any_of HT_.out (by kernel_rfl)) (fun _ _ _ h => h) (Or.inl ⟨by rfl, ?_⟩) ?_ ?_
               pv_
               refine pure_ (i := 32) (N := some 47) (v := ?_) (a' := ?_) spec_l06Are.z32 rfl rfl (any_of HT_.out (by kernel_rfl)) (fun _ _ _ h => h) (Or.inl ⟨by rfl, ?_⟩) ?_ ?_
               pv_
               refine take_ (i := 27) (N := some 42) (v := ?_) (a' := ?_) spec_l06Are.z33 rfl rfl (take_ofW HT_.out HW_.out (by kernel_rfl)) (fun _ _ _ h => h) (Or.inl ⟨by rfl, ?_⟩) hHeld ?_ ?_
               rotate_left
               ·rintro w' ⟨s0, s1, s2, s3, s4, s5, s6, s7, s8, s9, s10, s11, s12, s13, s14, s15, s16, s17, s18, s19, s20, s21, s22, s23, s24, s25, s26, s27, s28, s29⟩
                go_simp
                with_reducible rfl
               rotate_left
               ·pw_
               refine take_ (i := 33) (N := some 48) (v := ?_) (a' := ?_) spec_l06Are.z34 rfl rfl (take_ofW HT_.out HW_.out (by kernel_rfl)) (fun _ _ _ h => h) (Or.inl ⟨by rfl, ?_⟩) hHeld ?_ ?_
               rotate_left
               ·rintro w' ⟨s0, s1, s2, s3, s4, s5, s6, s7, s8, s9, s10, s11, s12, s13, s14, s15, s16, s17, s18, s19, s20, s21, s22, s23, s24, s25, s26, s27, s28, s29⟩
                go_simp
                with_reducible rfl
               rotate_left
               ·pw_
               refine pure_ (i := 34) (N := some 49) (v := ?_) (a' := ?_) spec_l06Are.z35 rfl rfl (any_of HT_.out (by kernel_rfl)) (fun _ _ _ h => h) (Or.inl ⟨by rfl, ?_⟩) ?_ ?_
               pv_
               refine pure_ (i := 35) (N := some 50) (v := ?_) (a' := ?_) spec_l06Are.z36 rfl rfl (any_of HT_.out (by kernel_rfl)) (fun _ _ _ h => h) (Or.inl ⟨by rfl, ?_⟩) ?_ ?_
               pv_
               refine pure_ (i := 36) (N := some 51) (v := ?_) (a' := ?_) spec_l06Are.z37 rfl rfl (any_of HT_.out (by kernel_rfl)) (fun _ _ _ h => h) (Or.inl ⟨by rfl, ?_⟩) ?_ ?_
               pv_
               refine done_ (done_of HT_.out (by kernel_rfl)) ?_
               try go_wp2
               go_roundg kj1
               case measure => have := HK1.out; have := HJ1.out; omega
               case rel => exact ⟨(wrap64 (x3_1 + 1)), (by first | rfl | (simp; done) | (simp [*]; done)), H', ⟨by have := HK1.out; have := HJ1.out; omega⟩, ⟨by repeat (first | (with_reducible first | exact HB.out | apply below_alloc | apply pw_below_drewN | apply below_drew1) | exact HB.out)⟩⟩
              ·rw [if_neg c15] at H
               have c15b0 : (Op.bytesLess (((rd_T58 l0 (ji12)).f0).toList) (((rd_T58 l0 x3_1).f0).toList)) = false := by simpa using c15
               clear c15
               obtain rfl := Option.some.inj H
               try go_wp2
               have n0_ := Aside0.mk (below_drew1 HB.out)
               clear HB
               have HB := n0_
               clear n0_
               have p148 : 0 ≤ (x3_1 : Int) := of_decide_eq_true (by first | (with_reducible assumption) | assumption)
               have q148 : x3_1 < (l0.length : Int) := of_decide_eq_true (by first | (with_reducible assumption) | assumption)
               obtain ⟨ad148, A148_1, c148_1, e148, hx148_0, hx148_1, hx148_2, hx148_3, hx148_4, hx148_5, hl148_1, hi148_1⟩ := at_T58 HR0.out x3_1 p148 q148
               have hw148_5 := hx148_5
               have hw148_4 := hx148_4
               have hw148_3 := hx148_3
               have hw148_2 := hx148_2
               have hw148_1 := hx148_1
               have hw148_0 := hx148_0
               cases e148
               replace hx148_0 := (HB.out.cell (World.block_lt_of_cell? w _ hx148_0)).trans hx148_0
               replace hx148_1 := (HB.out.cell (World.block_lt_of_cell? w _ hx148_1)).trans hx148_1
               replace hx148_2 := (HB.out.cell (World.block_lt_of_cell? w _ hx148_2)).trans hx148_2
               replace hx148_3 := (HB.out.cell (World.block_lt_of_cell? w _ hx148_3)).trans hx148_3
               replace hx148_4 := (HB.out.cell (World.block_lt_of_cell? w _ hx148_4)).trans hx148_4
               replace hx148_5 := (HB.out.cell (World.block_lt_of_cell? w _ hx148_5)).trans hx148_5
               have HR148_1 := Aside0.mk hi148_1
               have HC148_1 := Aside0.mk hl148_1
               clear hi148_1 hl148_1
               replace p148 := eq_true p148
               replace q148 := eq_true q148
               have p150 : 0 ≤ (x3_1 : Int) := of_decide_eq_true (by first | (with_reducible assumption) | assumption)
               have q150 : x3_1 < (l0.length : Int) := of_decide_eq_true (by first | (with_reducible assumption) | assumption)
               obtain ⟨ad150, A150_1, c150_1, e150, hx150_0, hx150_1, hx150_2, hx150_3, hx150_4, hx150_5, hl150_1, hi150_1⟩ := at_T58 HR0.out x3_1 p150 q150
               have hw150_5 := hx150_5
               have hw150_4 := hx150_4
               have hw150_3 := hx150_3
               have hw150_2 := hx150_2
               have hw150_1 := hx150_1
               have hw150_0 := hx150_0
               obtain rfl : ad148 = ad150 := (by injection e150)
               replace hx150_0 := (HB.out.cell (World.block_lt_of_cell? w _ hx150_0)).trans hx150_0
               replace hx150_1 := (HB.out.cell (World.block_lt_of_cell? w _ hx150_1)).trans hx150_1
               replace hx150_2 := (HB.out.cell (World.block_lt_of_cell? w _ hx150_2)).trans hx150_2
               replace hx150_3 := (HB.out.cell (World.block_lt_of_cell? w _ hx150_3)).trans hx150_3
               replace hx150_4 := (HB.out.cell (World.block_lt_of_cell? w _ hx150_4)).trans hx150_4
               replace hx150_5 := (HB.out.cell (World.block_lt_of_cell? w _ hx150_5)).trans hx150_5
               have HR150_1 := Aside0.mk hi150_1
               have HC150_1 := Aside0.mk hl150_1
               clear hi150_1 hl150_1
               replace p150 := eq_true p150
               replace q150 := eq_true q150
               have ea_ := Option.some.inj (hx148_1.symm.trans hx150_1)
               injection ea_ with ea_ en_ ec_
               subst ea_
               subst ec_
               clear en_
               have p151 : 0 ≤ (0 : Int) := (by omega)
               have q151 : 0 < (l0.length : Int) := of_decide_eq_true (by first | (with_reducible assumption) | assumption)
               obtain ⟨ad151, A151_1, c151_1, e151, hx151_0, hx151_1, hx151_2, hx151_3, hx151_4, hx151_5, hl151_1, hi151_1⟩ := at_T58 HR0.out 0 p151 q151
               have hw151_5 := hx151_5
               (try rw [show ((0 : Int)).toNat = 0 from rfl] at hw151_5)
               (try rw [show 0 * 6 = 0 from rfl] at hw151_5)
               (try rw [Addr.add_zero'] at hw151_5)
               have hw151_4 := hx151_4
               (try rw [show ((0 : Int)).toNat = 0 from rfl] at hw151_4)
               (try rw [show 0 * 6 = 0 from rfl] at hw151_4)
               (try rw [Addr.add_zero'] at hw151_4)
               have hw151_3 := hx151_3
               (try rw [show ((0 : Int)).toNat = 0 from rfl] at hw151_3)
               (try rw [show 0 * 6 = 0 from rfl] at hw151_3)
               (try rw [Addr.add_zero'] at hw151_3)
               have hw151_2 := hx151_2
               (try rw [show ((0 : Int)).toNat = 0 from rfl] at hw151_2)
               (try rw [show 0 * 6 = 0 from rfl] at hw151_2)
               (try rw [Addr.add_zero'] at hw151_2)
               have hw151_1 := hx151_1
               (try rw [show ((0 : Int)).toNat = 0 from rfl] at hw151_1)
               (try rw [show 0 * 6 = 0 from rfl] at hw151_1)
               (try rw [Addr.add_zero'] at hw151_1)
               have hw151_0 := hx151_0
               (try rw [show ((0 : Int)).toNat = 0 from rfl] at hw151_0)
               (try rw [show 0 * 6 = 0 from rfl] at hw151_0)
               (try rw [Addr.add_zero'] at hw151_0)
               obtain rfl : ad148 = ad151 := (by injection e151)
               have qi151 : (0 < l0.length) = True := eq_true (by omega)
               (try rw [show ((0 : Int)).toNat = 0 from rfl] at hx151_0)
               (try rw [show 0 * 6 = 0 from rfl] at hx151_0)
               (try rw [Addr.add_zero'] at hx151_0)
               (try rw [show ((0 : Int)).toNat = 0 from rfl] at hx151_1)
               (try rw [show 0 * 6 = 0 from rfl] at hx151_1)
               (try rw [Addr.add_zero'] at hx151_1)
               (try rw [show ((0 : Int)).toNat = 0 from rfl] at hx151_2)
               (try rw [show 0 * 6 = 0 from rfl] at hx151_2)
               (try rw [Addr.add_zero'] at hx151_2)
               (try rw [show ((0 : Int)).toNat = 0 from rfl] at hx151_3)
               (try rw [show 0 * 6 = 0 from rfl] at hx151_3)
               (try rw [Addr.add_zero'] at hx151_3)
               (try rw [show ((0 : Int)).toNat = 0 from rfl] at hx151_4)
               (try rw [show 0 * 6 = 0 from rfl] at hx151_4)
               (try rw [Addr.add_zero'] at hx151_4)
               (try rw [show ((0 : Int)).toNat = 0 from rfl] at hx151_5)
               (try rw [show 0 * 6 = 0 from rfl] at hx151_5)
               (try rw [Addr.add_zero'] at hx151_5)
               replace hx151_0 := (HB.out.cell (World.block_lt_of_cell? w _ hx151_0)).trans hx151_0
               replace hx151_1 := (HB.out.cell (World.block_lt_of_cell? w _ hx151_1)).trans hx151_1
               replace hx151_2 := (HB.out.cell (World.block_lt_of_cell? w _ hx151_2)).trans hx151_2
               replace hx151_3 := (HB.out.cell (World.block_lt_of_cell? w _ hx151_3)).trans hx151_3
               replace hx151_4 := (HB.out.cell (World.block_lt_of_cell? w _ hx151_4)).trans hx151_4
               replace hx151_5 := (HB.out.cell (World.block_lt_of_cell? w _ hx151_5)).trans hx151_5
               have HR151_1 := Aside0.mk hi151_1
               have HC151_1 := Aside0.mk hl151_1
               clear hi151_1 hl151_1
               replace p151 := eq_true p151
               replace q151 := eq_true q151
               have p152 : 0 ≤ (x3_1 : Int) := of_decide_eq_true (by first | (with_reducible assumption) | assumption)
               have q152 : x3_1 < (l0.length : Int) := of_decide_eq_true (by first | (with_reducible assumption) | assumption)
               obtain ⟨ad152, A152_1, c152_1, e152, hx152_0, hx152_1, hx152_2, hx152_3, hx152_4, hx152_5, hl152_1, hi152_1⟩ := at_T58 HR0.out x3_1 p152 q152
               have hw152_5 := hx152_5
               have hw152_4 := hx152_4
               have hw152_3 := hx152_3
               have hw152_2 := hx152_2
               have hw152_1 := hx152_1
               have hw152_0 := hx152_0
               obtain rfl : ad148 = ad152 := (by injection e152)
               replace hx152_0 := (HB.out.cell (World.block_lt_of_cell? w _ hx152_0)).trans hx152_0
               replace hx152_1 := (HB.out.cell (World.block_lt_of_cell? w _ hx152_1)).trans hx152_1
               replace hx152_2 := (HB.out.cell (World.block_lt_of_cell? w _ hx152_2)).trans hx152_2
               replace hx152_3 := (HB.out.cell (World.block_lt_of_cell? w _ hx152_3)).trans hx152_3
               replace hx152_4 := (HB.out.cell (World.block_lt_of_cell? w _ hx152_4)).trans hx152_4
               replace hx152_5 := (HB.out.cell (World.block_lt_of_cell? w _ hx152_5)).trans hx152_5
               have HR152_1 := Aside0.mk hi152_1
               have HC152_1 := Aside0.mk hl152_1
               clear hi152_1 hl152_1
               replace p152 := eq_true p152
               replace q152 := eq_true q152
               have ea_ := Option.some.inj (hx148_1.symm.trans hx152_1)
               injection ea_ with ea_ en_ ec_
               subst ea_
               subst ec_
               clear en_
               have p153 : 0 ≤ ((ji12) : Int) := of_decide_eq_true (by first | (with_reducible assumption) | assumption)
               have q153 : (ji12) < (l0.length : Int) := of_decide_eq_true (by first | (with_reducible assumption) | assumption)
               obtain ⟨ad153, A153_1, c153_1, e153, hx153_0, hx153_1, hx153_2, hx153_3, hx153_4, hx153_5, hl153_1, hi153_1⟩ := at_T58 HR0.out (ji12) p153 q153
               have hw153_5 := hx153_5
               have hw153_4 := hx153_4
               have hw153_3 := hx153_3
               have hw153_2 := hx153_2
               have hw153_1 := hx153_1
               have hw153_0 := hx153_0
               obtain rfl : ad148 = ad153 := (by injection e153)
               replace hx153_0 := (HB.out.cell (World.block_lt_of_cell? w _ hx153_0)).trans hx153_0
               replace hx153_1 := (HB.out.cell (World.block_lt_of_cell? w _ hx153_1)).trans hx153_1
               replace hx153_2 := (HB.out.cell (World.block_lt_of_cell? w _ hx153_2)).trans hx153_2
               replace hx153_3 := (HB.out.cell (World.block_lt_of_cell? w _ hx153_3)).trans hx153_3
               replace hx153_4 := (HB.out.cell (World.block_lt_of_cell? w _ hx153_4)).trans hx153_4
               replace hx153_5 := (HB.out.cell (World.block_lt_of_cell? w _ hx153_5)).trans hx153_5
               have HR153_1 := Aside0.mk hi153_1
               have HC153_1 := Aside0.mk hl153_1
               clear hi153_1 hl153_1
               replace p153 := eq_true p153
               replace q153 := eq_true q153
               refine start_ (n := 37) (S := fun w' => w'.cell? (ad148.add ((x3_1).toNat * 6)) = some (.string ((rd_T58 l0 x3_1).f0)) ∧ w'.cell? ⟨(ad148.add ((x3_1).toNat * 6)).block, (ad148.add ((x3_1).toNat * 6)).off + 1, none⟩ = some (.slice A148_1 ((rd_T58 l0 x3_1).f1).length c148_1) ∧ w'.cell? ⟨(ad148.add ((x3_1).toNat * 6)).block, (ad148.add ((x3_1).toNat * 6)).off + 2, none⟩ = some (.float .f32 ((rd_T58 l0 x3_1).f2)) ∧ w'.cell? ⟨(ad148.add ((x3_1).toNat * 6)).block, (ad148.add ((x3_1).toNat * 6)).off + 3, none⟩ = some (.float .f32 ((rd_T58 l0 x3_1).f3)) ∧ w'.cell? ⟨(ad148.add ((x3_1).toNat * 6)).block, (ad148.add ((x3_1).toNat * 6)).off + 4, none⟩ = some (.float .f32 ((rd_T58 l0 x3_1).f4)) ∧ w'.cell? ⟨(ad148.add ((x3_1).toNat * 6)).block, (ad148.add ((x3_1).toNat * 6)).off + 5, none⟩ = some (.float .f32 ((rd_T58 l0 x3_1).f5)) ∧ w'.cell? (ad148.add ((x3_1).toNat * 6)) = some (.string ((rd_T58 l0 x3_1).f0)) ∧ w'.cell? ⟨(ad148.add ((x3_1).toNat * 6)).block, (ad148.add ((x3_1).toNat * 6)).off + 1, none⟩ = some (.slice A148_1 ((rd_T58 l0 x3_1).f1).length c148_1) ∧ w'.cell? ⟨(ad148.add ((x3_1).toNat * 6)).block, (ad148.add ((x3_1).toNat * 6)).off + 2, none⟩ = some (.float .f32 ((rd_T58 l0 x3_1).f2)) ∧ w'.cell? ⟨(ad148.add ((x3_1).toNat * 6)).block, (ad148.add ((x3_1).toNat * 6)).off + 3, none⟩ = some (.float .f32 ((rd_T58 l0 x3_1).f3)) ∧ w'.cell? ⟨(ad148.add ((x3_1).toNat * 6)).block, (ad148.add ((x3_1).toNat * 6)).off + 4, none⟩ = some (.float .f32 ((rd_T58 l0 x3_1).f4)) ∧ w'.cell? ⟨(ad148.add ((x3_1).toNat * 6)).block, (ad148.add ((x3_1).toNat * 6)).off + 5, none⟩ = some (.float .f32 ((rd_T58 l0 x3_1).f5)) ∧ w'.cell? ad148 = some (.string ((rd_T58 l0 0).f0)) ∧ w'.cell? ⟨ad148.block, ad148.off + 1, none⟩ = some (.slice A151_1 ((rd_T58 l0 0).f1).length c151_1) ∧ w'.cell? ⟨ad148.block, ad148.off + 2, none⟩ = some (.float .f32 ((rd_T58 l0 0).f2)) ∧ w'.cell? ⟨ad148.block, ad148.off + 3, none⟩ = some (.float .f32 ((rd_T58 l0 0).f3)) ∧ w'.cell? ⟨ad148.block, ad148.off + 4, none⟩ = some (.float .f32 ((rd_T58 l0 0).f4)) ∧ w'.cell? ⟨ad148.block, ad148.off + 5, none⟩ = some (.float .f32 ((rd_T58 l0 0).f5)) ∧ w'.cell? (ad148.add ((x3_1).toNat * 6)) = some (.string ((rd_T58 l0 x3_1).f0)) ∧ w'.cell? ⟨(ad148.add ((x3_1).toNat * 6)).block, (ad148.add ((x3_1).toNat * 6)).off + 1, none⟩ = some (.slice A148_1 ((rd_T58 l0 x3_1).f1).length c148_1) ∧ w'.cell? ⟨(ad148.add ((x3_1).toNat * 6)).block, (ad148.add ((x3_1).toNat * 6)).off + 2, none⟩ = some (.float .f32 ((rd_T58 l0 x3_1).f2)) ∧ w'.cell? ⟨(ad148.add ((x3_1).toNat * 6)).block, (ad148.add ((x3_1).toNat * 6)).off + 3, none⟩ = some (.float .f32 ((rd_T58 l0 x3_1).f3)) ∧ w'.cell? ⟨(ad148.add ((x3_1).toNat * 6)).block, (ad148.add ((x3_1).toNat * 6)).off + 4, none⟩ = some (.float .f32 ((rd_T58 l0 x3_1).f4)) ∧ w'.cell? ⟨(ad148.add ((x3_1).toNat * 6)).block, (ad148.add ((x3_1).toNat * 6)).off + 5, none⟩ = some (.float .f32 ((rd_T58 l0 x3_1).f5)) ∧ w'.cell? (ad148.add (((ji12)).toNat * 6)) = some (.string ((rd_T58 l0 (ji12)).f0)) ∧ w'.cell? ⟨(ad148.add (((ji12)).toNat * 6)).block, (ad148.add (((ji12)).toNat * 6)).off + 1, none⟩ = some (.slice A153_1 ((rd_T58 l0 (ji12)).f1).length c153_1) ∧ w'.cell? ⟨(ad148.add (((ji12)).toNat * 6)).block, (ad148.add (((ji12)).toNat * 6)).off + 2, none⟩ = some (.float .f32 ((rd_T58 l0 (ji12)).f2)) ∧ w'.cell? ⟨(ad148.add (((ji12)).toNat * 6)).block, (ad148.add (((ji12)).toNat * 6)).off + 3, none⟩ = some (.float .f32 ((rd_T58 l0 (ji12)).f3)) ∧ w'.cell? ⟨(ad148.add (((ji12)).toNat * 6)).block, (ad148.add (((ji12)).toNat * 6)).off + 4, none⟩ = some (.float .f32 ((rd_T58 l0 (ji12)).f4)) ∧ w'.cell? ⟨(ad148.add (((ji12)).toNat * 6)).block, (ad148.add (((ji12)).toNat * 6)).off + 5, none⟩ = some (.float .f32 ((rd_T58 l0 (ji12)).f5))) (ds := []) spec_l06Are.z0 (by kernel_rfl) rfl rfl ⟨(cu_ HB.out hw148_0), (cu_ HB.out hw148_1), (cu_ HB.out hw148_2), (cu_ HB.out hw148_3), (cu_ HB.out hw148_4), (cu_ HB.out hw148_5), (cu_ HB.out hw150_0), (cu_ HB.out hw150_1), (cu_ HB.out hw150_2), (cu_ HB.out hw150_3), (cu_ HB.out hw150_4), (cu_ HB.out hw150_5), (cu_ HB.out hw151_0), (cu_ HB.out hw151_1), (cu_ HB.out hw151_2), (cu_ HB.out hw151_3), (cu_ HB.out hw151_4), (cu_ HB.out hw151_5), (cu_ HB.out hw152_0), (cu_ HB.out hw152_1), (cu_ HB.out hw152_2), (cu_ HB.out hw152_3), (cu_ HB.out hw152_4), (cu_ HB.out hw152_5), (cu_ HB.out hw153_0), (cu_ HB.out hw153_1), (cu_ HB.out hw153_2), (cu_ HB.out hw153_3), (cu_ HB.out hw153_4), (cu_ HB.out hw153_5)⟩ (fun hHeld => ?_); refine with_tabW spec_l06Are.tab4 spec_l06Are.bits4 (fun HT_ HW_ => ?_)
               generalize wc.drew = w17 at HB HR148_1 HR150_1 HR151_1 HR152_1 HR153_1 hx148_0 hx148_1 hx148_2 hx148_3 hx148_4 hx148_5 hx150_0 hx150_1 hx150_2 hx150_3 hx150_4 hx150_5 hx151_0 hx151_1 hx151_2 hx151_3 hx151_4 hx151_5 hx152_0 hx152_1 hx152_2 hx152_3 hx152_4 hx152_5 hx153_0 hx153_1 hx153_2 hx153_3 hx153_4 hx153_5 hHeld ⊢
               refine pure_ (i := 0) (N := some 15) (v := ?_) (a' := ?_) spec_l06Are.z1 rfl rfl (any_of HT_.out (by kernel_rfl)) (fun _ _ _ h => h) (Or.inl ⟨by rfl, ?_⟩) ?_ ?_
               pv_
               refine pure_ (i := 1) (N := some 16) (v := ?_) (a' := ?_) spec_l06Are.z2 rfl rfl (any_of HT_.out (by kernel_rfl)) (fun _ _ _ h => h) (Or.inl ⟨by rfl, ?_⟩) ?_ ?_
               pv_
               refine pure_ (i := 2) (N := some 17) (v := ?_) (a' := ?_) spec_l06Are.z3 rfl rfl (any_of HT_.out (by kernel_rfl)) (fun _ _ _ h => h) (Or.inl ⟨by rfl, ?_⟩) ?_ ?_
               pv_
               refine one_ (i := 3) (N := some 18) spec_l06Are.z4 rfl rfl (one_of HT_.out (by kernel_rfl)) (by decide) (fun K hK => ?_)
               refine goes_ Tryd.func54 (by kernel_rfl) rfl #[.pointer (some (Addr.add ad148 ((x3_1 : Int).toNat * 6)))] (by rfl) rfl rfl (by (try simp only [List.map_toArray, List.map_cons, List.map_nil]); first | done | rfl | (simp only [List.length_drop, List.length_take]; rfl)) ?_
               with_reducible refine (spec_l06Sound.calls kj1 _ [rd_T58 l0 x3_1] true _ ?side1 A7.out).mono ?_
               (case side1 => refine Kd.C_sub (z := z58) ?_ x3_1 (of_eq_true p148) (by first | exact of_eq_true q148 | omega); repeat (first | exact (Kd.C_below HR0.out HB.out) | (with_reducible refine Kd.C_alloc ?_ _) | (with_reducible refine Kd.C_drewN ?_ _) | (with_reducible refine Kd.C_drew ?_)))
               rintro e w' ⟨rfl, ⟨nd, rfl⟩⟩
               refine ⟨_, rfl, ?_⟩
               refine hK.out _ _ ⟨(cu_ HB.out hw148_0), (cu_ HB.out hw148_1), (cu_ HB.out hw148_2), (cu_ HB.out hw148_3), (cu_ HB.out hw148_4), (cu_ HB.out hw148_5), (cu_ HB.out hw150_0), (cu_ HB.out hw150_1), (cu_ HB.out hw150_2), (cu_ HB.out hw150_3), (cu_ HB.out hw150_4), (cu_ HB.out hw150_5), (cu_ HB.out hw151_0), (cu_ HB.out hw151_1), (cu_ HB.out hw151_2), (cu_ HB.out hw151_3), (cu_ HB.out hw151_4), (cu_ HB.out hw151_5), (cu_ HB.out hw152_0), (cu_ HB.out hw152_1), (cu_ HB.out hw152_2), (cu_ HB.out hw152_3), (cu_ HB.out hw152_4), (cu_ HB.out hw152_5), (cu_ HB.out hw153_0), (cu_ HB.out hw153_1), (cu_ HB.out hw153_2), (cu_ HB.out hw153_3), (cu_ HB.out hw153_4), (cu_ HB.out hw153_5)⟩ (fun hHeld => ?_)
               clear hK K
               refine norm_ (a' := ?_) ?_ ?_
               rotate_left
               ·show Act.put _ (some 18) _ = _
                pw_
               refine pure_ (i := 4) (N := some 19) (v := ?_) (a' := ?_) spec_l06Are.z5 rfl rfl (any_of HT_.out (by kernel_rfl)) (fun _ _ _ h => h) (Or.inl ⟨by rfl, ?_⟩) ?_ ?_
               pv_
               refine pure_ (i := 5) (N := some 20) (v := ?_) (a' := ?_) spec_l06Are.z6 rfl rfl (any_of HT_.out (by kernel_rfl)) (fun _ _ _ h => h) (Or.inl ⟨by rfl, ?_⟩) ?_ ?_
               pv_
               refine pure_ (i := 6) (N := some 21) (v := ?_) (a' := ?_) spec_l06Are.z7 rfl rfl (any_of HT_.out (by kernel_rfl)) (fun _ _ _ h => h) (Or.inl ⟨by rfl, ?_⟩) ?_ ?_
               pv_
               refine pure_ (i := 7) (N := some 22) (v := ?_) (a' := ?_) spec_l06Are.z8 rfl rfl (any_of HT_.out (by kernel_rfl)) (fun _ _ _ h => h) (Or.inl ⟨by rfl, ?_⟩) ?_ ?_
               pv_
               refine pure_ (i := 8) (N := some 23) (v := ?_) (a' := ?_) spec_l06Are.z9 rfl rfl (any_of HT_.out (by kernel_rfl)) (fun _ _ _ h => h) (Or.inl ⟨by rfl, ?_⟩) ?_ ?_
               pv_
               refine pure_ (i := 9) (N := some 24) (v := ?_) (a' := ?_) spec_l06Are.z10 rfl rfl (any_of HT_.out (by kernel_rfl)) (fun _ _ _ h => h) (Or.inl ⟨by rfl, ?_⟩) ?_ ?_
               pv_
               refine pure_ (i := 12) (N := some 27) (v := ?_) (a' := ?_) spec_l06Are.z11 rfl rfl (any_of HT_.out (by kernel_rfl)) (fun _ _ _ h => h) (Or.inl ⟨by rfl, ?_⟩) ?_ ?_
               pv_
               refine pure_ (i := 13) (N := some 28) (v := ?_) (a' := ?_) spec_l06Are.z12 rfl rfl (any_of HT_.out (by kernel_rfl)) (fun _ _ _ h => h) (Or.inl ⟨by rfl, ?_⟩) ?_ ?_
               pv_
               refine pure_ (i := 14) (N := some 29) (v := ?_) (a' := ?_) spec_l06Are.z13 rfl rfl (any_of HT_.out (by kernel_rfl)) (fun _ _ _ h => h) (Or.inl ⟨by rfl, ?_⟩) ?_ ?_
               pv_
               refine take_ (i := 10) (N := some 25) (v := ?_) (a' := ?_) spec_l06Are.z14 rfl rfl (take_ofW HT_.out HW_.out (by kernel_rfl)) (fun _ _ _ h => h) (Or.inl ⟨by rfl, ?_⟩) hHeld ?_ ?_
               rotate_left
               ·rintro w' ⟨s0, s1, s2, s3, s4, s5, s6, s7, s8, s9, s10, s11, s12, s13, s14, s15, s16, s17, s18, s19, s20, s21, s22, s23, s24, s25, s26, s27, s28, s29⟩
                go_simp
                with_reducible rfl
               rotate_left
               ·pw_
               refine pure_ (i := 11) (N := some 26) (v := ?_) (a' := ?_) spec_l06Are.z15 rfl rfl (any_of HT_.out (by kernel_rfl)) (fun _ _ _ h => h) (Or.inl ⟨by rfl, ?_⟩) ?_ ?_
               pv_
               refine take_ (i := 15) (N := some 30) (v := ?_) (a' := ?_) spec_l06Are.z16 rfl rfl (take_ofW HT_.out HW_.out (by kernel_rfl)) (fun _ _ _ h => h) (Or.inl ⟨by rfl, ?_⟩) hHeld ?_ ?_
               rotate_left
               ·rintro w' ⟨s0, s1, s2, s3, s4, s5, s6, s7, s8, s9, s10, s11, s12, s13, s14, s15, s16, s17, s18, s19, s20, s21, s22, s23, s24, s25, s26, s27, s28, s29⟩
                go_simp
                with_reducible rfl
               rotate_left
               ·pw_
               refine pure_ (i := 16) (N := some 31) (v := ?_) (a' := ?_) spec_l06Are.z17 rfl rfl (any_of HT_.out (by kernel_rfl)) (fun _ _ _ h => h) (Or.inl ⟨by rfl, ?_⟩) ?_ ?_
               pv_
               refine pure_ (i := 17) (N := some 32) (v := ?_) (a' := ?_) spec_l06Are.z18 rfl rfl (any_of HT_.out (by kernel_rfl)) (fun _ _ _ h => h) (Or.inl ⟨by rfl, ?_⟩) ?_ ?_
               pv_
               refine pure_ (i := 18) (N := some 33) (v := ?_) (a' := ?_) spec_l06Are.z19 rfl rfl (any_of HT_.out (by kernel_rfl)) (fun _ _ _ h => h) (Or.inl ⟨by rfl, ?_⟩) ?_ ?_
               pv_
               refine pure_ (i := 19) (N := some 34) (v := ?_) (a' := ?_) spec_l06Are.z20 rfl rfl (any_of HT_.out (by kernel_rfl)) (fun _ _ _ h => h) (Or.inl ⟨by rfl, ?_⟩) ?_ ?_
               pv_
               refine pure_ (i := 20) (N := some 35) (v := ?_) (a' := ?_) spec_l06Are.z21 rfl rfl (any_of HT_.out (by kernel_rfl)) (fun _ _ _ h => h) (Or.inl ⟨by rfl, ?_⟩) ?_ ?_
               pv_
               refine pure_ (i := 21) (N := some 36) (v := ?_) (a' := ?_) spec_l06Are.z22 rfl rfl (any_of HT_.out (by kernel_rfl)) (fun _ _ _ h => h) (Or.inl ⟨by rfl, ?_⟩) ?_ ?_
               pv_
               refine pure_ (i := 22) (N := some 37) (v := ?_) (a' := ?_) spec_l06Are.z23 rfl rfl (any_of HT_.out (by kernel_rfl)) (fun _ _ _ h => h) (Or.inl ⟨by rfl, ?_⟩) ?_ ?_
               pv_
               refine pure_ (i := 23) (N := some 38) (v := ?_) (a' := ?_) spec_l06Are.z24 rfl rfl (any_of HT_.out (by kernel_rfl)) (fun _ _ _ h => h) (Or.inl ⟨by rfl, ?_⟩) ?_ ?_
               pv_
               refine pure_ (i := 24) (N := some 39) (v := ?_) (a' := ?_) spec_l06Are.z25 rfl rfl (any_of HT_.out (by kernel_rfl)) (fun _ _ _ h => h) (Or.inl ⟨by rfl, ?_⟩) ?_ ?_
               pv_
               refine pure_ (i := 25) (N := some 40) (v := ?_) (a' := ?_) spec_l06Are.z26 rfl rfl (any_of HT_.out (by kernel_rfl)) (fun _ _ _ h => h) (Or.inl ⟨by rfl, ?_⟩) ?_ ?_
               pv_
               refine pure_ (i := 26) (N := some 41) (v := ?_) (a' := ?_) spec_l06Are.z27 rfl rfl (any_of HT_.out (by kernel_rfl)) (fun _ _ _ h => h) (Or.inl ⟨by rfl, ?_⟩) ?_ ?_
               pv_
               refine pure_ (i := 28) (N := some 43) (v := ?_) (a' := ?_) spec_l06Are.z28 rfl rfl (any_of HT_.out (by kernel_rfl)) (fun _ _ _ h => h) (Or.inl ⟨by rfl, ?_⟩) ?_ ?_
               pv_
               refine pure_ (i := 29) (N := some 44) (v := ?_) (a' := ?_) spec_l06Are.z29 rfl rfl (any_of HT_.out (by kernel_rfl)) (fun _ _ _ h => h) (Or.inl ⟨by rfl, ?_⟩) ?_ ?_
               pv_
               refine pure_ (i := 30) (N := some 45) (v := ?_) (a' := ?_) spec_l06Are.z30 rfl rfl (any_of HT_.out (by kernel_rfl)) (fun _ _ _ h => h) (Or.inl ⟨by rfl, ?_⟩) ?_ ?_
               pv_
               refine pure_ (i := 31) (N := some 46) (v := ?_) (a' := ?_) spec_l06Are.z31 rfl rfl (any_of HT_.out (by kernel_rfl)) (fun _ _ _ h => h) (Or.inl ⟨by rfl, ?_⟩) ?_ ?_
               pv_
               refine pure_ (i := 32) (N := some 47) (v := ?_) (a' := ?_) spec_l06Are.z32 rfl rfl (any_of HT_.out (by kernel_rfl)) (fun _ _ _ h => h) (Or.inl ⟨by rfl, ?_⟩) ?_ ?_
               pv_
               refine take_ (i := 27) (N := some 42) (v := ?_) (a' := ?_) spec_l06Are.z33 rfl rfl (take_ofW HT_.out HW_.out (by kernel_rfl)) (fun _ _ _ h => h) (Or.inl ⟨by rfl, ?_⟩) hHeld ?_ ?_
               rotate_left
               ·rintro w' ⟨s0, s1, s2, s3, s4, s5, s6, s7, s8, s9, s10, s11, s12, s13, s14, s15, s16, s17, s18, s19, s20, s21, s22, s23, s24, s25, s26, s27, s28, s29⟩
                go_simp
                with_reducible rfl
               rotate_left
               ·pw_
               refine take_ (i := 33) (N := some 48) (v := ?_) (a' := ?_) spec_l06Are.z34 rfl rfl (take_ofW HT_.out HW_.out (by kernel_rfl)) (fun _ _ _ h => h) (Or.inl ⟨by rfl, ?_⟩) hHeld ?_ ?_
               rotate_left
               ·rintro w' ⟨s0, s1, s2, s3, s4, s5, s6, s7, s8, s9, s10, s11, s12, s13, s14, s15, s16, s17, s18, s19, s20, s21, s22, s23, s24, s25, s26, s27, s28, s29⟩
                go_simp
                with_reducible rfl
               rotate_left
               ·pw_
               refine pure_ (i := 34) (N := some 49) (v := ?_) (a' := ?_) spec_l06Are.z35 rfl rfl (any_of HT_.out (by kernel_rfl)) (fun _ _ _ h => h) (Or.inl ⟨by rfl, ?_⟩) ?_ ?_
               pv_
               refine pure_ (i := 35) (N := some 50) (v := ?_) (a' := ?_) spec_l06Are.z36 rfl rfl (any_of HT_.out (by kernel_rfl)) (fun _ _ _ h => h) (Or.inl ⟨by rfl, ?_⟩) ?_ ?_
               pv_
               refine pure_ (i := 36) (N := some 51) (v := ?_) (a' := ?_) spec_l06Are.z37 rfl rfl (any_of HT_.out (by kernel_rfl)) (fun _ _ _ h => h) (Or.inl ⟨by rfl, ?_⟩) ?_ ?_
               pv_
               refine done_ (done_of HT_.out (by kernel_rfl)) ?_
               try go_wp2
               go_ret
               exact ⟨by first | rfl | (simp [errW_none, errW_some] <;> rfl) | (simp only [← hji12]; first | rfl | (simp [errW_none, errW_some] <;> rfl)) | (simp [*, errW_none, errW_some] <;> rfl), by repeat (first | (with_reducible first | exact HB.out | apply below_alloc | apply pw_below_drewN | apply below_drew1) | exact HB.out)⟩
             ·rw [if_neg c14] at H
              exact absurd H (by simp)
            ·rw [if_neg c13] at H
             exact absurd H (by simp)
           ·rw [if_neg c11] at H
            have c11b0 : decide (0 < x3_1) = false := decide_eq_false c11
            clear c11
            have H' := Aside0.mk H
            clear H
            try go_wp2
            have n0_ := Aside0.mk (below_drew1 HB.out)
            clear HB
            have HB := n0_
            clear n0_
            have p148 : 0 ≤ (x3_1 : Int) := of_decide_eq_true (by first | (with_reducible assumption) | assumption)
            have q148 : x3_1 < (l0.length : Int) := of_decide_eq_true (by first | (with_reducible assumption) | assumption)
            obtain ⟨ad148, A148_1, c148_1, e148, hx148_0, hx148_1, hx148_2, hx148_3, hx148_4, hx148_5, hl148_1, hi148_1⟩ := at_T58 HR0.out x3_1 p148 q148
            have hw148_5 := hx148_5
            have hw148_4 := hx148_4
            have hw148_3 := hx148_3
            have hw148_2 := hx148_2
            have hw148_1 := hx148_1
            have hw148_0 := hx148_0
            cases e148
            replace hx148_0 := (HB.out.cell (World.block_lt_of_cell? w _ hx148_0)).trans hx148_0
            replace hx148_1 := (HB.out.cell (World.block_lt_of_cell? w _ hx148_1)).trans hx148_1
            replace hx148_2 := (HB.out.cell (World.block_lt_of_cell? w _ hx148_2)).trans hx148_2
            replace hx148_3 := (HB.out.cell (World.block_lt_of_cell? w _ hx148_3)).trans hx148_3
            replace hx148_4 := (HB.out.cell (World.block_lt_of_cell? w _ hx148_4)).trans hx148_4
            replace hx148_5 := (HB.out.cell (World.block_lt_of_cell? w _ hx148_5)).trans hx148_5
            have HR148_1 := Aside0.mk hi148_1
            have HC148_1 := Aside0.mk hl148_1
            clear hi148_1 hl148_1
            replace p148 := eq_true p148
            replace q148 := eq_true q148
            have p150 : 0 ≤ (x3_1 : Int) := of_decide_eq_true (by first | (with_reducible assumption) | assumption)
            have q150 : x3_1 < (l0.length : Int) := of_decide_eq_true (by first | (with_reducible assumption) | assumption)
            obtain ⟨ad150, A150_1, c150_1, e150, hx150_0, hx150_1, hx150_2, hx150_3, hx150_4, hx150_5, hl150_1, hi150_1⟩ := at_T58 HR0.out x3_1 p150 q150
            have hw150_5 := hx150_5
            have hw150_4 := hx150_4
            have hw150_3 := hx150_3
            have hw150_2 := hx150_2
            have hw150_1 := hx150_1
            have hw150_0 := hx150_0
            obtain rfl : ad148 = ad150 := (by injection e150)
            replace hx150_0 := (HB.out.cell (World.block_lt_of_cell? w _ hx150_0)).trans hx150_0
            replace hx150_1 := (HB.out.cell (World.block_lt_of_cell? w _ hx150_1)).trans hx150_1
            replace hx150_2 := (HB.out.cell (World.block_lt_of_cell? w _ hx150_2)).trans hx150_2
            replace hx150_3 := (HB.out.cell (World.block_lt_of_cell? w _ hx150_3)).trans hx150_3
            replace hx150_4 := (HB.out.cell (World.block_lt_of_cell? w _ hx150_4)).trans hx150_4
            replace hx150_5 := (HB.out.cell (World.block_lt_of_cell? w _ hx150_5)).trans hx150_5
            have HR150_1 := Aside0.mk hi150_1
            have HC150_1 := Aside0.mk hl150_1
            clear hi150_1 hl150_1
            replace p150 := eq_true p150
            replace q150 := eq_true q150
            have ea_ := Option.some.inj (hx148_1.symm.trans hx150_1)
            injection ea_ with ea_ en_ ec_
            subst ea_
            subst ec_
            clear en_
            have p151 : 0 ≤ (0 : Int) := (by omega)
            have q151 : 0 < (l0.length : Int) := of_decide_eq_true (by first | (with_reducible assumption) | assumption)
            obtain ⟨ad151, A151_1, c151_1, e151, hx151_0, hx151_1, hx151_2, hx151_3, hx151_4, hx151_5, hl151_1, hi151_1⟩ := at_T58 HR0.out 0 p151 q151
            have hw151_5 := hx151_5
            (try rw [show ((0 : Int)).toNat = 0 from rfl] at hw151_5)
            (try rw [show 0 * 6 = 0 from rfl] at hw151_5)
            (try rw [Addr.add_zero'] at hw151_5)
            have hw151_4 := hx151_4
            (try rw [show ((0 : Int)).toNat = 0 from rfl] at hw151_4)
            (try rw [show 0 * 6 = 0 from rfl] at hw151_4)
            (try rw [Addr.add_zero'] at hw151_4)
            have hw151_3 := hx151_3
            (try rw [show ((0 : Int)).toNat = 0 from rfl] at hw151_3)
            (try rw [show 0 * 6 = 0 from rfl] at hw151_3)
            (try rw [Addr.add_zero'] at hw151_3)
            have hw151_2 := hx151_2
            (try rw [show ((0 : Int)).toNat = 0 from rfl] at hw151_2)
            (try rw [show 0 * 6 = 0 from rfl] at hw151_2)
            (try rw [Addr.add_zero'] at hw151_2)
            have hw151_1 := hx151_1
            (try rw [show ((0 : Int)).toNat = 0 from rfl] at hw151_1)
            (try rw [show 0 * 6 = 0 from rfl] at hw151_1)
            (try rw [Addr.add_zero'] at hw151_1)
            have hw151_0 := hx151_0
            (try rw [show ((0 : Int)).toNat = 0 from rfl] at hw151_0)
            (try rw [show 0 * 6 = 0 from rfl] at hw151_0)
            (try rw [Addr.add_zero'] at hw151_0)
            obtain rfl : ad148 = ad151 := (by injection e151)
            have qi151 : (0 < l0.length) = True := eq_true (by omega)
            (try rw [show ((0 : Int)).toNat = 0 from rfl] at hx151_0)
            (try rw [show 0 * 6 = 0 from rfl] at hx151_0)
            (try rw [Addr.add_zero'] at hx151_0)
            (try rw [show ((0 : Int)).toNat = 0 from rfl] at hx151_1)
            (try rw [show 0 * 6 = 0 from rfl] at hx151_1)
            (try rw [Addr.add_zero'] at hx151_1)
            (try rw [show ((0 : Int)).toNat = 0 from rfl] at hx151_2)
            (try rw [show 0 * 6 = 0 from rfl] at hx151_2)
            (try rw [Addr.add_zero'] at hx151_2)
            (try rw [show ((0 : Int)).toNat = 0 from rfl] at hx151_3)
            (try rw [show 0 * 6 = 0 from rfl] at hx151_3)
            (try rw [Addr.add_zero'] at hx151_3)
            (try rw [show ((0 : Int)).toNat = 0 from rfl] at hx151_4)
            (try rw [show 0 * 6 = 0 from rfl] at hx151_4)
            (try rw [Addr.add_zero'] at hx151_4)
            (try rw [show ((0 : Int)).toNat = 0 from rfl] at hx151_5)
            (try rw [show 0 * 6 = 0 from rfl] at hx151_5)
            (try rw [Addr.add_zero'] at hx151_5)
            replace hx151_0 := (HB.out.cell (World.block_lt_of_cell? w _ hx151_0)).trans hx151_0
            replace hx151_1 := (HB.out.cell (World.block_lt_of_cell? w _ hx151_1)).trans hx151_1
            replace hx151_2 := (HB.out.cell (World.block_lt_of_cell? w _ hx151_2)).trans hx151_2
            replace hx151_3 := (HB.out.cell (World.block_lt_of_cell? w _ hx151_3)).trans hx151_3
            replace hx151_4 := (HB.out.cell (World.block_lt_of_cell? w _ hx151_4)).trans hx151_4
            replace hx151_5 := (HB.out.cell (World.block_lt_of_cell? w _ hx151_5)).trans hx151_5
            have HR151_1 := Aside0.mk hi151_1
            have HC151_1 := Aside0.mk hl151_1
            clear hi151_1 hl151_1
            replace p151 := eq_true p151
            replace q151 := eq_true q151
            refine start_ (n := 37) (S := fun w' => w'.cell? (ad148.add ((x3_1).toNat * 6)) = some (.string ((rd_T58 l0 x3_1).f0)) ∧ w'.cell? ⟨(ad148.add ((x3_1).toNat * 6)).block, (ad148.add ((x3_1).toNat * 6)).off + 1, none⟩ = some (.slice A148_1 ((rd_T58 l0 x3_1).f1).length c148_1) ∧ w'.cell? ⟨(ad148.add ((x3_1).toNat * 6)).block, (ad148.add ((x3_1).toNat * 6)).off + 2, none⟩ = some (.float .f32 ((rd_T58 l0 x3_1).f2)) ∧ w'.cell? ⟨(ad148.add ((x3_1).toNat * 6)).block, (ad148.add ((x3_1).toNat * 6)).off + 3, none⟩ = some (.float .f32 ((rd_T58 l0 x3_1).f3)) ∧ w'.cell? ⟨(ad148.add ((x3_1).toNat * 6)).block, (ad148.add ((x3_1).toNat * 6)).off + 4, none⟩ = some (.float .f32 ((rd_T58 l0 x3_1).f4)) ∧ w'.cell? ⟨(ad148.add ((x3_1).toNat * 6)).block, (ad148.add ((x3_1).toNat * 6)).off + 5, none⟩ = some (.float .f32 ((rd_T58 l0 x3_1).f5)) ∧ w'.cell? (ad148.add ((x3_1).toNat * 6)) = some (.string ((rd_T58 l0 x3_1).f0)) ∧ w'.cell? ⟨(ad148.add ((x3_1).toNat * 6)).block, (ad148.add ((x3_1).toNat * 6)).off + 1, none⟩ = some (.slice A148_1 ((rd_T58 l0 x3_1).f1).length c148_1) ∧ w'.cell? ⟨(ad148.add ((x3_1).toNat * 6)).block, (ad148.add ((x3_1).toNat * 6)).off + 2, none⟩ = some (.float .f32 ((rd_T58 l0 x3_1).f2)) ∧ w'.cell? ⟨(ad148.add ((x3_1).toNat * 6)).block, (ad148.add ((x3_1).toNat * 6)).off + 3, none⟩ = some (.float .f32 ((rd_T58 l0 x3_1).f3)) ∧ w'.cell? ⟨(ad148.add ((x3_1).toNat * 6)).block, (ad148.add ((x3_1).toNat * 6)).off + 4, none⟩ = some (.float .f32 ((rd_T58 l0 x3_1).f4)) ∧ w'.cell? ⟨(ad148.add ((x3_1).toNat * 6)).block, (ad148.add ((x3_1).toNat * 6)).off + 5, none⟩ = some (.float .f32 ((rd_T58 l0 x3_1).f5)) ∧ w'.cell? ad148 = some (.string ((rd_T58 l0 0).f0)) ∧ w'.cell? ⟨ad148.block, ad148.off + 1, none⟩ = some (.slice A151_1 ((rd_T58 l0 0).f1).length c151_1) ∧ w'.cell? ⟨ad148.block, ad148.off + 2, none⟩ = some (.float .f32 ((rd_T58 l0 0).f2)) ∧ w'.cell? ⟨ad148.block, ad148.off + 3, none⟩ = some (.float .f32 ((rd_T58 l0 0).f3)) ∧ w'.cell? ⟨ad148.block, ad148.off + 4, none⟩ = some (.float .f32 ((rd_T58 l0 0).f4)) ∧ w'.cell? ⟨ad148.block, ad148.off + 5, none⟩ = some (.float .f32 ((rd_T58 l0 0).f5))) (ds := []) spec_l06Are.z0 (by kernel_rfl) rfl rfl ⟨(cu_ HB.out hw148_0), (cu_ HB.out hw148_1), (cu_ HB.out hw148_2), (cu_ HB.out hw148_3), (cu_ HB.out hw148_4), (cu_ HB.out hw148_5), (cu_ HB.out hw150_0), (cu_ HB.out hw150_1), (cu_ HB.out hw150_2), (cu_ HB.out hw150_3), (cu_ HB.out hw150_4), (cu_ HB.out hw150_5), (cu_ HB.out hw151_0), (cu_ HB.out hw151_1), (cu_ HB.out hw151_2), (cu_ HB.out hw151_3), (cu_ HB.out hw151_4), (cu_ HB.out hw151_5)⟩ (fun hHeld => ?_); refine with_tabW spec_l06Are.tab4 spec_l06Are.bits4 (fun HT_ HW_ => ?_)
            generalize wc.drew = w18 at HB HR148_1 HR150_1 HR151_1 hx148_0 hx148_1 hx148_2 hx148_3 hx148_4 hx148_5 hx150_0 hx150_1 hx150_2 hx150_3 hx150_4 hx150_5 hx151_0 hx151_1 hx151_2 hx151_3 hx151_4 hx151_5 hHeld ⊢
            refine pure_ (i := 0) (N := some 15) (v := ?_) (a' := ?_) spec_l06Are.z1 rfl rfl (any_of HT_.out (by kernel_rfl)) (fun _ _ _ h => h) (Or.inl ⟨by rfl, ?_⟩) ?_ ?_
            pv_
            refine pure_ (i := 1) (N := some 16) (v := ?_) (a' := ?_) spec_l06Are.z2 rfl rfl (any_of HT_.out (by kernel_rfl)) (fun _ _ _ h => h) (Or.inl ⟨by rfl, ?_⟩) ?_ ?_
            pv_
            refine pure_ (i := 2) (N := some 17) (v := ?_) (a' := ?_) spec_l06Are.z3 rfl rfl (any_of HT_.out (by kernel_rfl)) (fun _ _ _ h => h) (Or.inl ⟨by rfl, ?_⟩) ?_ ?_
            pv_
            refine one_ (i := 3) (N := some 18) spec_l06Are.z4 rfl rfl (one_of HT_.out (by kernel_rfl)) (by decide) (fun K hK => ?_)
            refine goes_ Tryd.func54 (by kernel_rfl) rfl #[.pointer (some (Addr.add ad148 ((x3_1 : Int).toNat * 6)))] (by rfl) rfl rfl (by (try simp only [List.map_toArray, List.map_cons, List.map_nil]); first | done | rfl | (simp only [List.length_drop, List.length_take]; rfl)) ?_
            with_reducible refine (spec_l06Sound.calls kj1 _ [rd_T58 l0 x3_1] true _ ?side1 A7.out).mono ?_
            (case side1 => refine Kd.C_sub (z := z58) ?_ x3_1 (of_eq_true p148) (by first | exact of_eq_true q148 | omega); repeat (first | exact (Kd.C_below HR0.out HB.out) | (with_reducible refine Kd.C_alloc ?_ _) | (with_reducible refine Kd.C_drewN ?_ _) | (with_reducible refine Kd.C_drew ?_)))
            rintro e w' ⟨rfl, ⟨nd, rfl⟩⟩
            refine ⟨_, rfl, ?_⟩
            refine hK.out _ _ ⟨(cu_ HB.out hw148_0), (cu_ HB.out hw148_1), (cu_ HB.out hw148_2), (cu_ HB.out hw148_3), (cu_ HB.out hw148_4), (cu_ HB.out hw148_5), (cu_ HB.out hw150_0), (cu_ HB.out hw150_1), (cu_ HB.out hw150_2), (cu_ HB.out hw150_3), (cu_ HB.out hw150_4), (cu_ HB.out hw150_5), (cu_ HB.out hw151_0), (cu_ HB.out hw151_1), (cu_ HB.out hw151_2), (cu_ HB.out hw151_3), (cu_ HB.out hw151_4), (cu_ HB.out hw151_5)⟩ (fun hHeld => ?_)
            clear hK K
            refine norm_ (a' := ?_) ?_ ?_
            rotate_left
            ·show Act.put _ (some 18) _ = _
             pw_
            refine pure_ (i := 4) (N := some 19) (v := ?_) (a' := ?_) spec_l06Are.z5 rfl rfl (any_of HT_.out (by kernel_rfl)) (fun _ _ _ h => h) (Or.inl ⟨by rfl, ?_⟩) ?_ ?_
            pv_
            refine pure_ (i := 5) (N := some 20) (v := ?_) (a' := ?_) spec_l06Are.z6 rfl rfl (any_of HT_.out (by kernel_rfl)) (fun _ _ _ h => h) (Or.inl ⟨by rfl, ?_⟩) ?_ ?_
            pv_
            refine pure_ (i := 6) (N := some 21) (v := ?_) (a' := ?_) spec_l06Are.z7 rfl rfl (any_of HT_.out (by kernel_rfl)) (fun _ _ _ h => h) (Or.inl ⟨by rfl, ?_⟩) ?_ ?_
            pv_
            refine pure_ (i := 7) (N := some 22) (v := ?_) (a' := ?_) spec_l06Are.z8 rfl rfl (any_of HT_.out (by kernel_rfl)) (fun _ _ _ h => h) (Or.inl ⟨by rfl, ?_⟩) ?_ ?_
            pv_
            refine pure_ (i := 8) (N := some 23) (v := ?_) (a' := ?_) spec_l06Are.z9 rfl rfl (any_of HT_.out (by kernel_rfl)) (fun _ _ _ h => h) (Or.inl ⟨by rfl, ?_⟩) ?_ ?_
            pv_
            refine pure_ (i := 9) (N := some 24) (v := ?_) (a' := ?_) spec_l06Are.z10 rfl rfl (any_of HT_.out (by kernel_rfl)) (fun _ _ _ h => h) (Or.inl ⟨by rfl, ?_⟩) ?_ ?_
            pv_
            refine pure_ (i := 12) (N := some 27) (v := ?_) (a' := ?_) spec_l06Are.z11 rfl rfl (any_of HT_.out (by kernel_rfl)) (fun _ _ _ h => h) (Or.inl ⟨by rfl, ?_⟩) ?_ ?_
            pv_
            refine pure_ (i := 13) (N := some 28) (v := ?_) (a' := ?_) spec_l06Are.z12 rfl rfl (any_of HT_.out (by kernel_rfl)) (fun _ _ _ h => h) (Or.inl ⟨by rfl, ?_⟩) ?_ ?_
            pv_
            refine pure_ (i := 14) (N := some 29) (v := ?_) (a' := ?_) spec_l06Are.z13 rfl rfl (any_of HT_.out (by kernel_rfl)) (fun _ _ _ h => h) (Or.inl ⟨by rfl, ?_⟩) ?_ ?_
            pv_
            refine take_ (i := 10) (N := some 25) (v := ?_) (a' := ?_) spec_l06Are.z14 rfl rfl (take_ofW HT_.out HW_.out (by kernel_rfl)) (fun _ _ _ h => h) (Or.inl ⟨by rfl, ?_⟩) hHeld ?_ ?_
            rotate_left
            ·rintro w' ⟨s0, s1, s2, s3, s4, s5, s6, s7, s8, s9, s10, s11, s12, s13, s14, s15, s16, s17⟩
             go_simp
             with_reducible rfl
            rotate_left
            ·pw_
            refine pure_ (i := 11) (N := some 26) (v := ?_) (a' := ?_) spec_l06Are.z15 rfl rfl (any_of HT_.out (by kernel_rfl)) (fun _ _ _ h => h) (Or.inl ⟨by rfl, ?_⟩) ?_ ?_
            pv_
            refine take_ (i := 15) (N := some 30) (v := ?_) (a' := ?_) spec_l06Are.z16 rfl rfl (take_ofW HT_.out HW_.out (by kernel_rfl)) (fun _ _ _ h => h) (Or.inl ⟨by rfl, ?_⟩) hHeld ?_ ?_
            rotate_left
            ·rintro w' ⟨s0, s1, s2, s3, s4, s5, s6, s7, s8, s9, s10, s11, s12, s13, s14, s15, s16, s17⟩
             go_simp
             with_reducible rfl
            rotate_left
            ·pw_
            refine pure_ (i := 16) (N := some 31) (v := ?_) (a' := ?_) spec_l06Are.z17 rfl rfl (any_of HT_.out (by kernel_rfl)) (fun _ _ _ h => h) (Or.inl ⟨by rfl, ?_⟩) ?_ ?_
            pv_
            refine pure_ (i := 17) (N := some 32) (v := ?_) (a' := ?_) spec_l06Are.z18 rfl rfl (any_of HT_.out (by kernel_rfl)) (fun _ _ _ h => h) (Or.inl ⟨by rfl, ?_⟩) ?_ ?_
            pv_
            refine pure_ (i := 18) (N := some 33) (v := ?_) (a' := ?_) spec_l06Are.z19 rfl rfl (any_of HT_.out (by kernel_rfl)) (fun _ _ _ h => h) (Or.inl ⟨by rfl, ?_⟩) ?_ ?_
            pv_
            refine pure_ (i := 19) (N := some 34) (v := ?_) (a' := ?_) spec_l06Are.z20 rfl rfl (any_of HT_.out (by kernel_rfl)) (fun _ _ _ h => h) (Or.inl ⟨by rfl, ?_⟩) ?_ ?_
            pv_
            refine pure_ (i := 20) (N := some 35) (v := ?_) (a' := ?_) spec_l06Are.z21 rfl rfl (any_of HT_.out (by kernel_rfl)) (fun _ _ _ h => h) (Or.inl ⟨by rfl, ?_⟩) ?_ ?_
            pv_
            refine pure_ (i := 21) (N := some 36) (v := ?_) (a' := ?_) spec_l06Are.z22 rfl rfl (any_of HT_.out (by kernel_rfl)) (fun _ _ _ h => h) (Or.inl ⟨by rfl, ?_⟩) ?_ ?_
            pv_
            refine pure_ (i := 22) (N := some 37) (v := ?_) (a' := ?_) spec_l06Are.z23 rfl rfl (any_of HT_.out (by kernel_rfl)) (fun _ _ _ h => h) (Or.inl ⟨by rfl, ?_⟩) ?_ ?_
            pv_
            refine pure_ (i := 23) (N := some 38) (v := undef) (a' := ?_) spec_l06Are.z24 rfl rfl (any_of HT_.out (by kernel_rfl)) (fun _ _ _ h => h) (Or.inr ⟨by rfl, rfl⟩) ?_ ?_
            rotate_left
            ·pw_
            refine pure_ (i := 24) (N := some 39) (v := undef) (a' := ?_) spec_l06Are.z25 rfl rfl (any_of HT_.out (by kernel_rfl)) (fun _ _ _ h => h) (Or.inr ⟨by rfl, rfl⟩) ?_ ?_
            rotate_left
            ·pw_
            refine pure_ (i := 25) (N := some 40) (v := undef) (a' := ?_) spec_l06Are.z26 rfl rfl (any_of HT_.out (by kernel_rfl)) (fun _ _ _ h => h) (Or.inr ⟨by rfl, rfl⟩) ?_ ?_
            rotate_left
            ·pw_
            refine pure_ (i := 26) (N := some 41) (v := undef) (a' := ?_) spec_l06Are.z27 rfl rfl (any_of HT_.out (by kernel_rfl)) (fun _ _ _ h => h) (Or.inr ⟨by rfl, rfl⟩) ?_ ?_
            rotate_left
            ·pw_
            refine pure_ (i := 27) (N := some 42) (v := undef) (a' := ?_) spec_l06Are.z38 rfl rfl (any_of HT_.out (by kernel_rfl)) (fun _ _ _ h => h) (Or.inr ⟨by rfl, rfl⟩) ?_ ?_
            rotate_left
            ·pw_
            refine pure_ (i := 28) (N := some 43) (v := undef) (a' := ?_) spec_l06Are.z39 rfl rfl (any_of HT_.out (by kernel_rfl)) (fun _ _ _ h => h) (Or.inr ⟨by rfl, rfl⟩) ?_ ?_
            rotate_left
            ·pw_
            refine pure_ (i := 29) (N := some 44) (v := undef) (a' := ?_) spec_l06Are.z40 rfl rfl (any_of HT_.out (by kernel_rfl)) (fun _ _ _ h => h) (Or.inr ⟨by rfl, rfl⟩) ?_ ?_
            rotate_left
            ·pw_
            refine pure_ (i := 30) (N := some 45) (v := undef) (a' := ?_) spec_l06Are.z41 rfl rfl (any_of HT_.out (by kernel_rfl)) (fun _ _ _ h => h) (Or.inr ⟨by rfl, rfl⟩) ?_ ?_
            rotate_left
            ·pw_
            refine pure_ (i := 31) (N := some 46) (v := undef) (a' := ?_) spec_l06Are.z42 rfl rfl (any_of HT_.out (by kernel_rfl)) (fun _ _ _ h => h) (Or.inr ⟨by rfl, rfl⟩) ?_ ?_
            rotate_left
            ·pw_
            refine pure_ (i := 32) (N := some 47) (v := undef) (a' := ?_) spec_l06Are.z33 rfl rfl (any_of HT_.out (by kernel_rfl)) (fun _ _ _ h => h) (Or.inr ⟨by rfl, rfl⟩) ?_ ?_
            rotate_left
            ·pw_
            refine pure_ (i := 33) (N := some 48) (v := undef) (a' := ?_) spec_l06Are.z34 rfl rfl (any_of HT_.out (by kernel_rfl)) (fun _ _ _ h => h) (Or.inr ⟨by rfl, rfl⟩) ?_ ?_
            rotate_left
            ·pw_
            refine pure_ (i := 34) (N := some 49) (v := undef) (a' := ?_) spec_l06Are.z35 rfl rfl (any_of HT_.out (by kernel_rfl)) (fun _ _ _ h => h) (Or.inr ⟨by rfl, rfl⟩) ?_ ?_
            rotate_left
            ·pw_
            refine pure_ (i := 35) (N := some 50) (v := ?_) (a' := ?_) spec_l06Are.z36 rfl rfl (any_of HT_.out (by kernel_rfl)) (fun _ _ _ h => h) (Or.inl ⟨by rfl, ?_⟩) ?_ ?_
            pv_
            refine pure_ (i := 36) (N := some 51) (v := ?_) (a' := ?_) spec_l06Are.z37 rfl rfl (any_of HT_.out (by kernel_rfl)) (fun _ _ _ h => h) (Or.inl ⟨by rfl, ?_⟩) ?_ ?_
            pv_
            refine done_ (done_of HT_.out (by kernel_rfl)) ?_
            try go_wp2
            go_roundg kj1
            case measure => have := HK1.out; have := HJ1.out; omega
            case rel => exact ⟨(wrap64 (x3_1 + 1)), (by first | rfl | (simp; done) | (simp [*]; done)), H', ⟨by have := HK1.out; have := HJ1.out; omega⟩, ⟨by repeat (first | (with_reducible first | exact HB.out | apply below_alloc | apply pw_below_drewN | apply below_drew1) | exact HB.out)⟩⟩
          ·rw [if_neg c10] at H
           have c10b0 : ((((rd_T58 l0 x3_1).f1).length : Int) == (((rd_T58 l0 0).f1).length : Int)) = false := beq_eq_false_iff_ne.mpr c10
           have c10b1 : ((((rd_T58 l0 x3_1).f1).length : Int) != (((rd_T58 l0 0).f1).length : Int)) = true := bne_iff_ne.mpr c10
           have c10b2 : (((rd_T58 l0 x3_1).f1).length == ((rd_T58 l0 0).f1).length) = false := by first | simpa using c10 | (simp at c10 ⊢; omega)
           obtain rfl := Option.some.inj H
           try go_wp2
           have n0_ := Aside0.mk (below_drew1 HB.out)
           clear HB
           have HB := n0_
           clear n0_
           have p148 : 0 ≤ (x3_1 : Int) := of_decide_eq_true (by first | (with_reducible assumption) | assumption)
           have q148 : x3_1 < (l0.length : Int) := of_decide_eq_true (by first | (with_reducible assumption) | assumption)
           obtain ⟨ad148, A148_1, c148_1, e148, hx148_0, hx148_1, hx148_2, hx148_3, hx148_4, hx148_5, hl148_1, hi148_1⟩ := at_T58 HR0.out x3_1 p148 q148
           have hw148_5 := hx148_5
           have hw148_4 := hx148_4
           have hw148_3 := hx148_3
           have hw148_2 := hx148_2
           have hw148_1 := hx148_1
           have hw148_0 := hx148_0
           cases e148
           replace hx148_0 := (HB.out.cell (World.block_lt_of_cell? w _ hx148_0)).trans hx148_0
           replace hx148_1 := (HB.out.cell (World.block_lt_of_cell? w _ hx148_1)).trans hx148_1
           replace hx148_2 := (HB.out.cell (World.block_lt_of_cell? w _ hx148_2)).trans hx148_2
           replace hx148_3 := (HB.out.cell (World.block_lt_of_cell? w _ hx148_3)).trans hx148_3
           replace hx148_4 := (HB.out.cell (World.block_lt_of_cell? w _ hx148_4)).trans hx148_4
           replace hx148_5 := (HB.out.cell (World.block_lt_of_cell? w _ hx148_5)).trans hx148_5
           have HR148_1 := Aside0.mk hi148_1
           have HC148_1 := Aside0.mk hl148_1
           clear hi148_1 hl148_1
           replace p148 := eq_true p148
           replace q148 := eq_true q148
           have p150 : 0 ≤ (x3_1 : Int) := of_decide_eq_true (by first | (with_reducible assumption) | assumption)
           have q150 : x3_1 < (l0.length : Int) := of_decide_eq_true (by first | (with_reducible assumption) | assumption)
           obtain ⟨ad150, A150_1, c150_1, e150, hx150_0, hx150_1, hx150_2, hx150_3, hx150_4, hx150_5, hl150_1, hi150_1⟩ := at_T58 HR0.out x3_1 p150 q150
           have hw150_5 := hx150_5
           have hw150_4 := hx150_4
           have hw150_3 := hx150_3
           have hw150_2 := hx150_2
           have hw150_1 := hx150_1
           have hw150_0 := hx150_0
           obtain rfl : ad148 = ad150 := (by injection e150)
           replace hx150_0 := (HB.out.cell (World.block_lt_of_cell? w _ hx150_0)).trans hx150_0
           replace hx150_1 := (HB.out.cell (World.block_lt_of_cell? w _ hx150_1)).trans hx150_1
           replace hx150_2 := (HB.out.cell (World.block_lt_of_cell? w _ hx150_2)).trans hx150_2
           replace hx150_3 := (HB.out.cell (World.block_lt_of_cell? w _ hx150_3)).trans hx150_3
           replace hx150_4 := (HB.out.cell (World.block_lt_of_cell? w _ hx150_4)).trans hx150_4
           replace hx150_5 := (HB.out.cell (World.block_lt_of_cell? w _ hx150_5)).trans hx150_5
           have HR150_1 := Aside0.mk hi150_1
           have HC150_1 := Aside0.mk hl150_1
           clear hi150_1 hl150_1
           replace p150 := eq_true p150
           replace q150 := eq_true q150
           have ea_ := Option.some.inj (hx148_1.symm.trans hx150_1)
           injection ea_ with ea_ en_ ec_
           subst ea_
           subst ec_
           clear en_
           have p151 : 0 ≤ (0 : Int) := (by omega)
           have q151 : 0 < (l0.length : Int) := of_decide_eq_true (by first | (with_reducible assumption) | assumption)
           obtain ⟨ad151, A151_1, c151_1, e151, hx151_0, hx151_1, hx151_2, hx151_3, hx151_4, hx151_5, hl151_1, hi151_1⟩ := at_T58 HR0.out 0 p151 q151
           have hw151_5 := hx151_5
           (try rw [show ((0 : Int)).toNat = 0 from rfl] at hw151_5)
           (try rw [show 0 * 6 = 0 from rfl] at hw151_5)
           (try rw [Addr.add_zero'] at hw151_5)
           have hw151_4 := hx151_4
           (try rw [show ((0 : Int)).toNat = 0 from rfl] at hw151_4)
           (try rw [show 0 * 6 = 0 from rfl] at hw151_4)
           (try rw [Addr.add_zero'] at hw151_4)
           have hw151_3 := hx151_3
           (try rw [show ((0 : Int)).toNat = 0 from rfl] at hw151_3)
           (try rw [show 0 * 6 = 0 from rfl] at hw151_3)
           (try rw [Addr.add_zero'] at hw151_3)
           have hw151_2 := hx151_2
           (try rw [show ((0 : Int)).toNat = 0 from rfl] at hw151_2)
           (try rw [show 0 * 6 = 0 from rfl] at hw151_2)
           (try rw [Addr.add_zero'] at hw151_2)
           have hw151_1 := hx151_1
           (try rw [show ((0 : Int)).toNat = 0 from rfl] at hw151_1)
           (try rw [show 0 * 6 = 0 from rfl] at hw151_1)
           (try rw [Addr.add_zero'] at hw151_1)
           have hw151_0 := hx151_0
           (try rw [show ((0 : Int)).toNat = 0 from rfl] at hw151_0)
           (try rw [show 0 * 6 = 0 from rfl] at hw151_0)
           (try rw [Addr.add_zero'] at hw151_0)
           obtain rfl : ad148 = ad151 := (by injection e151)
           have qi151 : (0 < l0.length) = True := eq_true (by omega)
           (try rw [show ((0 : Int)).toNat = 0 from rfl] at hx151_0)
           (try rw [show 0 * 6 = 0 from rfl] at hx151_0)
           (try rw [Addr.add_zero'] at hx151_0)
           (try rw [show ((0 : Int)).toNat = 0 from rfl] at hx151_1)
           (try rw [show 0 * 6 = 0 from rfl] at hx151_1)
           (try rw [Addr.add_zero'] at hx151_1)
           (try rw [show ((0 : Int)).toNat = 0 from rfl] at hx151_2)
           (try rw [show 0 * 6 = 0 from rfl] at hx151_2)
           (try rw [Addr.add_zero'] at hx151_2)
           (try rw [show ((0 : Int)).toNat = 0 from rfl] at hx151_3)
           (try rw [show 0 * 6 = 0 from rfl] at hx151_3)
           (try rw [Addr.add_zero'] at hx151_3)
           (try rw [show ((0 : Int)).toNat = 0 from rfl] at hx151_4)
           (try rw [show 0 * 6 = 0 from rfl] at hx151_4)
           (try rw [Addr.add_zero'] at hx151_4)
           (try rw [show ((0 : Int)).toNat = 0 from rfl] at hx151_5)
           (try rw [show 0 * 6 = 0 from rfl] at hx151_5)
           (try rw [Addr.add_zero'] at hx151_5)
           replace hx151_0 := (HB.out.cell (World.block_lt_of_cell? w _ hx151_0)).trans hx151_0
           replace hx151_1 := (HB.out.cell (World.block_lt_of_cell? w _ hx151_1)).trans hx151_1
           replace hx151_2 := (HB.out.cell (World.block_lt_of_cell? w _ hx151_2)).trans hx151_2
           replace hx151_3 := (HB.out.cell (World.block_lt_of_cell? w _ hx151_3)).trans hx151_3
           replace hx151_4 := (HB.out.cell (World.block_lt_of_cell? w _ hx151_4)).trans hx151_4
           replace hx151_5 := (HB.out.cell (World.block_lt_of_cell? w _ hx151_5)).trans hx151_5
           have HR151_1 := Aside0.mk hi151_1
           have HC151_1 := Aside0.mk hl151_1
           clear hi151_1 hl151_1
           replace p151 := eq_true p151
           replace q151 := eq_true q151
           refine start_ (n := 37) (S := fun w' => w'.cell? (ad148.add ((x3_1).toNat * 6)) = some (.string ((rd_T58 l0 x3_1).f0)) ∧ w'.cell? ⟨(ad148.add ((x3_1).toNat * 6)).block, (ad148.add ((x3_1).toNat * 6)).off + 1, none⟩ = some (.slice A148_1 ((rd_T58 l0 x3_1).f1).length c148_1) ∧ w'.cell? ⟨(ad148.add ((x3_1).toNat * 6)).block, (ad148.add ((x3_1).toNat * 6)).off + 2, none⟩ = some (.float .f32 ((rd_T58 l0 x3_1).f2)) ∧ w'.cell? ⟨(ad148.add ((x3_1).toNat * 6)).block, (ad148.add ((x3_1).toNat * 6)).off + 3, none⟩ = some (.float .f32 ((rd_T58 l0 x3_1).f3)) ∧ w'.cell? ⟨(ad148.add ((x3_1).toNat * 6)).block, (ad148.add ((x3_1).toNat * 6)).off + 4, none⟩ = some (.float .f32 ((rd_T58 l0 x3_1).f4)) ∧ w'.cell? ⟨(ad148.add ((x3_1).toNat * 6)).block, (ad148.add ((x3_1).toNat * 6)).off + 5, none⟩ = some (.float .f32 ((rd_T58 l0 x3_1).f5)) ∧ w'.cell? (ad148.add ((x3_1).toNat * 6)) = some (.string ((rd_T58 l0 x3_1).f0)) ∧ w'.cell? ⟨(ad148.add ((x3_1).toNat * 6)).block, (ad148.add ((x3_1).toNat * 6)).off + 1, none⟩ = some (.slice A148_1 ((rd_T58 l0 x3_1).f1).length c148_1) ∧ w'.cell? ⟨(ad148.add ((x3_1).toNat * 6)).block, (ad148.add ((x3_1).toNat * 6)).off + 2, none⟩ = some (.float .f32 ((rd_T58 l0 x3_1).f2)) ∧ w'.cell? ⟨(ad148.add ((x3_1).toNat * 6)).block, (ad148.add ((x3_1).toNat * 6)).off + 3, none⟩ = some (.float .f32 ((rd_T58 l0 x3_1).f3)) ∧ w'.cell? ⟨(ad148.add ((x3_1).toNat * 6)).block, (ad148.add ((x3_1).toNat * 6)).off + 4, none⟩ = some (.float .f32 ((rd_T58 l0 x3_1).f4)) ∧ w'.cell? ⟨(ad148.add ((x3_1).toNat * 6)).block, (ad148.add ((x3_1).toNat * 6)).off + 5, none⟩ = some (.float .f32 ((rd_T58 l0 x3_1).f5)) ∧ w'.cell? ad148 = some (.string ((rd_T58 l0 0).f0)) ∧ w'.cell? ⟨ad148.block, ad148.off + 1, none⟩ = some (.slice A151_1 ((rd_T58 l0 0).f1).length c151_1) ∧ w'.cell? ⟨ad148.block, ad148.off + 2, none⟩ = some (.float .f32 ((rd_T58 l0 0).f2)) ∧ w'.cell? ⟨ad148.block, ad148.off + 3, none⟩ = some (.float .f32 ((rd_T58 l0 0).f3)) ∧ w'.cell? ⟨ad148.block, ad148.off + 4, none⟩ = some (.float .f32 ((rd_T58 l0 0).f4)) ∧ w'.cell? ⟨ad148.block, ad148.off + 5, none⟩ = some (.float .f32 ((rd_T58 l0 0).f5))) (ds := []) spec_l06Are.z0 (by kernel_rfl) rfl rfl ⟨(cu_ HB.out hw148_0), (cu_ HB.out hw148_1), (cu_ HB.out hw148_2), (cu_ HB.out hw148_3), (cu_ HB.out hw148_4), (cu_ HB.out hw148_5), (cu_ HB.out hw150_0), (cu_ HB.out hw150_1), (cu_ HB.out hw150_2), (cu_ HB.out hw150_3), (cu_ HB.out hw150_4), (cu_ HB.out hw150_5), (cu_ HB.out hw151_0), (cu_ HB.out hw151_1), (cu_ HB.out hw151_2), (cu_ HB.out hw151_3), (cu_ HB.out hw151_4), (cu_ HB.out hw151_5)⟩ (fun hHeld => ?_); refine with_tabW spec_l06Are.tab4 spec_l06Are.bits4 (fun HT_ HW_ => ?_)
           generalize wc.drew = w19 at HB HR148_1 HR150_1 HR151_1 hx148_0 hx148_1 hx148_2 hx148_3 hx148_4 hx148_5 hx150_0 hx150_1 hx150_2 hx150_3 hx150_4 hx150_5 hx151_0 hx151_1 hx151_2 hx151_3 hx151_4 hx151_5 hHeld ⊢
           refine pure_ (i := 0) (N := some 15) (v := ?_) (a' := ?_) spec_l06Are.z1 rfl rfl (any_of HT_.out (by kernel_rfl)) (fun _ _ _ h => h) (Or.inl ⟨by rfl, ?_⟩) ?_ ?_
           pv_
           refine pure_ (i := 1) (N := some 16) (v := ?_) (a' := ?_) spec_l06Are.z2 rfl rfl (any_of HT_.out (by kernel_rfl)) (fun _ _ _ h => h) (Or.inl ⟨by rfl, ?_⟩) ?_ ?_
           pv_
           refine pure_ (i := 2) (N := some 17) (v := ?_) (a' := ?_) spec_l06Are.z3 rfl rfl (any_of HT_.out (by kernel_rfl)) (fun _ _ _ h => h) (Or.inl ⟨by rfl, ?_⟩) ?_ ?_
           pv_
           refine one_ (i := 3) (N := some 18) spec_l06Are.z4 rfl rfl (one_of HT_.out (by kernel_rfl)) (by decide) (fun K hK => ?_)
           refine goes_ Tryd.func54 (by kernel_rfl) rfl #[.pointer (some (Addr.add ad148 ((x3_1 : Int).toNat * 6)))] (by rfl) rfl rfl (by (try simp only [List.map_toArray, List.map_cons, List.map_nil]); first | done | rfl | (simp only [List.length_drop, List.length_take]; rfl)) ?_
           with_reducible refine (spec_l06Sound.calls kj1 _ [rd_T58 l0 x3_1] true _ ?side1 A7.out).mono ?_
           (case side1 => refine Kd.C_sub (z := z58) ?_ x3_1 (of_eq_true p148) (by first | exact of_eq_true q148 | omega); repeat (first | exact (Kd.C_below HR0.out HB.out) | (with_reducible refine Kd.C_alloc ?_ _) | (with_reducible refine Kd.C_drewN ?_ _) | (with_reducible refine Kd.C_drew ?_)))
           rintro e w' ⟨rfl, ⟨nd, rfl⟩⟩
           refine ⟨_, rfl, ?_⟩
           refine hK.out _ _ ⟨(cu_ HB.out hw148_0), (cu_ HB.out hw148_1), (cu_ HB.out hw148_2), (cu_ HB.out hw148_3), (cu_ HB.out hw148_4), (cu_ HB.out hw148_5), (cu_ HB.out hw150_0), (cu_ HB.out hw150_1), (cu_ HB.out hw150_2), (cu_ HB.out hw150_3), (cu_ HB.out hw150_4), (cu_ HB.out hw150_5), (cu_ HB.out hw151_0), (cu_ HB.out hw151_1), (cu_ HB.out hw151_2), (cu_ HB.out hw151_3), (cu_ HB.out hw151_4), (cu_ HB.out hw151_5)⟩ (fun hHeld => ?_)
           clear hK K
           refine norm_ (a' := ?_) ?_ ?_
           rotate_left
           ·show Act.put _ (some 18) _ = _
            pw_
           refine pure_ (i := 4) (N := some 19) (v := ?_) (a' := ?_) spec_l06Are.z5 rfl rfl (any_of HT_.out (by kernel_rfl)) (fun _ _ _ h => h) (Or.inl ⟨by rfl, ?_⟩) ?_ ?_
           pv_
           refine pure_ (i := 5) (N := some 20) (v := ?_) (a' := ?_) spec_l06Are.z6 rfl rfl (any_of HT_.out (by kernel_rfl)) (fun _ _ _ h => h) (Or.inl ⟨by rfl, ?_⟩) ?_ ?_
           pv_
           refine pure_ (i := 6) (N := some 21) (v := ?_) (a' := ?_) spec_l06Are.z7 rfl rfl (any_of HT_.out (by kernel_rfl)) (fun _ _ _ h => h) (Or.inl ⟨by rfl, ?_⟩) ?_ ?_
           pv_
           refine pure_ (i := 7) (N := some 22) (v := ?_) (a' := ?_) spec_l06Are.z8 rfl rfl (any_of HT_.out (by kernel_rfl)) (fun _ _ _ h => h) (Or.inl ⟨by rfl, ?_⟩) ?_ ?_
           pv_
           refine pure_ (i := 8) (N := some 23) (v := ?_) (a' := ?_) spec_l06Are.z9 rfl rfl (any_of HT_.out (by kernel_rfl)) (fun _ _ _ h => h) (Or.inl ⟨by rfl, ?_⟩) ?_ ?_
           pv_
           refine pure_ (i := 9) (N := some 24) (v := ?_) (a' := ?_) spec_l06Are.z10 rfl rfl (any_of HT_.out (by kernel_rfl)) (fun _ _ _ h => h) (Or.inl ⟨by rfl, ?_⟩) ?_ ?_
           pv_
           refine pure_ (i := 12) (N := some 27) (v := ?_) (a' := ?_) spec_l06Are.z11 rfl rfl (any_of HT_.out (by kernel_rfl)) (fun _ _ _ h => h) (Or.inl ⟨by rfl, ?_⟩) ?_ ?_
           pv_
           refine pure_ (i := 13) (N := some 28) (v := ?_) (a' := ?_) spec_l06Are.z12 rfl rfl (any_of HT_.out (by kernel_rfl)) (fun _ _ _ h => h) (Or.inl ⟨by rfl, ?_⟩) ?_ ?_
           pv_
           refine pure_ (i := 14) (N := some 29) (v := ?_) (a' := ?_) spec_l06Are.z13 rfl rfl (any_of HT_.out (by kernel_rfl)) (fun _ _ _ h => h) (Or.inl ⟨by rfl, ?_⟩) ?_ ?_
           pv_
           refine take_ (i := 10) (N := some 25) (v := ?_) (a' := ?_) spec_l06Are.z14 rfl rfl (take_ofW HT_.out HW_.out (by kernel_rfl)) (fun _ _ _ h => h) (Or.inl ⟨by rfl, ?_⟩) hHeld ?_ ?_
           rotate_left
           ·rintro w' ⟨s0, s1, s2, s3, s4, s5, s6, s7, s8, s9, s10, s11, s12, s13, s14, s15, s16, s17⟩
            go_simp
            with_reducible rfl
           rotate_left
           ·pw_
           refine pure_ (i := 11) (N := some 26) (v := ?_) (a' := ?_) spec_l06Are.z15 rfl rfl (any_of HT_.out (by kernel_rfl)) (fun _ _ _ h => h) (Or.inl ⟨by rfl, ?_⟩) ?_ ?_
           pv_
           refine take_ (i := 15) (N := some 30) (v := ?_) (a' := ?_) spec_l06Are.z16 rfl rfl (take_ofW HT_.out HW_.out (by kernel_rfl)) (fun _ _ _ h => h) (Or.inl ⟨by rfl, ?_⟩) hHeld ?_ ?_
           rotate_left
           ·rintro w' ⟨s0, s1, s2, s3, s4, s5, s6, s7, s8, s9, s10, s11, s12, s13, s14, s15, s16, s17⟩
            go_simp
            with_reducible rfl
           rotate_left
           ·pw_
           refine pure_ (i := 16) (N := some 31) (v := ?_) (a' := ?_) spec_l06Are.z17 rfl rfl (any_of HT_.out (by kernel_rfl)) (fun _ _ _ h => h) (Or.inl ⟨by rfl, ?_⟩) ?_ ?_
           pv_
           refine pure_ (i := 17) (N := some 32) (v := ?_) (a' := ?_) spec_l06Are.z18 rfl rfl (any_of HT_.out (by kernel_rfl)) (fun _ _ _ h => h) (Or.inl ⟨by rfl, ?_⟩) ?_ ?_
           pv_
           refine pure_ (i := 18) (N := some 33) (v := ?_) (a' := ?_) spec_l06Are.z19 rfl rfl (any_of HT_.out (by kernel_rfl)) (fun _ _ _ h => h) (Or.inl ⟨by rfl, ?_⟩) ?_ ?_
           pv_
           refine pure_ (i := 19) (N := some 34) (v := ?_) (a' := ?_) spec_l06Are.z20 rfl rfl (any_of HT_.out (by kernel_rfl)) (fun _ _ _ h => h) (Or.inl ⟨by rfl, ?_⟩) ?_ ?_
           pv_
           refine pure_ (i := 20) (N := some 35) (v := undef) (a' := ?_) spec_l06Are.z21 rfl rfl (any_of HT_.out (by kernel_rfl)) (fun _ _ _ h => h) (Or.inr ⟨by rfl, rfl⟩) ?_ ?_
           rotate_left
           ·pw_
           refine pure_ (i := 21) (N := some 36) (v := undef) (a' := ?_) spec_l06Are.z22 rfl rfl (any_of HT_.out (by kernel_rfl)) (fun _ _ _ h => h) (Or.inr ⟨by rfl, rfl⟩) ?_ ?_
           rotate_left
           ·pw_
           refine pure_ (i := 22) (N := some 37) (v := undef) (a' := ?_) spec_l06Are.z23 rfl rfl (any_of HT_.out (by kernel_rfl)) (fun _ _ _ h => h) (Or.inr ⟨by rfl, rfl⟩) ?_ ?_
           rotate_left
           ·pw_
           refine pure_ (i := 23) (N := some 38) (v := undef) (a' := ?_) spec_l06Are.z24 rfl rfl (any_of HT_.out (by kernel_rfl)) (fun _ _ _ h => h) (Or.inr ⟨by rfl, rfl⟩) ?_ ?_
           rotate_left
           ·pw_
           refine pure_ (i := 24) (N := some 39) (v := undef) (a' := ?_) spec_l06Are.z25 rfl rfl (any_of HT_.out (by kernel_rfl)) (fun _ _ _ h => h) (Or.inr ⟨by rfl, rfl⟩) ?_ ?_
           rotate_left
           ·pw_
           refine pure_ (i := 25) (N := some 40) (v := undef) (a' := ?_) spec_l06Are.z26 rfl rfl (any_of HT_.out (by kernel_rfl)) (fun _ _ _ h => h) (Or.inr ⟨by rfl, rfl⟩) ?_ ?_
           rotate_left
           ·pw_
           refine pure_ (i := 26) (N := some 41) (v := undef) (a' := ?_) spec_l06Are.z27 rfl rfl (any_of HT_.out (by kernel_rfl)) (fun _ _ _ h => h) (Or.inr ⟨by rfl, rfl⟩) ?_ ?_
           rotate_left
           ·pw_
           refine pure_ (i := 27) (N := some 42) (v := undef) (a' := ?_) spec_l06Are.z38 rfl rfl (any_of HT_.out (by kernel_rfl)) (fun _ _ _ h => h) (Or.inr ⟨by rfl, rfl⟩) ?_ ?_
           rotate_left
           ·pw_
           refine pure_ (i := 28) (N := some 43) (v := undef) (a' := ?_) spec_l06Are.z39 rfl rfl (any_of HT_.out (by kernel_rfl)) (fun _ _ _ h => h) (Or.inr ⟨by rfl, rfl⟩) ?_ ?_
           rotate_left
           ·pw_
           refine pure_ (i := 29) (N := some 44) (v := undef) (a' := ?_) spec_l06Are.z40 rfl rfl (any_of HT_.out (by kernel_rfl)) (fun _ _ _ h => h) (Or.inr ⟨by rfl, rfl⟩) ?_ ?_
           rotate_left
           ·pw_
           refine pure_ (i := 30) (N := some 45) (v := undef) (a' := ?_) spec_l06Are.z41 rfl rfl (any_of HT_.out (by kernel_rfl)) (fun _ _ _ h => h) (Or.inr ⟨by rfl, rfl⟩) ?_ ?_
           rotate_left
           ·pw_
           refine pure_ (i := 31) (N := some 46) (v := undef) (a' := ?_) spec_l06Are.z42 rfl rfl (any_of HT_.out (by kernel_rfl)) (fun _ _ _ h => h) (Or.inr ⟨by rfl, rfl⟩) ?_ ?_
           rotate_left
           ·pw_
           refine pure_ (i := 32) (N := some 47) (v := undef) (a' := ?_) spec_l06Are.z33 rfl rfl (any_of HT_.out (by kernel_rfl)) (fun _ _ _ h => h) (Or.inr ⟨by rfl, rfl⟩) ?_ ?_
           rotate_left
           ·pw_
           refine pure_ (i := 33) (N := some 48) (v := undef) (a' := ?_) spec_l06Are.z34 rfl rfl (any_of HT_.out (by kernel_rfl)) (fun _ _ _ h => h) (Or.inr ⟨by rfl, rfl⟩) ?_ ?_
           rotate_left
           ·pw_
           refine pure_ (i := 34) (N := some 49) (v := undef) (a' := ?_) spec_l06Are.z35 rfl rfl (any_of HT_.out (by kernel_rfl)) (fun _ _ _ h => h) (Or.inr ⟨by rfl, rfl⟩) ?_ ?_
           rotate_left
           ·pw_
           refine pure_ (i := 35) (N := some 50) (v := undef) (a' := ?_) spec_l06Are.z36 rfl rfl (any_of HT_.out (by kernel_rfl)) (fun _ _ _ h => h) (Or.inr ⟨by rfl, rfl⟩) ?_ ?_
           rotate_left
           ·pw_
           refine pure_ (i := 36) (N := some 51) (v := ?_) (a' := ?_) spec_l06Are.z37 rfl rfl (any_of HT_.out (by kernel_rfl)) (fun _ _ _ h => h) (Or.inl ⟨by rfl, ?_⟩) ?_ ?_
           pv_
           refine done_ (done_of HT_.out (by kernel_rfl)) ?_
           try go_wp2
           go_ret
           exact ⟨by first | rfl | (simp [errW_none, errW_some] <;> rfl) | (simp [*, errW_none, errW_some] <;> rfl), by repeat (first | (with_reducible first | exact HB.out | apply below_alloc | apply pw_below_drewN | apply below_drew1) | exact HB.out)⟩
         ·rw [if_neg c9] at H
          exact absurd H (by simp)
        ·replace c8 := Bool.eq_false_iff.mpr c8
         subst c8
         have H1 : (some false) = some r := by rw [if_neg (show ¬ (false = true) by decide)] at H; exact H
         clear H
         have H := H1
         clear H1
         obtain rfl := Option.some.inj H
         try go_wp2
         have n0_ := Aside0.mk (below_drew1 HB.out)
         clear HB
         have HB := n0_
         clear n0_
         have p148 : 0 ≤ (x3_1 : Int) := of_decide_eq_true (by first | (with_reducible assumption) | assumption)
         have q148 : x3_1 < (l0.length : Int) := of_decide_eq_true (by first | (with_reducible assumption) | assumption)
         obtain ⟨ad148, A148_1, c148_1, e148, hx148_0, hx148_1, hx148_2, hx148_3, hx148_4, hx148_5, hl148_1, hi148_1⟩ := at_T58 HR0.out x3_1 p148 q148
         have hw148_5 := hx148_5
         have hw148_4 := hx148_4
         have hw148_3 := hx148_3
         have hw148_2 := hx148_2
         have hw148_1 := hx148_1
         have hw148_0 := hx148_0
         cases e148
         replace hx148_0 := (HB.out.cell (World.block_lt_of_cell? w _ hx148_0)).trans hx148_0
         replace hx148_1 := (HB.out.cell (World.block_lt_of_cell? w _ hx148_1)).trans hx148_1
         replace hx148_2 := (HB.out.cell (World.block_lt_of_cell? w _ hx148_2)).trans hx148_2
         replace hx148_3 := (HB.out.cell (World.block_lt_of_cell? w _ hx148_3)).trans hx148_3
         replace hx148_4 := (HB.out.cell (World.block_lt_of_cell? w _ hx148_4)).trans hx148_4
         replace hx148_5 := (HB.out.cell (World.block_lt_of_cell? w _ hx148_5)).trans hx148_5
         have HR148_1 := Aside0.mk hi148_1
         have HC148_1 := Aside0.mk hl148_1
         clear hi148_1 hl148_1
         replace p148 := eq_true p148
         replace q148 := eq_true q148
         refine start_ (n := 37) (S := fun w' => w'.cell? (ad148.add ((x3_1).toNat * 6)) = some (.string ((rd_T58 l0 x3_1).f0)) ∧ w'.cell? ⟨(ad148.add ((x3_1).toNat * 6)).block, (ad148.add ((x3_1).toNat * 6)).off + 1, none⟩ = some (.slice A148_1 ((rd_T58 l0 x3_1).f1).length c148_1) ∧ w'.cell? ⟨(ad148.add ((x3_1).toNat * 6)).block, (ad148.add ((x3_1).toNat * 6)).off + 2, none⟩ = some (.float .f32 ((rd_T58 l0 x3_1).f2)) ∧ w'.cell? ⟨(ad148.add ((x3_1).toNat * 6)).block, (ad148.add ((x3_1).toNat * 6)).off + 3, none⟩ = some (.float .f32 ((rd_T58 l0 x3_1).f3)) ∧ w'.cell? ⟨(ad148.add ((x3_1).toNat * 6)).block, (ad148.add ((x3_1).toNat * 6)).off + 4, none⟩ = some (.float .f32 ((rd_T58 l0 x3_1).f4)) ∧ w'.cell? ⟨(ad148.add ((x3_1).toNat * 6)).block, (ad148.add ((x3_1).toNat * 6)).off + 5, none⟩ = some (.float .f32 ((rd_T58 l0 x3_1).f5))) (ds := []) spec_l06Are.z0 (by kernel_rfl) rfl rfl ⟨(cu_ HB.out hw148_0), (cu_ HB.out hw148_1), (cu_ HB.out hw148_2), (cu_ HB.out hw148_3), (cu_ HB.out hw148_4), (cu_ HB.out hw148_5)⟩ (fun hHeld => ?_); refine with_tabW spec_l06Are.tab4 spec_l06Are.bits4 (fun HT_ HW_ => ?_)
         generalize wc.drew = w20 at HB HR148_1 hx148_0 hx148_1 hx148_2 hx148_3 hx148_4 hx148_5 hHeld ⊢
         refine pure_ (i := 0) (N := some 15) (v := ?_) (a' := ?_) spec_l06Are.z1 rfl rfl (any_of HT_.out (by kernel_rfl)) (fun _ _ _ h => h) (Or.inl ⟨by rfl, ?_⟩) ?_ ?_
         pv_
         refine pure_ (i := 1) (N := some 16) (v := ?_) (a' := ?_) spec_l06Are.z2 rfl rfl (any_of HT_.out (by kernel_rfl)) (fun _ _ _ h => h) (Or.inl ⟨by rfl, ?_⟩) ?_ ?_
         pv_
         refine pure_ (i := 2) (N := some 17) (v := ?_) (a' := ?_) spec_l06Are.z3 rfl rfl (any_of HT_.out (by kernel_rfl)) (fun _ _ _ h => h) (Or.inl ⟨by rfl, ?_⟩) ?_ ?_
         pv_
         refine one_ (i := 3) (N := some 18) spec_l06Are.z4 rfl rfl (one_of HT_.out (by kernel_rfl)) (by decide) (fun K hK => ?_)
         refine goes_ Tryd.func54 (by kernel_rfl) rfl #[.pointer (some (Addr.add ad148 ((x3_1 : Int).toNat * 6)))] (by rfl) rfl rfl (by (try simp only [List.map_toArray, List.map_cons, List.map_nil]); first | done | rfl | (simp only [List.length_drop, List.length_take]; rfl)) ?_
         with_reducible refine (spec_l06Sound.calls kj1 _ [rd_T58 l0 x3_1] false _ ?side1 A7.out).mono ?_
         (case side1 => refine Kd.C_sub (z := z58) ?_ x3_1 (of_eq_true p148) (by first | exact of_eq_true q148 | omega); repeat (first | exact (Kd.C_below HR0.out HB.out) | (with_reducible refine Kd.C_alloc ?_ _) | (with_reducible refine Kd.C_drewN ?_ _) | (with_reducible refine Kd.C_drew ?_)))
         rintro e w' ⟨rfl, ⟨nd, rfl⟩⟩
         refine ⟨_, rfl, ?_⟩
         refine hK.out _ _ ⟨(cu_ HB.out hw148_0), (cu_ HB.out hw148_1), (cu_ HB.out hw148_2), (cu_ HB.out hw148_3), (cu_ HB.out hw148_4), (cu_ HB.out hw148_5)⟩ (fun hHeld => ?_)
         clear hK K
         refine norm_ (a' := ?_) ?_ ?_
         rotate_left
         ·show Act.put _ (some 18) _ = _
          pw_
         refine pure_ (i := 4) (N := some 19) (v := ?_) (a' := ?_) spec_l06Are.z5 rfl rfl (any_of HT_.out (by kernel_rfl)) (fun _ _ _ h => h) (Or.inl ⟨by rfl, ?_⟩) ?_ ?_
         pv_
         refine pure_ (i := 5) (N := some 20) (v := ?_) (a' := ?_) spec_l06Are.z6 rfl rfl (any_of HT_.out (by kernel_rfl)) (fun _ _ _ h => h) (Or.inl ⟨by rfl, ?_⟩) ?_ ?_
         pv_
         refine pure_ (i := 6) (N := some 21) (v := undef) (a' := ?_) spec_l06Are.z7 rfl rfl (any_of HT_.out (by kernel_rfl)) (fun _ _ _ h => h) (Or.inr ⟨by rfl, rfl⟩) ?_ ?_
         rotate_left
         ·pw_
         refine pure_ (i := 7) (N := some 22) (v := undef) (a' := ?_) spec_l06Are.z8 rfl rfl (any_of HT_.out (by kernel_rfl)) (fun _ _ _ h => h) (Or.inr ⟨by rfl, rfl⟩) ?_ ?_
         rotate_left
         ·pw_
         refine pure_ (i := 8) (N := some 23) (v := undef) (a' := ?_) spec_l06Are.z9 rfl rfl (any_of HT_.out (by kernel_rfl)) (fun _ _ _ h => h) (Or.inr ⟨by rfl, rfl⟩) ?_ ?_
         rotate_left
         ·pw_
         refine pure_ (i := 9) (N := some 24) (v := undef) (a' := ?_) spec_l06Are.z10 rfl rfl (any_of HT_.out (by kernel_rfl)) (fun _ _ _ h => h) (Or.inr ⟨by rfl, rfl⟩) ?_ ?_
         rotate_left
         ·pw_
         refine pure_ (i := 10) (N := some 25) (v := undef) (a' := ?_) spec_l06Are.z43 rfl rfl (any_of HT_.out (by kernel_rfl)) (fun _ _ _ h => h) (Or.inr ⟨by rfl, rfl⟩) ?_ ?_
         rotate_left
         ·pw_
         refine pure_ (i := 11) (N := some 26) (v := undef) (a' := ?_) spec_l06Are.z44 rfl rfl (any_of HT_.out (by kernel_rfl)) (fun _ _ _ h => h) (Or.inr ⟨by rfl, rfl⟩) ?_ ?_
         rotate_left
         ·pw_
         refine pure_ (i := 12) (N := some 27) (v := undef) (a' := ?_) spec_l06Are.z45 rfl rfl (any_of HT_.out (by kernel_rfl)) (fun _ _ _ h => h) (Or.inr ⟨by rfl, rfl⟩) ?_ ?_
         rotate_left
         ·pw_
         refine pure_ (i := 13) (N := some 28) (v := undef) (a' := ?_) spec_l06Are.z46 rfl rfl (any_of HT_.out (by kernel_rfl)) (fun _ _ _ h => h) (Or.inr ⟨by rfl, rfl⟩) ?_ ?_
         rotate_left
         ·pw_
         refine pure_ (i := 14) (N := some 29) (v := undef) (a' := ?_) spec_l06Are.z15 rfl rfl (any_of HT_.out (by kernel_rfl)) (fun _ _ _ h => h) (Or.inr ⟨by rfl, rfl⟩) ?_ ?_
         rotate_left
         ·pw_
         refine pure_ (i := 15) (N := some 30) (v := undef) (a' := ?_) spec_l06Are.z16 rfl rfl (any_of HT_.out (by kernel_rfl)) (fun _ _ _ h => h) (Or.inr ⟨by rfl, rfl⟩) ?_ ?_
         rotate_left
         ·pw_
         refine pure_ (i := 16) (N := some 31) (v := undef) (a' := ?_) spec_l06Are.z17 rfl rfl (any_of HT_.out (by kernel_rfl)) (fun _ _ _ h => h) (Or.inr ⟨by rfl, rfl⟩) ?_ ?_
         rotate_left
         ·pw_
         refine pure_ (i := 17) (N := some 32) (v := undef) (a' := ?_) spec_l06Are.z18 rfl rfl (any_of HT_.out (by kernel_rfl)) (fun _ _ _ h => h) (Or.inr ⟨by rfl, rfl⟩) ?_ ?_
         rotate_left
         ·pw_
         refine pure_ (i := 18) (N := some 33) (v := ?_) (a' := ?_) spec_l06Are.z19 rfl rfl (any_of HT_.out (by kernel_rfl)) (fun _ _ _ h => h) (Or.inl ⟨by rfl, ?_⟩) ?_ ?_
         pv_
         refine pure_ (i := 19) (N := some 34) (v := ?_) (a' := ?_) spec_l06Are.z20 rfl rfl (any_of HT_.out (by kernel_rfl)) (fun _ _ _ h => h) (Or.inl ⟨by rfl, ?_⟩) ?_ ?_
         pv_
         refine pure_ (i := 20) (N := some 35) (v := undef) (a' := ?_) spec_l06Are.z21 rfl rfl (any_of HT_.out (by kernel_rfl)) (fun _ _ _ h => h) (Or.inr ⟨by rfl, rfl⟩) ?_ ?_
         rotate_left
         ·pw_
         refine pure_ (i := 21) (N := some 36) (v := undef) (a' := ?_) spec_l06Are.z22 rfl rfl (any_of HT_.out (by kernel_rfl)) (fun _ _ _ h => h) (Or.inr ⟨by rfl, rfl⟩) ?_ ?_
         rotate_left
         ·pw_
         refine pure_ (i := 22) (N := some 37) (v := undef) (a' := ?_) spec_l06Are.z23 rfl rfl (any_of HT_.out (by kernel_rfl)) (fun _ _ _ h => h) (Or.inr ⟨by rfl, rfl⟩) ?_ ?_
         rotate_left
         ·pw_
         refine pure_ (i := 23) (N := some 38) (v := undef) (a' := ?_) spec_l06Are.z24 rfl rfl (any_of HT_.out (by kernel_rfl)) (fun _ _ _ h => h) (Or.inr ⟨by rfl, rfl⟩) ?_ ?_
         rotate_left
         ·pw_
         refine pure_ (i := 24) (N := some 39) (v := undef) (a' := ?_) spec_l06Are.z25 rfl rfl (any_of HT_.out (by kernel_rfl)) (fun _ _ _ h => h) (Or.inr ⟨by rfl, rfl⟩) ?_ ?_
         rotate_left
         ·pw_
         refine pure_ (i := 25) (N := some 40) (v := undef) (a' := ?_) spec_l06Are.z26 rfl rfl (any_of HT_.out (by kernel_rfl)) (fun _ _ _ h => h) (Or.inr ⟨by rfl, rfl⟩) ?_ ?_
         rotate_left
         ·pw_
         refine pure_ (i := 26) (N := some 41) (v := undef) (a' := ?_) spec_l06Are.z27 rfl rfl (any_of HT_.out (by kernel_rfl)) (fun _ _ _ h => h) (Or.inr ⟨by rfl, rfl⟩) ?_ ?_
         rotate_left
         ·pw_
         refine pure_ (i := 27) (N := some 42) (v := undef) (a' := ?_) spec_l06Are.z38 rfl rfl (any_of HT_.out (by kernel_rfl)) (fun _ _ _ h => h) (Or.inr ⟨by rfl, rfl⟩) ?_ ?_
         rotate_left
         ·pw_
         refine pure_ (i := 28) (N := some 43) (v := undef) (a' := ?_) spec_l06Are.z39 rfl rfl (any_of HT_.out (by kernel_rfl)) (fun _ _ _ h => h) (Or.inr ⟨by rfl, rfl⟩) ?_ ?_
         rotate_left
         ·pw_
         refine pure_ (i := 29) (N := some 44) (v := undef) (a' := ?_) spec_l06Are.z40 rfl rfl (any_of HT_.out (by kernel_rfl)) (fun _ _ _ h => h) (Or.inr ⟨by rfl, rfl⟩) ?_ ?_
         rotate_left
         ·pw_
         refine pure_ (i := 30) (N := some 45) (v := undef) (a' := ?_) spec_l06Are.z41 rfl rfl (any_of HT_.out (by kernel_rfl)) (fun _ _ _ h => h) (Or.inr ⟨by rfl, rfl⟩) ?_ ?_
         rotate_left
         ·pw_
         refine pure_ (i := 31) (N := some 46) (v := undef) (a' := ?_) spec_l06Are.z42 rfl rfl (any_of HT_.out (by kernel_rfl)) (fun _ _ _ h => h) (Or.inr ⟨by rfl, rfl⟩) ?_ ?_
         rotate_left
         ·pw_
         refine pure_ (i := 32) (N := some 47) (v := undef) (a' := ?_) spec_l06Are.z33 rfl rfl (any_of HT_.out (by kernel_rfl)) (fun _ _ _ h => h) (Or.inr ⟨by rfl, rfl⟩) ?_ ?_
         rotate_left
         ·pw_
         refine pure_ (i := 33) (N := some 48) (v := undef) (a' := ?_) spec_l06Are.z34 rfl rfl (any_of HT_.out (by kernel_rfl)) (fun _ _ _ h => h) (Or.inr ⟨by rfl, rfl⟩) ?_ ?_
         rotate_left
         ·pw_
         refine pure_ (i := 34) (N := some 49) (v := undef) (a' := ?_) spec_l06Are.z35 rfl rfl (any_of HT_.out (by kernel_rfl)) (fun _ _ _ h => h) (Or.inr ⟨by rfl, rfl⟩) ?_ ?_
         rotate_left
         ·pw_
         refine pure_ (i := 35) (N := some 50) (v := undef) (a' := ?_) spec_l06Are.z36 rfl rfl (any_of HT_.out (by kernel_rfl)) (fun _ _ _ h => h) (Or.inr ⟨by rfl, rfl⟩) ?_ ?_
         rotate_left
         ·pw_
         refine pure_ (i := 36) (N := some 51) (v := ?_) (a' := ?_) spec_l06Are.z37 rfl rfl (any_of HT_.out (by kernel_rfl)) (fun _ _ _ h => h) (Or.inl ⟨by rfl, ?_⟩) ?_ ?_
         pv_
         refine done_ (done_of HT_.out (by kernel_rfl)) ?_
         try go_wp2
         go_ret
         exact ⟨by first | rfl | (simp [errW_none, errW_some] <;> rfl) | (simp [*, errW_none, errW_some] <;> rfl), by repeat (first | (with_reducible first | exact HB.out | apply below_alloc | apply pw_below_drewN | apply below_drew1) | exact HB.out)⟩
       ·rw [if_neg c6] at H
        exact absurd H (by simp)
      ·rw [if_neg c5] at H
       exact absurd H (by simp)
     ·replace c4 := Bool.eq_false_iff.mpr c4
      subst c4
      have H1 : (some (decide ((l0.length : Int) ≤ 16))) = some r := by rw [if_neg (show ¬ (false = true) by decide)] at H; exact H
      clear H
      have H := H1
      clear H1
      obtain rfl := Option.some.inj H
      go_wp2
      go_ret
      exact ⟨by first | rfl | (simp [errW_none, errW_some] <;> rfl) | (simp [*, errW_none, errW_some] <;> rfl), by repeat (first | (with_reducible first | exact HB.out | apply below_alloc | apply pw_below_drewN | apply below_drew1) | exact HB.out)⟩
def spec_l06Give.f (k : Nat) (l0 : List (S58)) : Option ((List (S58)) × Bool) := (spec_l06Are.f k l0).bind fun t154 => (if t154 = true then (some (l0, true)) else (some (([] : List (S58)), false)))
theorem spec_l06Give.mono : ∀ a0 k, LeO (spec_l06Give.f k a0) (spec_l06Give.f (k + 1) a0) := by
  intro a0 k
  unfold spec_l06Give.f
  repeat' first
      | (with_reducible exact spec_l06Are.mono _ _)
      | (with_reducible exact LeO.refl _)
      | (with_reducible exact LeO.none _)
      | (with_reducible refine LeO.ite ?_ ?_)
      | (with_reducible refine LeO.bind ?_ (fun _ => ?_))
      | exact spec_l06Are.mono _ _
      | exact LeO.none _
      | refine LeO.ite ?_ ?_
      | refine LeO.bind ?_ (fun _ => ?_)
set_option maxHeartbeats 8000000 in
set_option maxRecDepth 100000 in
theorem spec_l06Give.calls (k : Nat) (P0_ : Nat → Prop) (A0 : Option Addr) (c0 : Nat) (l0 : List (S58)) (r1 : List (S58)) (r2 : Bool) (w : World) (hs0 : Kd.V k58 58 w w.heap.size (fun k_ => P0_ k_) (.slice A0 l0.length c0) l0) (h : spec_l06Give.f k l0 = some (r1, r2)) :
    Calls Tryd.prog 71 #[.slice A0 l0.length c0] w fun e w' => ∃ v0_ : Value, e = .returned (.tuple #[v0_, .bool r2]) ∧ Kd.V k58 58 w' w.heap.size (fun k_ => (P0_ k_ ∨ w.heap.size ≤ k_)) v0_ r1 ∧ Below w.heap.size w w' := by
  have HO0 := Aside0.mk (show Kd.V k58 58 w w.heap.size (fun k_ => (P0_ k_ ∨ w.heap.size ≤ k_)) (.slice A0 l0.length c0) l0 from Kd.V_mono hs0 (fun k_ hk => .inl hk))
  have HB := Aside0.mk (Below.refl w.heap.size w)
  have H : ((spec_l06Are.f k l0).bind fun t154 => (if t154 = true then (some (l0, true)) else (some (([] : List (S58)), false)))) = some (r1, r2) := h
  clear h
  replace H := Option.bind_eq_some_iff.mp H
  obtain ⟨t154, A20, H⟩ := H
  replace H : (if t154 = true then (some (l0, true)) else (some (([] : List (S58)), false))) = some (r1, r2) := H
  have A2 := Aside0.mk A20
  clear A20
  by_cases c3 : t154 = true
  · subst c3
    have H1 : (some (l0, true)) = some (r1, r2) := by rw [if_pos rfl] at H; exact H
    clear H
    have H := H1
    clear H1
    simp only [Option.some.injEq, Prod.mk.injEq] at H
    obtain ⟨rfl, rfl⟩ := H
    go_enter Tryd.func71, Tryd.ntmps71
    go_wp2_with (first | ((with_reducible refine gate_callee (f := 31) rfl ?_); refine goesL_ (some 5) rfl rfl Tryd.func31 (by kernel_rfl) rfl #[.slice A0 l0.length c0] rfl (by (try simp only [List.map_toArray, List.map_cons, List.map_nil]); first | done | rfl | (simp only [List.length_drop, List.length_take]; rfl)) ?_; (with_reducible refine (spec_l06Are.calls k _ _ l0 true _ ?side1 ?side2 A2.out).mono ?_); (case side1 => repeat (first | exact (Kd.V_reads' HO0.out).2.2 | (with_reducible refine Kd.C_alloc ?_ _) | (with_reducible refine Kd.C_drewN ?_ _) | (with_reducible refine Kd.C_drew ?_))); (case side2 => exact (Kd.V_reads' HO0.out).2.1); rintro e w4 ⟨rfl, hb⟩; refine ⟨_, rfl, ?_⟩; have n0_ := Aside0.mk (Kd.V_below (by (with_reducible repeat (first | apply Kd.V_alloc | apply Kd.V_drewN | apply Kd.V_drew)); exact HO0.out) hb); have n1_ := Aside0.mk (below_step (by repeat (first | (with_reducible first | exact HB.out | apply below_alloc | apply pw_below_drewN | apply below_drew1) | exact HB.out)) hb); clear HO0; clear HB; have HO0 := n0_; have HB := n1_; clear n0_ n1_; (try clear hb); (try clear hb2); (try clear hk); (try clear hi)))
    go_ret2
    exact ⟨_, by first | rfl | (simp [errW_none, errW_some] <;> rfl) | (simp [*, errW_none, errW_some] <;> rfl), by (with_reducible repeat (first | apply Kd.V_alloc | apply Kd.V_drewN | apply Kd.V_drew)); exact HO0.out, by repeat (first | (with_reducible first | exact HB.out | apply below_alloc | apply pw_below_drewN | apply below_drew1) | exact HB.out)⟩
  · replace c3 := Bool.eq_false_iff.mpr c3
    subst c3
    have H1 : (some (([] : List (S58)), false)) = some (r1, r2) := by rw [if_neg (show ¬ (false = true) by decide)] at H; exact H
    clear H
    have H := H1
    clear H1
    simp only [Option.some.injEq, Prod.mk.injEq] at H
    obtain ⟨rfl, rfl⟩ := H
    go_enter Tryd.func71, Tryd.ntmps71
    go_wp2_with (first | ((with_reducible refine gate_callee (f := 31) rfl ?_); refine goesL_ (some 5) rfl rfl Tryd.func31 (by kernel_rfl) rfl #[.slice A0 l0.length c0] rfl (by (try simp only [List.map_toArray, List.map_cons, List.map_nil]); first | done | rfl | (simp only [List.length_drop, List.length_take]; rfl)) ?_; (with_reducible refine (spec_l06Are.calls k _ _ l0 false _ ?side1 ?side2 A2.out).mono ?_); (case side1 => repeat (first | exact (Kd.V_reads' HO0.out).2.2 | (with_reducible refine Kd.C_alloc ?_ _) | (with_reducible refine Kd.C_drewN ?_ _) | (with_reducible refine Kd.C_drew ?_))); (case side2 => exact (Kd.V_reads' HO0.out).2.1); rintro e w5 ⟨rfl, hb⟩; refine ⟨_, rfl, ?_⟩; have n0_ := Aside0.mk (Kd.V_below (by (with_reducible repeat (first | apply Kd.V_alloc | apply Kd.V_drewN | apply Kd.V_drew)); exact HO0.out) hb); have n1_ := Aside0.mk (below_step (by repeat (first | (with_reducible first | exact HB.out | apply below_alloc | apply pw_below_drewN | apply below_drew1) | exact HB.out)) hb); clear HO0; clear HB; have HO0 := n0_; have HB := n1_; clear n0_ n1_; (try clear hb); (try clear hb2); (try clear hk); (try clear hi)))
    go_ret2
    exact ⟨_, by first | rfl | (simp [errW_none, errW_some] <;> rfl) | (simp [*, errW_none, errW_some] <;> rfl), Kd.V_nil _ _ _ _ _, by repeat (first | (with_reducible first | exact HB.out | apply below_alloc | apply pw_below_drewN | apply below_drew1) | exact HB.out)⟩
abbrev spec_l08ReadSounds.z0 : Array Bool := #[false, false, false, false, false, false, false, false, false, false, false, false, false, false, false, false, false, false, false, false, false]
abbrev spec_l08ReadSounds.z1 : Array Bool := #[true, false, false, false, false, false, false, false, false, false, false, false, false, false, false, false, false, false, false, false, false]
abbrev spec_l08ReadSounds.z2 : Array Bool := #[true, true, false, false, false, false, false, false, false, false, false, false, false, false, false, false, false, false, false, false, false]
abbrev spec_l08ReadSounds.z3 : Array Bool := #[true, true, true, false, false, false, false, false, false, false, false, false, false, false, false, false, false, false, false, false, false]
abbrev spec_l08ReadSounds.z4 : Array Bool := #[true, true, true, false, true, false, false, false, false, false, false, false, false, false, false, false, false, false, false, false, false]
abbrev spec_l08ReadSounds.z5 : Array Bool := #[true, true, true, false, true, true, false, false, false, false, false, false, false, false, false, false, false, false, false, false, false]
abbrev spec_l08ReadSounds.z6 : Array Bool := #[true, true, true, false, true, true, true, false, false, false, false, false, false, false, false, false, false, false, false, false, false]
abbrev spec_l08ReadSounds.z7 : Array Bool := #[true, true, true, false, true, true, true, false, true, false, false, false, false, false, false, false, false, false, false, false, false]
abbrev spec_l08ReadSounds.z8 : Array Bool := #[true, true, true, false, true, true, true, false, true, true, false, false, false, false, false, false, false, false, false, false, false]
abbrev spec_l08ReadSounds.z9 : Array Bool := #[true, true, true, false, true, true, true, false, true, true, false, true, false, false, false, false, false, false, false, false, false]
abbrev spec_l08ReadSounds.z10 : Array Bool := #[true, true, true, false, true, true, true, false, true, true, false, true, true, false, false, false, false, false, false, false, false]
abbrev spec_l08ReadSounds.z11 : Array Bool := #[true, true, true, false, true, true, true, false, true, true, false, true, true, false, true, false, false, false, false, false, false]
abbrev spec_l08ReadSounds.z12 : Array Bool := #[true, true, true, false, true, true, true, false, true, true, false, true, true, false, true, true, false, false, false, false, false]
abbrev spec_l08ReadSounds.z13 : Array Bool := #[true, true, true, true, true, true, true, false, true, true, false, true, true, false, true, true, false, false, false, false, false]
abbrev spec_l08ReadSounds.z14 : Array Bool := #[true, true, true, true, true, true, true, true, true, true, false, true, true, false, true, true, false, false, false, false, false]
abbrev spec_l08ReadSounds.z15 : Array Bool := #[true, true, true, true, true, true, true, true, true, true, true, true, true, false, true, true, false, false, false, false, false]
abbrev spec_l08ReadSounds.z16 : Array Bool := #[true, true, true, true, true, true, true, true, true, true, true, true, true, true, true, true, false, false, false, false, false]
abbrev spec_l08ReadSounds.z17 : Array Bool := #[true, true, true, true, true, true, true, true, true, true, true, true, true, true, true, true, true, false, false, false, false]
abbrev spec_l08ReadSounds.z18 : Array Bool := #[true, true, true, true, true, true, true, true, true, true, true, true, true, true, true, true, true, true, false, false, false]
abbrev spec_l08ReadSounds.z19 : Array Bool := #[true, true, true, true, true, true, true, true, true, true, true, true, true, true, true, true, true, true, true, false, false]
abbrev spec_l08ReadSounds.z20 : Array Bool := #[true, true, true, true, true, true, true, true, true, true, true, true, true, true, true, true, true, true, true, true, false]
abbrev spec_l08ReadSounds.z21 : Array Bool := #[true, true, true, true, true, true, true, true, true, true, true, true, true, true, true, true, true, true, true, true, true]
def spec_l08ReadSounds.l0 : Nat → List (S58) → List ByteArray → Int → Option ((List (S58)) × Bool)
 | 0, _, _, _ => none
 | k + 1, x4, x5, x6 => if x6 < (x5.length : Int) then (if 0 ≤ x6 then ((spec_l01Cut.f k (rdOf ByteArray.empty x5 x6) 58).bind fun t166 => (if (t166.length : Int) = 3 then (if 1 < (t166.length : Int) then ((spec_l01NRead.f k (rdOf ByteArray.empty t166 1)).bind fun bt170 => (if 2 < (t166.length : Int) then ((spec_l01NRead.f k (rdOf ByteArray.empty t166 2)).bind fun bt175 => (if bt170.2 = true then (if bt175.2 = true then (if (bt175.1.length : Int) = 4 then (if 0 < (t166.length : Int) then (if 0 < (bt175.1.length : Int) then (if 1 < (bt175.1.length : Int) then (if 2 < (bt175.1.length : Int) then (if 3 < (bt175.1.length : Int) then (if x4.length < 2513169434916 then (spec_l08ReadSounds.l0 k (x4 ++ [(⟨rdOf ByteArray.empty t166 0, bt170.1, rdOf (0 : Nat) bt175.1 0, rdOf (0 : Nat) bt175.1 1, rdOf (0 : Nat) bt175.1 2, rdOf (0 : Nat) bt175.1 3⟩ : S58)]) x5 (wrap64 (x6 + 1))) else (none)) else (none)) else (none)) else (none)) else (none)) else (none)) else (some (([] : List (S58)), false))) else (some (([] : List (S58)), false))) else (some (([] : List (S58)), false)))) else (none))) else (none)) else (some (([] : List (S58)), false)))) else (none)) else ((spec_l06Give.f k x4).bind fun bt161 => (some (bt161.1, bt161.2)))
def spec_l08ReadSounds.f (k : Nat) (a0 : ByteArray) : Option ((List (S58)) × Bool) := (some (([] : List (S58)) : List (S58))).bind fun y155 => (if a0.toList = ([110, 111, 110, 101] : List UInt8) then (some (y155, true)) else ((spec_l01Cut.f k a0 47).bind fun t158 => (spec_l08ReadSounds.l0 k y155 t158 0)))
theorem spec_l08ReadSounds.mono_l : ∀ k, (∀ y0 y1 y2, LeO (spec_l08ReadSounds.l0 k y0 y1 y2) (spec_l08ReadSounds.l0 (k + 1) y0 y1 y2))
 | 0 => fun _ _ _ r h => by simp [spec_l08ReadSounds.l0] at h
 | k + 1 => by
  have ih0 := spec_l08ReadSounds.mono_l k
  ·intro y0 y1 y2
   unfold spec_l08ReadSounds.l0
   repeat' first
   | (with_reducible exact ih0 _ _ _)
   | (with_reducible exact spec_l01Cut.mono _ _ _)
   | (with_reducible exact spec_l01NRead.mono _ _)
   | (with_reducible exact spec_l06Give.mono _ _)
   | (with_reducible exact LeO.refl _)
   | (with_reducible exact LeO.none _)
   | (with_reducible refine LeO.ite ?_ ?_)
   | (with_reducible refine LeO.bind ?_ (fun _ => ?_))
   | exact ih0 _ _ _
   | exact spec_l01Cut.mono _ _ _
   | exact spec_l01NRead.mono _ _
   | exact spec_l06Give.mono _ _
   | exact LeO.none _
   | refine LeO.ite ?_ ?_
   | refine LeO.bind ?_ (fun _ => ?_)
theorem spec_l08ReadSounds.mono : ∀ a0 k, LeO (spec_l08ReadSounds.f k a0) (spec_l08ReadSounds.f (k + 1) a0) := by
 intro a0 k
 have ih0 := spec_l08ReadSounds.mono_l k
 unfold spec_l08ReadSounds.f
 repeat' first
   | (with_reducible exact ih0 _ _ _)
   | (with_reducible exact spec_l01Cut.mono _ _ _)
   | (with_reducible exact spec_l01NRead.mono _ _)
   | (with_reducible exact spec_l06Give.mono _ _)
   | (with_reducible exact LeO.refl _)
   | (with_reducible exact LeO.none _)
   | (with_reducible refine LeO.ite ?_ ?_)
   | (with_reducible refine LeO.bind ?_ (fun _ => ?_))
   | exact ih0 _ _ _
   | exact spec_l01Cut.mono _ _ _
   | exact spec_l01NRead.mono _ _
   | exact spec_l06Give.mono _ _
   | exact LeO.none _
   | refine LeO.ite ?_ ?_
   | refine LeO.bind ?_ (fun _ => ?_)
def spec_l08ReadSounds.T15 : Bool × List (List Nat × List Nat) := (true, [([], []), ([], []), ([1], [1]), ([2], [2]), ([], []), ([], []), ([5], [5]), ([6], [6]), ([], []), ([8], [8]), ([9], [9]), ([], []), ([11], [11]), ([12], [12]), ([], []), ([14], [14]), ([15], [15]), ([3, 4, 7, 10, 13, 16], [3, 4, 7, 10, 13, 16]), ([17], [17]), ([0, 18], [0, 18]), ([19, 19, 0, 1, 2, 3, 4, 5, 6, 7, 8, 9, 10, 11, 12, 13, 14, 15, 16, 17, 18, 19], [0, 19])])
def spec_l08ReadSounds.B15 : List Nat := [0, 0, 2, 6, 0, 0, 32, 96, 0, 256, 768, 0, 2048, 6144, 0, 16384, 49152, 131070, 262142, 524287, 1048575]
theorem spec_l08ReadSounds.tab15 : rtab .any (opsOf Tryd.f49 15) = spec_l08ReadSounds.T15 := by kernel_rfl
theorem spec_l08ReadSounds.bits15 : waitsOk spec_l08ReadSounds.T15.2 spec_l08ReadSounds.B15 = true := by kernel_rfl
set_option maxHeartbeats 8000000 in
set_option maxRecDepth 100000 in
theorem spec_l08ReadSounds.calls (k : Nat) (a0 : ByteArray) (r1 : List (S58)) (r2 : Bool) (w : World) (h : spec_l08ReadSounds.f k a0 = some (r1, r2)) :
  Calls Tryd.prog 49 #[.string a0] w fun e w' => ∃ v0_ : Value, e = .returned (.tuple #[v0_, .bool r2]) ∧ Kd.V k58 58 w' w.heap.size (fun k_ => (w.heap.size ≤ k_)) v0_ r1 ∧ Below w.heap.size w w' := by
 have hu58 := Tryd.underlying58
 have hu9 := Tryd.underlying9
 have hu30 := Tryd.underlying30
 have HB := Aside0.mk (Below.refl w.heap.size w)
 have H : ((some (([] : List (S58)) : List (S58))).bind fun y155 => (if a0.toList = ([110, 111, 110, 101] : List UInt8) then (some (y155, true)) else ((spec_l01Cut.f k a0 47).bind fun t158 => (spec_l08ReadSounds.l0 k y155 t158 0)))) = some (r1, r2) := h
 clear h
 obtain ⟨y155, hy155⟩ : ∃ y_ : List (S58), y_ = (([] : List (S58))) := ⟨_, rfl⟩
 replace H : (if a0.toList = ([110, 111, 110, 101] : List UInt8) then (some (y155, true)) else ((spec_l01Cut.f k a0 47).bind fun t158 => (spec_l08ReadSounds.l0 k y155 t158 0))) = some (r1, r2) := by first | (rw [hy155]; with_reducible exact H) | (have H2_ := (Option.bind_some _ _).symm.trans H; rw [hy155]; with_reducible exact H2_) | (have H2_ := (Option.bind_some _ _).symm.trans H; with_reducible exact H2_) | with_reducible exact H | (rw [hy155]; exact H) | exact H
 have Ny155 := Aside0.mk hy155
 clear hy155
 by_cases c2 : a0.toList = ([110, 111, 110, 101] : List UInt8)
 ·rw [if_pos c2] at H
  have c2b0 : (a0.toList == ([110, 111, 110, 101] : List UInt8)) = true := beq_iff_eq.mpr c2
  have c2b1 : (a0.toList != ([110, 111, 110, 101] : List UInt8)) = false := bne_eq_false_iff_eq.mpr c2
  clear c2
  simp only [Option.some.injEq, Prod.mk.injEq] at H
  obtain ⟨rfl, rfl⟩ := H
  go_enter Tryd.func49, Tryd.ntmps49
  go_wp2_with (first | ((with_reducible refine gate_dst (N := 12) rfl ?_); (try (refine gate_guard (by rfl) ?_; dsimp only)); refine Kd.S_lit k58 _ 58 ?hg (N := 12) ?hd (xs := ([] : List (S58))) (inner := []) (ok := fun _ => True) (okp := fun _ => True) ?hr ?hp (fun _ hk => hk) trivial (Below.refl _ _) (Nat.le_refl _) (by simp) ?_; (case hd => rfl); (case hg => rfl); (case hr => first | (go_simp; done) | (go_simp; rfl) | (simp (disch := omega) only [w64_id]; go_simp; done) | (go_simp; simp (disch := omega) only [w64_id]; done)); (case hp => exact (Reps.none _ _)); intro v156 w3 ho4 hb hg_ hnew_; clear hg_ hnew_; (first | rw [← Ny155.out] at ho4 | (simp only [Int.reduceToNat] at ho4; rw [← Ny155.out] at ho4)); have n0_ := Aside0.mk (Kd.S_lower (Kd.S_newM (M := fun k_ => (w.heap.size ≤ k_)) ho4 (below_size (by repeat (first | (with_reducible first | exact HB.out | apply below_alloc | apply pw_below_drewN | apply below_drew1) | exact HB.out))) (fun k_ h_ => h_)) (below_size (by repeat (first | (with_reducible first | exact HB.out | apply below_alloc | apply pw_below_drewN | apply below_drew1) | exact HB.out)))); have n1_ := Aside0.mk (below_step (by repeat (first | (with_reducible first | exact HB.out | apply below_alloc | apply pw_below_drewN | apply below_drew1) | exact HB.out)) hb); clear HB; have HO157 := n0_; have HB := n1_; clear n0_ n1_; clear hb ho4))
  go_ret2
  exact ⟨_, by first | rfl | (simp [errW_none, errW_some] <;> rfl) | (simp [*, errW_none, errW_some] <;> rfl), Kd.S_V (by (with_reducible repeat (first | apply Kd.S_alloc | apply Kd.S_drewN | apply Kd.S_drew)); exact Kd.S_mono HO157.out (fun _ hk => hk.1)), by repeat (first | (with_reducible first | exact HB.out | apply below_alloc | apply pw_below_drewN | apply below_drew1) | exact HB.out)⟩
 ·rw [if_neg c2] at H
  have c2b0 : (a0.toList == ([110, 111, 110, 101] : List UInt8)) = false := beq_eq_false_iff_ne.mpr c2
  have c2b1 : (a0.toList != ([110, 111, 110, 101] : List UInt8)) = true := bne_iff_ne.mpr c2
  replace H := Option.bind_eq_some_iff.mp H
  obtain ⟨t158, A50, H⟩ := H
  replace H : (spec_l08ReadSounds.l0 k y155 t158 0) = some (r1, r2) := H
  have A5 := Aside0.mk A50
  clear A50
  have H' := Aside0.mk H
  clear H
  go_enter Tryd.func49, Tryd.ntmps49
  go_wp2_with (first | ((with_reducible refine gate_dst (N := 12) rfl ?_); (try (refine gate_guard (by rfl) ?_; dsimp only)); refine Kd.S_lit k58 _ 58 ?hg (N := 12) ?hd (xs := ([] : List (S58))) (inner := []) (ok := fun _ => True) (okp := fun _ => True) ?hr ?hp (fun _ hk => hk) trivial (Below.refl _ _) (Nat.le_refl _) (by simp) ?_; (case hd => rfl); (case hg => rfl); (case hr => first | (go_simp; done) | (go_simp; rfl) | (simp (disch := omega) only [w64_id]; go_simp; done) | (go_simp; simp (disch := omega) only [w64_id]; done)); (case hp => exact (Reps.none _ _)); intro v156 w6 ho7 hb hg_ hnew_; clear hg_ hnew_; (first | rw [← Ny155.out] at ho7 | (simp only [Int.reduceToNat] at ho7; rw [← Ny155.out] at ho7)); have n0_ := Aside0.mk (Kd.S_lower (Kd.S_newM (M := fun k_ => (w.heap.size ≤ k_)) ho7 (below_size (by repeat (first | (with_reducible first | exact HB.out | apply below_alloc | apply pw_below_drewN | apply below_drew1) | exact HB.out))) (fun k_ h_ => h_)) (below_size (by repeat (first | (with_reducible first | exact HB.out | apply below_alloc | apply pw_below_drewN | apply below_drew1) | exact HB.out)))); have n1_ := Aside0.mk (below_step (by repeat (first | (with_reducible first | exact HB.out | apply below_alloc | apply pw_below_drewN | apply below_drew1) | exact HB.out)) hb); clear HB; have HO157 := n0_; have HB := n1_; clear n0_ n1_; clear hb ho7) | ((with_reducible refine gate_callee (f := 65) rfl ?_); refine goesL_ (some 17) rfl rfl Tryd.func65 (by kernel_rfl) rfl #[.string a0, .int .u8 47] rfl (by (try simp only [List.map_toArray, List.map_cons, List.map_nil]); first | done | rfl | (simp only [List.length_drop, List.length_take]; rfl)) ?_; (with_reducible refine (spec_l01Cut.calls k a0 47 t158 _ A5.out).mono ?_); rintro e w8 ⟨v159, rfl, ho0, hb⟩; refine ⟨_, rfl, ?_⟩; have n0_ := Aside0.mk (Kd.S_below (by (with_reducible repeat (first | apply Kd.S_alloc | apply Kd.S_drewN | apply Kd.S_drew)); exact HO157.out) hb); have n1_ := Aside0.mk (Kd.R_lower (Kd.R_newM (M := fun k_ => (w.heap.size ≤ k_)) ho0 (below_size (by repeat (first | (with_reducible first | exact HB.out | apply below_alloc | apply pw_below_drewN | apply below_drew1) | exact HB.out))) (fun k_ h_ => h_)) (below_size (by repeat (first | (with_reducible first | exact HB.out | apply below_alloc | apply pw_below_drewN | apply below_drew1) | exact HB.out)))); have n2_ := Aside0.mk (below_step (by repeat (first | (with_reducible first | exact HB.out | apply below_alloc | apply pw_below_drewN | apply below_drew1) | exact HB.out)) hb); clear HO157; clear HB; have HO157 := n0_; have HO160 := n1_; have HB := n2_; clear n0_ n1_ n2_; (try clear hb); (try clear hb2); (try clear hk); (try clear hi); (try clear ho0)))
  go_loopg [4, 6] k (fun kq v4 v6 w' => ∃ (x4_1 : List (S58)) (x6_1 : Int), v6 = .int .i64 x6_1 ∧ Aside0 (spec_l08ReadSounds.l0 kq x4_1 t158 x6_1 = some (r1, r2)) ∧ Aside0 (kq ≤ k) ∧ Aside0 (Kd.S k58 58 w' w.heap.size (fun k_ => (w.heap.size ≤ k_)) v4 x4_1) ∧ Aside0 (Kd.R Kd.string 9 w' w.heap.size (fun k_ => (w.heap.size ≤ k_)) v159 t158) ∧ Aside0 (Below w.heap.size w w'))
  case atStart => exact ⟨(y155), (0), (by first | rfl | (simp; done) | (simp [*]; done)), H', ⟨Nat.le_refl _⟩, ⟨by (with_reducible repeat (first | apply Kd.S_alloc | apply Kd.S_drewN | apply Kd.S_drew)); exact Kd.S_mono HO157.out (fun _ hk => hk.1)⟩, ⟨by (with_reducible repeat (first | apply Kd.R_alloc | apply Kd.R_drewN | apply Kd.R_drew)); exact Kd.R_mono HO160.out (fun _ hk => hk.1)⟩, ⟨by repeat (first | (with_reducible first | exact HB.out | apply below_alloc | apply pw_below_drewN | apply below_drew1) | exact HB.out)⟩⟩
  case round =>
   clear H'
   try clear c2
   try clear c2b0
   try clear c2b1
   try clear p2
   try clear c4
   try clear c6
   obtain ⟨x4_1, x6_1, rfl, HA, HK1, HO_4, HO_5, HB⟩ := hrel
   cases gk with
   | zero => exact absurd HA.out (by simp [spec_l08ReadSounds.l0])
   | succ k1 =>
    have H := HA.out
    clear HA
    simp only [spec_l08ReadSounds.l0] at H
    by_cases c9 : x6_1 < (t158.length : Int)
    ·rw [if_pos c9] at H
     have c9b0 : decide (x6_1 < (t158.length : Int)) = true := decide_eq_true c9
     clear c9
     by_cases c10 : 0 ≤ x6_1
     ·rw [if_pos c10] at H
      have c10b0 : decide (0 ≤ x6_1) = true := decide_eq_true c10
      clear c10
      replace H := Option.bind_eq_some_iff.mp H
      obtain ⟨t166, A110, H⟩ := H
      replace H : (if (t166.length : Int) = 3 then (if 1 < (t166.length : Int) then ((spec_l01NRead.f k1 (rdOf ByteArray.empty t166 1)).bind fun bt170 => (if 2 < (t166.length : Int) then ((spec_l01NRead.f k1 (rdOf ByteArray.empty t166 2)).bind fun bt175 => (if bt170.2 = true then (if bt175.2 = true then (if (bt175.1.length : Int) = 4 then (if 0 < (t166.length : Int) then (if 0 < (bt175.1.length : Int) then (if 1 < (bt175.1.length : Int) then (if 2 < (bt175.1.length : Int) then (if 3 < (bt175.1.length : Int) then (if x4_1.length < 2513169434916 then (spec_l08ReadSounds.l0 k1 (x4_1 ++ [(⟨rdOf ByteArray.empty t166 0, bt170.1, rdOf (0 : Nat) bt175.1 0, rdOf (0 : Nat) bt175.1 1, rdOf (0 : Nat) bt175.1 2, rdOf (0 : Nat) bt175.1 3⟩ : S58)]) t158 (wrap64 (x6_1 + 1))) else (none)) else (none)) else (none)) else (none)) else (none)) else (none)) else (some (([] : List (S58)), false))) else (some (([] : List (S58)), false))) else (some (([] : List (S58)), false)))) else (none))) else (none)) else (some (([] : List (S58)), false))) = some (r1, r2) := H
      have A11 := Aside0.mk A110
      clear A110
      by_cases c12 : (t166.length : Int) = 3
      ·rw [if_pos c12] at H
       have c12b0 : ((t166.length : Int) == 3) = true := beq_iff_eq.mpr c12
       have c12b1 : ((t166.length : Int) != 3) = false := bne_eq_false_iff_eq.mpr c12
       clear c12
       by_cases c13 : 1 < (t166.length : Int)
       ·rw [if_pos c13] at H
        have c13b0 : decide (1 < (t166.length : Int)) = true := decide_eq_true c13
        have c13b1 : decide (1 < t166.length) = true := decide_eq_true (by omega)
        clear c13
        replace H := Option.bind_eq_some_iff.mp H
        obtain ⟨⟨t170, t171⟩, A140, H⟩ := H
        replace H : (if 2 < (t166.length : Int) then ((spec_l01NRead.f k1 (rdOf ByteArray.empty t166 2)).bind fun bt175 => (if t171 = true then (if bt175.2 = true then (if (bt175.1.length : Int) = 4 then (if 0 < (t166.length : Int) then (if 0 < (bt175.1.length : Int) then (if 1 < (bt175.1.length : Int) then (if 2 < (bt175.1.length : Int) then (if 3 < (bt175.1.length : Int) then (if x4_1.length < 2513169434916 then (spec_l08ReadSounds.l0 k1 (x4_1 ++ [(⟨rdOf ByteArray.empty t166 0, t170, rdOf (0 : Nat) bt175.1 0, rdOf (0 : Nat) bt175.1 1, rdOf (0 : Nat) bt175.1 2, rdOf (0 : Nat) bt175.1 3⟩ : S58)]) t158 (wrap64 (x6_1 + 1))) else (none)) else (none)) else (none)) else (none)) else (none)) else (none)) else (some (([] : List (S58)), false))) else (some (([] : List (S58)), false))) else (some (([] : List (S58)), false)))) else (none)) = some (r1, r2) := H
        have A14 := Aside0.mk A140
        clear A140
        by_cases c15 : 2 < (t166.length : Int)
        ·rw [if_pos c15] at H
         have c15b0 : decide (2 < (t166.length : Int)) = true := decide_eq_true c15
         have c15b1 : decide (2 < t166.length) = true := decide_eq_true (by omega)
         clear c15
         replace H := Option.bind_eq_some_iff.mp H
         obtain ⟨⟨t175, t176⟩, A160, H⟩ := H
         replace H : (if t171 = true then (if t176 = true then (if (t175.length : Int) = 4 then (if 0 < (t166.length : Int) then (if 0 < (t175.length : Int) then (if 1 < (t175.length : Int) then (if 2 < (t175.length : Int) then (if 3 < (t175.length : Int) then (if x4_1.length < 2513169434916 then (spec_l08ReadSounds.l0 k1 (x4_1 ++ [(⟨rdOf ByteArray.empty t166 0, t170, rdOf (0 : Nat) t175 0, rdOf (0 : Nat) t175 1, rdOf (0 : Nat) t175 2, rdOf (0 : Nat) t175 3⟩ : S58)]) t158 (wrap64 (x6_1 + 1))) else (none)) else (none)) else (none)) else (none)) else (none)) else (none)) else (some (([] : List (S58)), false))) else (some (([] : List (S58)), false))) else (some (([] : List (S58)), false))) = some (r1, r2) := H
         have A16 := Aside0.mk A160
         clear A160
         by_cases c17 : t171 = true
         ·subst c17
          have H1 : (if t176 = true then (if (t175.length : Int) = 4 then (if 0 < (t166.length : Int) then (if 0 < (t175.length : Int) then (if 1 < (t175.length : Int) then (if 2 < (t175.length : Int) then (if 3 < (t175.length : Int) then (if x4_1.length < 2513169434916 then (spec_l08ReadSounds.l0 k1 (x4_1 ++ [(⟨rdOf ByteArray.empty t166 0, t170, rdOf (0 : Nat) t175 0, rdOf (0 : Nat) t175 1, rdOf (0 : Nat) t175 2, rdOf (0 : Nat) t175 3⟩ : S58)]) t158 (wrap64 (x6_1 + 1))) else (none)) else (none)) else (none)) else (none)) else (none)) else (none)) else (some (([] : List (S58)), false))) else (some (([] : List (S58)), false))) = some (r1, r2) := by rw [if_pos rfl] at H; exact H
          clear H
          have H := H1
          clear H1
          by_cases c18 : t176 = true
          ·subst c18
           have H1 : (if (t175.length : Int) = 4 then (if 0 < (t166.length : Int) then (if 0 < (t175.length : Int) then (if 1 < (t175.length : Int) then (if 2 < (t175.length : Int) then (if 3 < (t175.length : Int) then (if x4_1.length < 2513169434916 then (spec_l08ReadSounds.l0 k1 (x4_1 ++ [(⟨rdOf ByteArray.empty t166 0, t170, rdOf (0 : Nat) t175 0, rdOf (0 : Nat) t175 1, rdOf (0 : Nat) t175 2, rdOf (0 : Nat) t175 3⟩ : S58)]) t158 (wrap64 (x6_1 + 1))) else (none)) else (none)) else (none)) else (none)) else (none)) else (none)) else (some (([] : List (S58)), false))) = some (r1, r2) := by rw [if_pos rfl] at H; exact H
           clear H
           have H := H1
           clear H1
           by_cases c19 : (t175.length : Int) = 4
           ·rw [if_pos c19] at H
            have c19b0 : ((t175.length : Int) == 4) = true := beq_iff_eq.mpr c19
            have c19b1 : ((t175.length : Int) != 4) = false := bne_eq_false_iff_eq.mpr c19
            clear c19
            by_cases c20 : 0 < (t166.length : Int)
            ·rw [if_pos c20] at H
             have c20b0 : decide (0 < (t166.length : Int)) = true := decide_eq_true c20
             have c20b1 : decide (0 < t166.length) = true := decide_eq_true (by omega)
             clear c20
             by_cases c21 : 0 < (t175.length : Int)
             ·rw [if_pos c21] at H
              have c21b0 : decide (0 < (t175.length : Int)) = true := decide_eq_true c21
              have c21b1 : decide (0 < t175.length) = true := decide_eq_true (by omega)
              clear c21
              by_cases c22 : 1 < (t175.length : Int)
              ·rw [if_pos c22] at H
               have c22b0 : decide (1 < (t175.length : Int)) = true := decide_eq_true c22
               have c22b1 : decide (1 < t175.length) = true := decide_eq_true (by omega)
               clear c22
               by_cases c23 : 2 < (t175.length : Int)
               ·rw [if_pos c23] at H
                have c23b0 : decide (2 < (t175.length : Int)) = true := decide_eq_true c23
                have c23b1 : decide (2 < t175.length) = true := decide_eq_true (by omega)
                clear c23
                by_cases c24 : 3 < (t175.length : Int)
                ·rw [if_pos c24] at H
                 have c24b0 : decide (3 < (t175.length : Int)) = true := decide_eq_true c24
                 have c24b1 : decide (3 < t175.length) = true := decide_eq_true (by omega)
                 clear c24
                 by_cases c25 : x4_1.length < 2513169434916
                 ·rw [if_pos c25] at H
                  have LMc25 := Aside0.mk c25
                  clear c25
                  obtain ⟨y184, hy184⟩ : ∃ y_ : List (S58), y_ = (x4_1 ++ [(⟨rdOf ByteArray.empty t166 0, t170, rdOf (0 : Nat) t175 0, rdOf (0 : Nat) t175 1, rdOf (0 : Nat) t175 2, rdOf (0 : Nat) t175 3⟩ : S58)]) := ⟨_, rfl⟩
                  replace H : (spec_l08ReadSounds.l0 k1 y184 t158 (wrap64 (x6_1 + 1))) = some (r1, r2) := by first | (rw [hy184]; with_reducible exact H) | (have H2_ := (Option.bind_some _ _).symm.trans H; rw [hy184]; with_reducible exact H2_) | (have H2_ := (Option.bind_some _ _).symm.trans H; with_reducible exact H2_) | with_reducible exact H | (rw [hy184]; exact H) | exact H
                  have Ny184 := Aside0.mk hy184
                  clear hy184
                  have H' := Aside0.mk H
                  clear H
                  obtain ⟨Ao26, co26, eo26⟩ := Kd.R_slice HO_5.out
                  subst eo26
                  have p165 : 0 ≤ (x6_1 : Int) := of_decide_eq_true (by first | (with_reducible assumption) | assumption)
                  have q165 : x6_1 < (t158.length : Int) := of_decide_eq_true (by first | (with_reducible assumption) | assumption)
                  obtain ⟨ad165, e165, hx165_0⟩ := Kd.at_string (Kd.R_reads' HO_5.out).2.2 x6_1 p165 q165
                  cases e165
                  replace p165 := eq_true p165
                  replace q165 := eq_true q165
                  try go_wp2_with (first | ((with_reducible refine gate_callee (f := 65) rfl ?_); refine goesL_ (some 28) rfl rfl Tryd.func65 (by kernel_rfl) rfl #[.string (rdOf ByteArray.empty t158 x6_1), .int .u8 58] rfl (by (try simp only [List.map_toArray, List.map_cons, List.map_nil]); first | done | rfl | (simp only [List.length_drop, List.length_take]; rfl)) ?_; (with_reducible refine (spec_l01Cut.calls k1 (rdOf ByteArray.empty t158 x6_1) 58 t166 _ A11.out).mono ?_); rintro e w27 ⟨v167, rfl, ho0, hb⟩; refine ⟨_, rfl, ?_⟩; have n0_ := Aside0.mk (Kd.S_below (by (with_reducible repeat (first | apply Kd.S_alloc | apply Kd.S_drewN | apply Kd.S_drew)); exact HO_4.out) hb); have n1_ := Aside0.mk (Kd.R_elder' (by (with_reducible repeat (first | apply Kd.R_alloc | apply Kd.R_drewN | apply Kd.R_drew)); exact HO_5.out) (Kd.R_base ho0) hb); have n2_ := Aside0.mk (Kd.R_lower (Kd.R_new' (Kd.R_newM (M := fun k_ => (w.heap.size ≤ k_)) ho0 (below_size (by repeat (first | (with_reducible first | exact HB.out | apply below_alloc | apply pw_below_drewN | apply below_drew1) | exact HB.out))) (fun k_ h_ => h_)) (Kd.R_lt (by (with_reducible repeat (first | apply Kd.R_alloc | apply Kd.R_drewN | apply Kd.R_drew)); exact HO_5.out))) (below_size (by repeat (first | (with_reducible first | exact HB.out | apply below_alloc | apply pw_below_drewN | apply below_drew1) | exact HB.out)))); have n3_ := Aside0.mk (below_step (by repeat (first | (with_reducible first | exact HB.out | apply below_alloc | apply pw_below_drewN | apply below_drew1) | exact HB.out)) hb); clear HO_4; clear HO_5; clear HB; have HO_4 := n0_; have HO_5 := n1_; have HO168 := n2_; have HB := n3_; clear n0_ n1_ n2_ n3_; (try clear hb); (try clear hb2); (try clear hk); (try clear hi); (try clear ho0); obtain ⟨Ao28, co28, eo28⟩ := Kd.R_slice HO168.out; subst eo28; have p169 : 0 ≤ (1 : Int) := (by omega); have q169 : 1 < (t166.length : Int) := of_decide_eq_true (by first | (with_reducible assumption) | assumption); obtain ⟨ad169, e169, hx169_0⟩ := Kd.at_string (Kd.R_reads' HO168.out).2.2 1 p169 q169; cases e169; (try simp only [show (1 : Int).toNat = 1 from rfl, Nat.reduceMul, Nat.reduceEqDiff, Go.Addr.add, ↓reduceIte] at hx169_0); have qi169 : (1 < t166.length) = True := eq_true (by omega); (try rw [show ((1 : Int)).toNat = 1 from rfl] at hx169_0); replace p169 := eq_true p169; replace q169 := eq_true q169) | ((with_reducible refine gate_callee (f := 60) rfl ?_); refine goesL_ (some 36) rfl rfl Tryd.func60 (by kernel_rfl) rfl #[.string (rdOf ByteArray.empty t166 1)] rfl (by (try simp only [List.map_toArray, List.map_cons, List.map_nil]); first | done | rfl | (simp only [List.length_drop, List.length_take]; rfl)) ?_; (with_reducible refine (spec_l01NRead.calls k1 (rdOf ByteArray.empty t166 1) t170 true _ A14.out).mono ?_); rintro e w29 ⟨v172, rfl, ho0, hb⟩; refine ⟨_, rfl, ?_⟩; have n0_ := Aside0.mk (Kd.S_elder' (by (with_reducible repeat (first | apply Kd.S_alloc | apply Kd.S_drewN | apply Kd.S_drew)); exact HO_4.out) (Kd.R_base ho0) hb); have n1_ := Aside0.mk (Kd.R_below (by (with_reducible repeat (first | apply Kd.R_alloc | apply Kd.R_drewN | apply Kd.R_drew)); exact HO_5.out) hb); have n2_ := Aside0.mk (Kd.R_below (by (with_reducible repeat (first | apply Kd.R_alloc | apply Kd.R_drewN | apply Kd.R_drew)); exact HO168.out) hb); have n3_ := Aside0.mk (Kd.R_lower (Kd.R_newM (M := fun k_ => (w.heap.size ≤ k_)) ho0 (below_size (by repeat (first | (with_reducible first | exact HB.out | apply below_alloc | apply pw_below_drewN | apply below_drew1) | exact HB.out))) (fun k_ h_ => h_)) (below_size (by repeat (first | (with_reducible first | exact HB.out | apply below_alloc | apply pw_below_drewN | apply below_drew1) | exact HB.out)))); have n4_ := Aside0.mk (below_step (by repeat (first | (with_reducible first | exact HB.out | apply below_alloc | apply pw_below_drewN | apply below_drew1) | exact HB.out)) hb); clear HO_4; clear HO_5; clear HO168; clear HB; have HO_4 := n0_; have HO_5 := n1_; have HO168 := n2_; have HO173 := n3_; have HB := n4_; clear n0_ n1_ n2_ n3_ n4_; (try clear hb); (try clear hb2); (try clear hk); (try clear hi); (try clear ho0); have p174 : 0 ≤ (2 : Int) := (by omega); have q174 : 2 < (t166.length : Int) := of_decide_eq_true (by first | (with_reducible assumption) | assumption); obtain ⟨ad174, e174, hx174_0⟩ := Kd.at_string (Kd.R_reads' HO168.out).2.2 2 p174 q174; obtain rfl : ad169 = ad174 := (by injection e174); (try simp only [show (2 : Int).toNat = 2 from rfl, Nat.reduceMul, Nat.reduceEqDiff, Go.Addr.add, ↓reduceIte] at hx174_0); have qi174 : (2 < t166.length) = True := eq_true (by omega); (try rw [show ((2 : Int)).toNat = 2 from rfl] at hx174_0); replace p174 := eq_true p174; replace q174 := eq_true q174) | ((with_reducible refine gate_callee (f := 60) rfl ?_); refine goesL_ (some 43) rfl rfl Tryd.func60 (by kernel_rfl) rfl #[.string (rdOf ByteArray.empty t166 2)] rfl (by (try simp only [List.map_toArray, List.map_cons, List.map_nil]); first | done | rfl | (simp only [List.length_drop, List.length_take]; rfl)) ?_; (with_reducible refine (spec_l01NRead.calls k1 (rdOf ByteArray.empty t166 2) t175 true _ A16.out).mono ?_); rintro e w30 ⟨v177, rfl, ho0, hb⟩; refine ⟨_, rfl, ?_⟩; have n0_ := Aside0.mk (Kd.S_elder' (by (with_reducible repeat (first | apply Kd.S_alloc | apply Kd.S_drewN | apply Kd.S_drew)); exact HO_4.out) (Kd.R_base ho0) hb); have n1_ := Aside0.mk (Kd.R_below (by (with_reducible repeat (first | apply Kd.R_alloc | apply Kd.R_drewN | apply Kd.R_drew)); exact HO_5.out) hb); have n2_ := Aside0.mk (Kd.R_below (by (with_reducible repeat (first | apply Kd.R_alloc | apply Kd.R_drewN | apply Kd.R_drew)); exact HO168.out) hb); have n3_ := Aside0.mk (Kd.R_elder' (by (with_reducible repeat (first | apply Kd.R_alloc | apply Kd.R_drewN | apply Kd.R_drew)); exact HO173.out) (Kd.R_base ho0) hb); have n4_ := Aside0.mk (Kd.R_lower (Kd.R_new' (Kd.R_newM (M := fun k_ => (w.heap.size ≤ k_)) ho0 (below_size (by repeat (first | (with_reducible first | exact HB.out | apply below_alloc | apply pw_below_drewN | apply below_drew1) | exact HB.out))) (fun k_ h_ => h_)) (Kd.R_lt (by (with_reducible repeat (first | apply Kd.R_alloc | apply Kd.R_drewN | apply Kd.R_drew)); exact HO173.out))) (below_size (by repeat (first | (with_reducible first | exact HB.out | apply below_alloc | apply pw_below_drewN | apply below_drew1) | exact HB.out)))); have n5_ := Aside0.mk (below_step (by repeat (first | (with_reducible first | exact HB.out | apply below_alloc | apply pw_below_drewN | apply below_drew1) | exact HB.out)) hb); clear HO_4; clear HO_5; clear HO168; clear HO173; clear HB; have HO_4 := n0_; have HO_5 := n1_; have HO168 := n2_; have HO173 := n3_; have HO178 := n4_; have HB := n5_; clear n0_ n1_ n2_ n3_ n4_ n5_; (try clear hb); (try clear hb2); (try clear hk); (try clear hi); (try clear ho0); obtain ⟨Ao31, co31, eo31⟩ := Kd.R_slice HO178.out; subst eo31))
                  have n0_ := Aside0.mk (Kd.S_drew HO_4.out)
                  have n1_ := Aside0.mk (Kd.R_drew HO_5.out)
                  have n2_ := Aside0.mk (Kd.R_drew HO168.out)
                  have n3_ := Aside0.mk (Kd.R_drew HO173.out)
                  have n4_ := Aside0.mk (Kd.R_drew HO178.out)
                  have n5_ := Aside0.mk (below_drew1 HB.out)
                  clear HO_4
                  clear HO_5
                  clear HO168
                  clear HO173
                  clear HO178
                  clear HB
                  have HO_4 := n0_
                  have HO_5 := n1_
                  have HO168 := n2_
                  have HO173 := n3_
                  have HO178 := n4_
                  have HB := n5_
                  clear n0_ n1_ n2_ n3_ n4_ n5_
                  have p179 : 0 ≤ (0 : Int) := (by omega)
                  have q179 : 0 < (t166.length : Int) := of_decide_eq_true (by first | (with_reducible assumption) | assumption)
                  obtain ⟨ad179, e179, hx179_0⟩ := Kd.at_string (Kd.R_reads' HO168.out).2.2 0 p179 q179
                  obtain rfl : ad169 = ad179 := (by injection e179)
                  have qi179 : (0 < t166.length) = True := eq_true (by omega)
                  (try rw [show ((0 : Int)).toNat = 0 from rfl] at hx179_0)
                  (try rw [Addr.add_zero'] at hx179_0)
                  replace p179 := eq_true p179
                  replace q179 := eq_true q179
                  have p180 : 0 ≤ (0 : Int) := (by omega)
                  have q180 : 0 < (t175.length : Int) := of_decide_eq_true (by first | (with_reducible assumption) | assumption)
                  obtain ⟨ad180, e180, hx180_0⟩ := Kd.at_float (Kd.R_reads' HO178.out).2.2 0 p180 q180
                  cases e180
                  have qi180 : (0 < t175.length) = True := eq_true (by omega)
                  (try rw [show ((0 : Int)).toNat = 0 from rfl] at hx180_0)
                  (try rw [Addr.add_zero'] at hx180_0)
                  replace p180 := eq_true p180
                  replace q180 := eq_true q180
                  have p181 : 0 ≤ (1 : Int) := (by omega)
                  have q181 : 1 < (t175.length : Int) := of_decide_eq_true (by first | (with_reducible assumption) | assumption)
                  obtain ⟨ad181, e181, hx181_0⟩ := Kd.at_float (Kd.R_reads' HO178.out).2.2 1 p181 q181
                  obtain rfl : ad180 = ad181 := (by injection e181)
                  (try simp only [show (1 : Int).toNat = 1 from rfl, Nat.reduceMul, Nat.reduceEqDiff, Go.Addr.add, ↓reduceIte] at hx181_0)
                  have qi181 : (1 < t175.length) = True := eq_true (by omega)
                  (try rw [show ((1 : Int)).toNat = 1 from rfl] at hx181_0)
                  replace p181 := eq_true p181
                  replace q181 := eq_true q181
                  have p182 : 0 ≤ (2 : Int) := (by omega)
                  have q182 : 2 < (t175.length : Int) := of_decide_eq_true (by first | (with_reducible assumption) | assumption)
                  obtain ⟨ad182, e182, hx182_0⟩ := Kd.at_float (Kd.R_reads' HO178.out).2.2 2 p182 q182
                  obtain rfl : ad180 = ad182 := (by injection e182)
                  (try simp only [show (2 : Int).toNat = 2 from rfl, Nat.reduceMul, Nat.reduceEqDiff, Go.Addr.add, ↓reduceIte] at hx182_0)
                  have qi182 : (2 < t175.length) = True := eq_true (by omega)
                  (try rw [show ((2 : Int)).toNat = 2 from rfl] at hx182_0)
                  replace p182 := eq_true p182
                  replace q182 := eq_true q182
                  have p183 : 0 ≤ (3 : Int) := (by omega)
                  have q183 : 3 < (t175.length : Int) := of_decide_eq_true (by first | (with_reducible assumption) | assumption)
                  obtain ⟨ad183, e183, hx183_0⟩ := Kd.at_float (Kd.R_reads' HO178.out).2.2 3 p183 q183
                  obtain rfl : ad180 = ad183 := (by injection e183)
                  (try simp only [show (3 : Int).toNat = 3 from rfl, Nat.reduceMul, Nat.reduceEqDiff, Go.Addr.add, ↓reduceIte] at hx183_0)
                  have qi183 : (3 < t175.length) = True := eq_true (by omega)
                  (try rw [show ((3 : Int)).toNat = 3 from rfl] at hx183_0)
                  replace p183 := eq_true p183
                  replace q183 := eq_true q183
                  obtain ⟨Ao33, co33, eo33⟩ := Kd.R_slice HO173.out
                  (first | subst eo33 | (injection eo33 with f1_ f2_ f3_; have f4_ := f1_.symm; have f5_ := f3_.symm; clear f1_ f2_ f3_; subst f4_; subst f5_))
                  refine start_ (n := 21) (S := fun w' => w'.cell? ad169 = some (.string (rdOf ByteArray.empty t166 0)) ∧ w'.cell? ad180 = some (.float .f32 (rdOf (0 : Nat) t175 0)) ∧ w'.cell? ⟨ad180.block, ad180.off + 1, none⟩ = some (.float .f32 (rdOf (0 : Nat) t175 1)) ∧ w'.cell? ⟨ad180.block, ad180.off + 2, none⟩ = some (.float .f32 (rdOf (0 : Nat) t175 2)) ∧ w'.cell? ⟨ad180.block, ad180.off + 3, none⟩ = some (.float .f32 (rdOf (0 : Nat) t175 3))) (ds := [18, 19]) spec_l08ReadSounds.z0 (by kernel_rfl) rfl rfl ⟨hx179_0, hx180_0, hx181_0, hx182_0, hx183_0⟩ (fun hHeld => ?_); refine with_tabW spec_l08ReadSounds.tab15 spec_l08ReadSounds.bits15 (fun HT_ HW_ => ?_)
                  generalize w30.drew = w32 at HO_4 HO_5 HO168 HO173 HO178 HB hx179_0 hx180_0 hx181_0 hx182_0 hx183_0 hHeld ⊢
                  refine pure_ (i := 0) (N := some 57) (v := ?_) (a' := ?_) spec_l08ReadSounds.z1 rfl rfl (any_of HT_.out (by kernel_rfl)) (fun _ _ _ h => h) (Or.inl ⟨by rfl, ?_⟩) ?_ ?_
                  pv_
                  refine pure_ (i := 1) (N := some 58) (v := ?_) (a' := ?_) spec_l08ReadSounds.z2 rfl rfl (any_of HT_.out (by kernel_rfl)) (fun _ _ _ h => h) (Or.inl ⟨by rfl, ?_⟩) ?_ ?_
                  pv_
                  refine pure_ (i := 2) (N := some 59) (v := ?_) (a' := ?_) spec_l08ReadSounds.z3 rfl rfl (any_of HT_.out (by kernel_rfl)) (fun _ _ _ h => h) (Or.inl ⟨by rfl, ?_⟩) ?_ ?_
                  pv_
                  refine pure_ (i := 4) (N := some 61) (v := ?_) (a' := ?_) spec_l08ReadSounds.z4 rfl rfl (any_of HT_.out (by kernel_rfl)) (fun _ _ _ h => h) (Or.inl ⟨by rfl, ?_⟩) ?_ ?_
                  pv_
                  refine pure_ (i := 5) (N := some 62) (v := ?_) (a' := ?_) spec_l08ReadSounds.z5 rfl rfl (any_of HT_.out (by kernel_rfl)) (fun _ _ _ h => h) (Or.inl ⟨by rfl, ?_⟩) ?_ ?_
                  pv_
                  refine pure_ (i := 6) (N := some 63) (v := ?_) (a' := ?_) spec_l08ReadSounds.z6 rfl rfl (any_of HT_.out (by kernel_rfl)) (fun _ _ _ h => h) (Or.inl ⟨by rfl, ?_⟩) ?_ ?_
                  pv_
                  refine pure_ (i := 8) (N := some 65) (v := ?_) (a' := ?_) spec_l08ReadSounds.z7 rfl rfl (any_of HT_.out (by kernel_rfl)) (fun _ _ _ h => h) (Or.inl ⟨by rfl, ?_⟩) ?_ ?_
                  pv_
                  refine pure_ (i := 9) (N := some 66) (v := ?_) (a' := ?_) spec_l08ReadSounds.z8 rfl rfl (any_of HT_.out (by kernel_rfl)) (fun _ _ _ h => h) (Or.inl ⟨by rfl, ?_⟩) ?_ ?_
                  pv_
                  refine pure_ (i := 11) (N := some 68) (v := ?_) (a' := ?_) spec_l08ReadSounds.z9 rfl rfl (any_of HT_.out (by kernel_rfl)) (fun _ _ _ h => h) (Or.inl ⟨by rfl, ?_⟩) ?_ ?_
                  pv_
                  refine pure_ (i := 12) (N := some 69) (v := ?_) (a' := ?_) spec_l08ReadSounds.z10 rfl rfl (any_of HT_.out (by kernel_rfl)) (fun _ _ _ h => h) (Or.inl ⟨by rfl, ?_⟩) ?_ ?_
                  pv_
                  refine pure_ (i := 14) (N := some 71) (v := ?_) (a' := ?_) spec_l08ReadSounds.z11 rfl rfl (any_of HT_.out (by kernel_rfl)) (fun _ _ _ h => h) (Or.inl ⟨by rfl, ?_⟩) ?_ ?_
                  pv_
                  refine pure_ (i := 15) (N := some 72) (v := ?_) (a' := ?_) spec_l08ReadSounds.z12 rfl rfl (any_of HT_.out (by kernel_rfl)) (fun _ _ _ h => h) (Or.inl ⟨by rfl, ?_⟩) ?_ ?_
                  pv_
                  refine take_ (i := 3) (N := some 60) (v := ?_) (a' := ?_) spec_l08ReadSounds.z13 rfl rfl (take_ofW HT_.out HW_.out (by kernel_rfl)) (fun _ _ _ h => h) (Or.inl ⟨by rfl, ?_⟩) hHeld ?_ ?_
                  rotate_left
                  ·rintro w' ⟨s0, s1, s2, s3, s4⟩
                   go_simp
                   with_reducible rfl
                  rotate_left
                  ·pw_
                  refine take_ (i := 7) (N := some 64) (v := ?_) (a' := ?_) spec_l08ReadSounds.z14 rfl rfl (take_ofW HT_.out HW_.out (by kernel_rfl)) (fun _ _ _ h => h) (Or.inl ⟨by rfl, ?_⟩) hHeld ?_ ?_
                  rotate_left
                  ·rintro w' ⟨s0, s1, s2, s3, s4⟩
                   go_simp
                   with_reducible rfl
                  rotate_left
                  ·pw_
                  refine take_ (i := 10) (N := some 67) (v := ?_) (a' := ?_) spec_l08ReadSounds.z15 rfl rfl (take_ofW HT_.out HW_.out (by kernel_rfl)) (fun _ _ _ h => h) (Or.inl ⟨by rfl, ?_⟩) hHeld ?_ ?_
                  rotate_left
                  ·rintro w' ⟨s0, s1, s2, s3, s4⟩
                   go_simp
                   with_reducible rfl
                  rotate_left
                  ·pw_
                  refine take_ (i := 13) (N := some 70) (v := ?_) (a' := ?_) spec_l08ReadSounds.z16 rfl rfl (take_ofW HT_.out HW_.out (by kernel_rfl)) (fun _ _ _ h => h) (Or.inl ⟨by rfl, ?_⟩) hHeld ?_ ?_
                  rotate_left
                  ·rintro w' ⟨s0, s1, s2, s3, s4⟩
                   go_simp
                   with_reducible rfl
                  rotate_left
                  ·pw_
                  refine take_ (i := 16) (N := some 73) (v := ?_) (a' := ?_) spec_l08ReadSounds.z17 rfl rfl (take_ofW HT_.out HW_.out (by kernel_rfl)) (fun _ _ _ h => h) (Or.inl ⟨by rfl, ?_⟩) hHeld ?_ ?_
                  rotate_left
                  ·rintro w' ⟨s0, s1, s2, s3, s4⟩
                   go_simp
                   with_reducible rfl
                  rotate_left
                  ·pw_
                  refine pure_ (i := 17) (N := some 74) (v := ?_) (a' := ?_) spec_l08ReadSounds.z18 rfl rfl (any_of HT_.out (by kernel_rfl)) (fun _ _ _ h => h) (Or.inl ⟨by rfl, ?_⟩) ?_ ?_
                  pv_
                  refine last_ (i := 18) (N := some 75) spec_l08ReadSounds.z19 rfl rfl (one_of HT_.out (by kernel_rfl)) (by decide) (fun K hK => ?_)
                  refine value_ (w1 := ?_) (v := ?_) (by rfl) rfl ?_ ?_
                  rotate_left 2
                  ·go_simp
                   constructor
                   ·rfl
                   ·rfl
                  refine hK.out _ _ ?_
                  clear hK K
                  refine norm_ (a' := ?_) ?_ ?_
                  rotate_left
                  ·show Act.put _ (some 75) _ = _
                   pw_
                  refine last_ (i := 19) (N := some 76) spec_l08ReadSounds.z20 rfl rfl (one_of HT_.out (by kernel_rfl)) (by decide) (fun K hK => ?_)
                  refine Kd.S_append_step k58 (w0 := w) w.heap.size (by rfl) (.tmp 57) (.tmp 75) 26 58 (.agg #[(.string ⟨#[]⟩), (.slice none 0 0), (.float .f32 0), (.float .f32 0), (.float .f32 0), (.float .f32 0)]) 56 rfl Tryd.underlying26 info58 rfl (by decide) (by omega) u4 x4_1 (⟨rdOf ByteArray.empty t166 0, t170, rdOf (0 : Nat) t175 0, rdOf (0 : Nat) t175 1, rdOf (0 : Nat) t175 2, rdOf (0 : Nat) t175 3⟩ : S58) [.string (rdOf ByteArray.empty t166 0), .slice Ao33 t170.length co33, .float .f32 (rdOf (0 : Nat) t175 0), .float .f32 (rdOf (0 : Nat) t175 1), .float .f32 (rdOf (0 : Nat) t175 2), .float .f32 (rdOf (0 : Nat) t175 3)] (fun k_ => (w.heap.size ≤ k_) ∧ some k_ ≠ (.slice (some ad180) t175.length co31 : Value).ownBlock) (fun k_ => some k_ = (.slice Ao33 t170.length co33 : Value).ownBlock) rfl rfl ?aP (fun k_ hk_ => ((Kd.R_mono (ok' := fun k_ => ((fun k_ => (w.heap.size ≤ k_) ∧ some k_ ≠ (.slice (some ad180) t175.length co31 : Value).ownBlock)) k_ ∧ some k_ ≠ (u4 : Value).ownBlock) (Kd.R_apart' (HO173.out) (Kd.S_typed HO_4.out) (by decide)) (fun k_ hk => ⟨⟨hk.1.1.1, hk.1.2⟩, hk.2⟩))).1 k_ hk_.symm) ?aF ?aO ?aB ?aS ?aL ?_
                  (case aP => exact k58_mkM _ _ _ (⟨rdOf ByteArray.empty t166 0, t170, rdOf (0 : Nat) t175 0, rdOf (0 : Nat) t175 1, rdOf (0 : Nat) t175 2, rdOf (0 : Nat) t175 3⟩ : S58) (Kd.R_mono (Kd.R_tight rfl (Kd.R_mono (ok' := fun k_ => ((fun k_ => (w.heap.size ≤ k_) ∧ some k_ ≠ (.slice (some ad180) t175.length co31 : Value).ownBlock)) k_ ∧ some k_ ≠ (u4 : Value).ownBlock) (Kd.R_apart' (HO173.out) (Kd.S_typed HO_4.out) (by decide)) (fun k_ hk => ⟨⟨hk.1.1.1, hk.1.2⟩, hk.2⟩))) (fun _ h_ => h_)))
                  (case aB => exact (by repeat (first | (with_reducible first | exact HB.out | apply below_alloc | apply pw_below_drewN | apply below_drew1) | exact HB.out)))
                  (case aF => exact (fun k_ hk => ⟨(Nat.le_trans (below_size (by repeat (first | (with_reducible first | exact HB.out | apply below_alloc | apply pw_below_drewN | apply below_drew1) | exact HB.out))) hk), Kd.fresh' (Kd.R_lt (by (with_reducible repeat (first | apply Kd.R_alloc | apply Kd.R_drewN | apply Kd.R_drew)); exact HO178.out)) k_ hk⟩))
                  (case aO => exact (by (with_reducible repeat (first | apply Kd.S_alloc | apply Kd.S_drewN | apply Kd.S_drew)); exact Kd.S_mono HO_4.out (fun k_ hk => ⟨⟨hk.1.1, hk.2⟩, fun e_ => hk.1.2 e_⟩)))
                  (case aS => exact (below_size (by repeat (first | (with_reducible first | exact HB.out | apply below_alloc | apply pw_below_drewN | apply below_drew1) | exact HB.out))))
                  (case aL => have := LMc25.out; omega)
                  intro v185 w34 ho hb hg hat
                  rw [← Ny184.out] at ho
                  have n0_ := Aside0.mk (Kd.R_over' (by (with_reducible repeat (first | apply Kd.R_alloc | apply Kd.R_drewN | apply Kd.R_drew)); exact HO_5.out) (Kd.S_typed (by (with_reducible repeat (first | apply Kd.S_alloc | apply Kd.S_drewN | apply Kd.S_drew)); exact HO_4.out)) (by decide) hg)
                  have n1_ := Aside0.mk (Kd.R_over' (by (with_reducible repeat (first | apply Kd.R_alloc | apply Kd.R_drewN | apply Kd.R_drew)); exact HO168.out) (Kd.S_typed (by (with_reducible repeat (first | apply Kd.S_alloc | apply Kd.S_drewN | apply Kd.S_drew)); exact HO_4.out)) (by decide) hg)
                  have n2_ := Aside0.mk (Kd.R_over' (by (with_reducible repeat (first | apply Kd.R_alloc | apply Kd.R_drewN | apply Kd.R_drew)); exact HO178.out) (Kd.S_typed (by (with_reducible repeat (first | apply Kd.S_alloc | apply Kd.S_drewN | apply Kd.S_drew)); exact HO_4.out)) (by decide) hg)
                  have n3_ := Aside0.mk (hb)
                  have n4_ := Aside0.mk (ho)
                  clear HO_5
                  clear HO168
                  clear HO178
                  clear HB
                  clear HO_4
                  clear HO173
                  have HO_5 := n0_
                  have HO168 := n1_
                  have HO178 := n2_
                  have HB := n3_
                  have HO186 := n4_
                  clear n0_ n1_ n2_ n3_ n4_
                  clear ho hb hg hat
                  refine hK.out _ _ ?_
                  clear hK K
                  refine norm_ (a' := ?_) ?_ ?_
                  rotate_left
                  ·show Act.put _ (some 76) _ = _
                   pw_
                  refine pure_ (i := 20) (N := some 4) (v := ?_) (a' := ?_) spec_l08ReadSounds.z21 rfl rfl (any_of HT_.out (by kernel_rfl)) (fun _ _ _ h => h) (Or.inl ⟨by rfl, ?_⟩) ?_ ?_
                  pv_
                  refine done_ (done_of HT_.out (by kernel_rfl)) ?_
                  try go_wp2
                  go_roundg k1
                  case measure => have := HK1.out; omega
                  case rel => exact ⟨(y184), (wrap64 (x6_1 + 1)), (by first | rfl | (simp; done) | (simp [*]; done)), H', ⟨by have := HK1.out; omega⟩, ⟨by (with_reducible repeat (first | apply Kd.S_alloc | apply Kd.S_drewN | apply Kd.S_drew)); exact Kd.S_mono HO186.out (fun _ hk => hk.1)⟩, ⟨by (with_reducible repeat (first | apply Kd.R_alloc | apply Kd.R_drewN | apply Kd.R_drew)); exact Kd.R_mono HO_5.out (fun _ hk => hk.1)⟩, ⟨by repeat (first | (with_reducible first | exact HB.out | apply below_alloc | apply pw_below_drewN | apply below_drew1) | exact HB.out)⟩⟩
                 ·rw [if_neg c25] at H
                  exact absurd H (by simp)
                ·rw [if_neg c24] at H
                 exact absurd H (by simp)
               ·rw [if_neg c23] at H
                exact absurd H (by simp)
              ·rw [if_neg c22] at H
               exact absurd H (by simp)
             ·rw [if_neg c21] at H
              exact absurd H (by simp)
            ·rw [if_neg c20] at H
             exact absurd H (by simp)
           ·rw [if_neg c19] at H
            have c19b0 : ((t175.length : Int) == 4) = false := beq_eq_false_iff_ne.mpr c19
            have c19b1 : ((t175.length : Int) != 4) = true := bne_iff_ne.mpr c19
            simp only [Option.some.injEq, Prod.mk.injEq] at H
            obtain ⟨rfl, rfl⟩ := H
            obtain ⟨Ao35, co35, eo35⟩ := Kd.R_slice HO_5.out
            subst eo35
            have p165 : 0 ≤ (x6_1 : Int) := of_decide_eq_true (by first | (with_reducible assumption) | assumption)
            have q165 : x6_1 < (t158.length : Int) := of_decide_eq_true (by first | (with_reducible assumption) | assumption)
            obtain ⟨ad165, e165, hx165_0⟩ := Kd.at_string (Kd.R_reads' HO_5.out).2.2 x6_1 p165 q165
            cases e165
            replace p165 := eq_true p165
            replace q165 := eq_true q165
            go_wp2_with (first | ((with_reducible refine gate_callee (f := 65) rfl ?_); refine goesL_ (some 28) rfl rfl Tryd.func65 (by kernel_rfl) rfl #[.string (rdOf ByteArray.empty t158 x6_1), .int .u8 58] rfl (by (try simp only [List.map_toArray, List.map_cons, List.map_nil]); first | done | rfl | (simp only [List.length_drop, List.length_take]; rfl)) ?_; (with_reducible refine (spec_l01Cut.calls k1 (rdOf ByteArray.empty t158 x6_1) 58 t166 _ A11.out).mono ?_); rintro e w36 ⟨v167, rfl, ho0, hb⟩; refine ⟨_, rfl, ?_⟩; have n0_ := Aside0.mk (Kd.S_below (by (with_reducible repeat (first | apply Kd.S_alloc | apply Kd.S_drewN | apply Kd.S_drew)); exact HO_4.out) hb); have n1_ := Aside0.mk (Kd.R_elder' (by (with_reducible repeat (first | apply Kd.R_alloc | apply Kd.R_drewN | apply Kd.R_drew)); exact HO_5.out) (Kd.R_base ho0) hb); have n2_ := Aside0.mk (Kd.R_lower (Kd.R_new' (Kd.R_newM (M := fun k_ => (w.heap.size ≤ k_)) ho0 (below_size (by repeat (first | (with_reducible first | exact HB.out | apply below_alloc | apply pw_below_drewN | apply below_drew1) | exact HB.out))) (fun k_ h_ => h_)) (Kd.R_lt (by (with_reducible repeat (first | apply Kd.R_alloc | apply Kd.R_drewN | apply Kd.R_drew)); exact HO_5.out))) (below_size (by repeat (first | (with_reducible first | exact HB.out | apply below_alloc | apply pw_below_drewN | apply below_drew1) | exact HB.out)))); have n3_ := Aside0.mk (below_step (by repeat (first | (with_reducible first | exact HB.out | apply below_alloc | apply pw_below_drewN | apply below_drew1) | exact HB.out)) hb); clear HO_4; clear HO_5; clear HB; have HO_4 := n0_; have HO_5 := n1_; have HO168 := n2_; have HB := n3_; clear n0_ n1_ n2_ n3_; (try clear hb); (try clear hb2); (try clear hk); (try clear hi); (try clear ho0); obtain ⟨Ao37, co37, eo37⟩ := Kd.R_slice HO168.out; subst eo37; have p169 : 0 ≤ (1 : Int) := (by omega); have q169 : 1 < (t166.length : Int) := of_decide_eq_true (by first | (with_reducible assumption) | assumption); obtain ⟨ad169, e169, hx169_0⟩ := Kd.at_string (Kd.R_reads' HO168.out).2.2 1 p169 q169; cases e169; (try simp only [show (1 : Int).toNat = 1 from rfl, Nat.reduceMul, Nat.reduceEqDiff, Go.Addr.add, ↓reduceIte] at hx169_0); have qi169 : (1 < t166.length) = True := eq_true (by omega); (try rw [show ((1 : Int)).toNat = 1 from rfl] at hx169_0); replace p169 := eq_true p169; replace q169 := eq_true q169) | ((with_reducible refine gate_callee (f := 60) rfl ?_); refine goesL_ (some 36) rfl rfl Tryd.func60 (by kernel_rfl) rfl #[.string (rdOf ByteArray.empty t166 1)] rfl (by (try simp only [List.map_toArray, List.map_cons, List.map_nil]); first | done | rfl | (simp only [List.length_drop, List.length_take]; rfl)) ?_; (with_reducible refine (spec_l01NRead.calls k1 (rdOf ByteArray.empty t166 1) t170 true _ A14.out).mono ?_); rintro e w38 ⟨v172, rfl, ho0, hb⟩; refine ⟨_, rfl, ?_⟩; have n0_ := Aside0.mk (Kd.S_elder' (by (with_reducible repeat (first | apply Kd.S_alloc | apply Kd.S_drewN | apply Kd.S_drew)); exact HO_4.out) (Kd.R_base ho0) hb); have n1_ := Aside0.mk (Kd.R_below (by (with_reducible repeat (first | apply Kd.R_alloc | apply Kd.R_drewN | apply Kd.R_drew)); exact HO_5.out) hb); have n2_ := Aside0.mk (Kd.R_below (by (with_reducible repeat (first | apply Kd.R_alloc | apply Kd.R_drewN | apply Kd.R_drew)); exact HO168.out) hb); have n3_ := Aside0.mk (Kd.R_lower (Kd.R_newM (M := fun k_ => (w.heap.size ≤ k_)) ho0 (below_size (by repeat (first | (with_reducible first | exact HB.out | apply below_alloc | apply pw_below_drewN | apply below_drew1) | exact HB.out))) (fun k_ h_ => h_)) (below_size (by repeat (first | (with_reducible first | exact HB.out | apply below_alloc | apply pw_below_drewN | apply below_drew1) | exact HB.out)))); have n4_ := Aside0.mk (below_step (by repeat (first | (with_reducible first | exact HB.out | apply below_alloc | apply pw_below_drewN | apply below_drew1) | exact HB.out)) hb); clear HO_4; clear HO_5; clear HO168; clear HB; have HO_4 := n0_; have HO_5 := n1_; have HO168 := n2_; have HO173 := n3_; have HB := n4_; clear n0_ n1_ n2_ n3_ n4_; (try clear hb); (try clear hb2); (try clear hk); (try clear hi); (try clear ho0); have p174 : 0 ≤ (2 : Int) := (by omega); have q174 : 2 < (t166.length : Int) := of_decide_eq_true (by first | (with_reducible assumption) | assumption); obtain ⟨ad174, e174, hx174_0⟩ := Kd.at_string (Kd.R_reads' HO168.out).2.2 2 p174 q174; obtain rfl : ad169 = ad174 := (by injection e174); (try simp only [show (2 : Int).toNat = 2 from rfl, Nat.reduceMul, Nat.reduceEqDiff, Go.Addr.add, ↓reduceIte] at hx174_0); have qi174 : (2 < t166.length) = True := eq_true (by omega); (try rw [show ((2 : Int)).toNat = 2 from rfl] at hx174_0); replace p174 := eq_true p174; replace q174 := eq_true q174) | ((with_reducible refine gate_callee (f := 60) rfl ?_); refine goesL_ (some 43) rfl rfl Tryd.func60 (by kernel_rfl) rfl #[.string (rdOf ByteArray.empty t166 2)] rfl (by (try simp only [List.map_toArray, List.map_cons, List.map_nil]); first | done | rfl | (simp only [List.length_drop, List.length_take]; rfl)) ?_; (with_reducible refine (spec_l01NRead.calls k1 (rdOf ByteArray.empty t166 2) t175 true _ A16.out).mono ?_); rintro e w39 ⟨v177, rfl, ho0, hb⟩; refine ⟨_, rfl, ?_⟩; have n0_ := Aside0.mk (Kd.S_elder' (by (with_reducible repeat (first | apply Kd.S_alloc | apply Kd.S_drewN | apply Kd.S_drew)); exact HO_4.out) (Kd.R_base ho0) hb); have n1_ := Aside0.mk (Kd.R_below (by (with_reducible repeat (first | apply Kd.R_alloc | apply Kd.R_drewN | apply Kd.R_drew)); exact HO_5.out) hb); have n2_ := Aside0.mk (Kd.R_below (by (with_reducible repeat (first | apply Kd.R_alloc | apply Kd.R_drewN | apply Kd.R_drew)); exact HO168.out) hb); have n3_ := Aside0.mk (Kd.R_elder' (by (with_reducible repeat (first | apply Kd.R_alloc | apply Kd.R_drewN | apply Kd.R_drew)); exact HO173.out) (Kd.R_base ho0) hb); have n4_ := Aside0.mk (Kd.R_lower (Kd.R_new' (Kd.R_newM (M := fun k_ => (w.heap.size ≤ k_)) ho0 (below_size (by repeat (first | (with_reducible first | exact HB.out | apply below_alloc | apply pw_below_drewN | apply below_drew1) | exact HB.out))) (fun k_ h_ => h_)) (Kd.R_lt (by (with_reducible repeat (first | apply Kd.R_alloc | apply Kd.R_drewN | apply Kd.R_drew)); exact HO173.out))) (below_size (by repeat (first | (with_reducible first | exact HB.out | apply below_alloc | apply pw_below_drewN | apply below_drew1) | exact HB.out)))); have n5_ := Aside0.mk (below_step (by repeat (first | (with_reducible first | exact HB.out | apply below_alloc | apply pw_below_drewN | apply below_drew1) | exact HB.out)) hb); clear HO_4; clear HO_5; clear HO168; clear HO173; clear HB; have HO_4 := n0_; have HO_5 := n1_; have HO168 := n2_; have HO173 := n3_; have HO178 := n4_; have HB := n5_; clear n0_ n1_ n2_ n3_ n4_ n5_; (try clear hb); (try clear hb2); (try clear hk); (try clear hi); (try clear ho0); obtain ⟨Ao40, co40, eo40⟩ := Kd.R_slice HO178.out; subst eo40))
            go_ret2
            exact ⟨_, by first | rfl | (simp [errW_none, errW_some] <;> rfl) | (simp [*, errW_none, errW_some] <;> rfl), Kd.V_nil _ _ _ _ _, by repeat (first | (with_reducible first | exact HB.out | apply below_alloc | apply pw_below_drewN | apply below_drew1) | exact HB.out)⟩
          ·replace c18 := Bool.eq_false_iff.mpr c18
           subst c18
           have H1 : (some (([] : List (S58)), false)) = some (r1, r2) := by rw [if_neg (show ¬ (false = true) by decide)] at H; exact H
           clear H
           have H := H1
           clear H1
           simp only [Option.some.injEq, Prod.mk.injEq] at H
           obtain ⟨rfl, rfl⟩ := H
           obtain ⟨Ao41, co41, eo41⟩ := Kd.R_slice HO_5.out
           subst eo41
           have p165 : 0 ≤ (x6_1 : Int) := of_decide_eq_true (by first | (with_reducible assumption) | assumption)
           have q165 : x6_1 < (t158.length : Int) := of_decide_eq_true (by first | (with_reducible assumption) | assumption)
           obtain ⟨ad165, e165, hx165_0⟩ := Kd.at_string (Kd.R_reads' HO_5.out).2.2 x6_1 p165 q165
           cases e165
           replace p165 := eq_true p165
           replace q165 := eq_true q165
           go_wp2_with (first | ((with_reducible refine gate_callee (f := 65) rfl ?_); refine goesL_ (some 28) rfl rfl Tryd.func65 (by kernel_rfl) rfl #[.string (rdOf ByteArray.empty t158 x6_1), .int .u8 58] rfl (by (try simp only [List.map_toArray, List.map_cons, List.map_nil]); first | done | rfl | (simp only [List.length_drop, List.length_take]; rfl)) ?_; (with_reducible refine (spec_l01Cut.calls k1 (rdOf ByteArray.empty t158 x6_1) 58 t166 _ A11.out).mono ?_); rintro e w42 ⟨v167, rfl, ho0, hb⟩; refine ⟨_, rfl, ?_⟩; have n0_ := Aside0.mk (Kd.S_below (by (with_reducible repeat (first | apply Kd.S_alloc | apply Kd.S_drewN | apply Kd.S_drew)); exact HO_4.out) hb); have n1_ := Aside0.mk (Kd.R_elder' (by (with_reducible repeat (first | apply Kd.R_alloc | apply Kd.R_drewN | apply Kd.R_drew)); exact HO_5.out) (Kd.R_base ho0) hb); have n2_ := Aside0.mk (Kd.R_lower (Kd.R_new' (Kd.R_newM (M := fun k_ => (w.heap.size ≤ k_)) ho0 (below_size (by repeat (first | (with_reducible first | exact HB.out | apply below_alloc | apply pw_below_drewN | apply below_drew1) | exact HB.out))) (fun k_ h_ => h_)) (Kd.R_lt (by (with_reducible repeat (first | apply Kd.R_alloc | apply Kd.R_drewN | apply Kd.R_drew)); exact HO_5.out))) (below_size (by repeat (first | (with_reducible first | exact HB.out | apply below_alloc | apply pw_below_drewN | apply below_drew1) | exact HB.out)))); have n3_ := Aside0.mk (below_step (by repeat (first | (with_reducible first | exact HB.out | apply below_alloc | apply pw_below_drewN | apply below_drew1) | exact HB.out)) hb); clear HO_4; clear HO_5; clear HB; have HO_4 := n0_; have HO_5 := n1_; have HO168 := n2_; have HB := n3_; clear n0_ n1_ n2_ n3_; (try clear hb); (try clear hb2); (try clear hk); (try clear hi); (try clear ho0); obtain ⟨Ao43, co43, eo43⟩ := Kd.R_slice HO168.out; subst eo43; have p169 : 0 ≤ (1 : Int) := (by omega); have q169 : 1 < (t166.length : Int) := of_decide_eq_true (by first | (with_reducible assumption) | assumption); obtain ⟨ad169, e169, hx169_0⟩ := Kd.at_string (Kd.R_reads' HO168.out).2.2 1 p169 q169; cases e169; (try simp only [show (1 : Int).toNat = 1 from rfl, Nat.reduceMul, Nat.reduceEqDiff, Go.Addr.add, ↓reduceIte] at hx169_0); have qi169 : (1 < t166.length) = True := eq_true (by omega); (try rw [show ((1 : Int)).toNat = 1 from rfl] at hx169_0); replace p169 := eq_true p169; replace q169 := eq_true q169) | ((with_reducible refine gate_callee (f := 60) rfl ?_); refine goesL_ (some 36) rfl rfl Tryd.func60 (by kernel_rfl) rfl #[.string (rdOf ByteArray.empty t166 1)] rfl (by (try simp only [List.map_toArray, List.map_cons, List.map_nil]); first | done | rfl | (simp only [List.length_drop, List.length_take]; rfl)) ?_; (with_reducible refine (spec_l01NRead.calls k1 (rdOf ByteArray.empty t166 1) t170 true _ A14.out).mono ?_); rintro e w44 ⟨v172, rfl, ho0, hb⟩; refine ⟨_, rfl, ?_⟩; have n0_ := Aside0.mk (Kd.S_elder' (by (with_reducible repeat (first | apply Kd.S_alloc | apply Kd.S_drewN | apply Kd.S_drew)); exact HO_4.out) (Kd.R_base ho0) hb); have n1_ := Aside0.mk (Kd.R_below (by (with_reducible repeat (first | apply Kd.R_alloc | apply Kd.R_drewN | apply Kd.R_drew)); exact HO_5.out) hb); have n2_ := Aside0.mk (Kd.R_below (by (with_reducible repeat (first | apply Kd.R_alloc | apply Kd.R_drewN | apply Kd.R_drew)); exact HO168.out) hb); have n3_ := Aside0.mk (Kd.R_lower (Kd.R_newM (M := fun k_ => (w.heap.size ≤ k_)) ho0 (below_size (by repeat (first | (with_reducible first | exact HB.out | apply below_alloc | apply pw_below_drewN | apply below_drew1) | exact HB.out))) (fun k_ h_ => h_)) (below_size (by repeat (first | (with_reducible first | exact HB.out | apply below_alloc | apply pw_below_drewN | apply below_drew1) | exact HB.out)))); have n4_ := Aside0.mk (below_step (by repeat (first | (with_reducible first | exact HB.out | apply below_alloc | apply pw_below_drewN | apply below_drew1) | exact HB.out)) hb); clear HO_4; clear HO_5; clear HO168; clear HB; have HO_4 := n0_; have HO_5 := n1_; have HO168 := n2_; have HO173 := n3_; have HB := n4_; clear n0_ n1_ n2_ n3_ n4_; (try clear hb); (try clear hb2); (try clear hk); (try clear hi); (try clear ho0); have p174 : 0 ≤ (2 : Int) := (by omega); have q174 : 2 < (t166.length : Int) := of_decide_eq_true (by first | (with_reducible assumption) | assumption); obtain ⟨ad174, e174, hx174_0⟩ := Kd.at_string (Kd.R_reads' HO168.out).2.2 2 p174 q174; obtain rfl : ad169 = ad174 := (by injection e174); (try simp only [show (2 : Int).toNat = 2 from rfl, Nat.reduceMul, Nat.reduceEqDiff, Go.Addr.add, ↓reduceIte] at hx174_0); have qi174 : (2 < t166.length) = True := eq_true (by omega); (try rw [show ((2 : Int)).toNat = 2 from rfl] at hx174_0); replace p174 := eq_true p174; replace q174 := eq_true q174) | ((with_reducible refine gate_callee (f := 60) rfl ?_); refine goesL_ (some 43) rfl rfl Tryd.func60 (by kernel_rfl) rfl #[.string (rdOf ByteArray.empty t166 2)] rfl (by (try simp only [List.map_toArray, List.map_cons, List.map_nil]); first | done | rfl | (simp only [List.length_drop, List.length_take]; rfl)) ?_; (with_reducible refine (spec_l01NRead.calls k1 (rdOf ByteArray.empty t166 2) t175 false _ A16.out).mono ?_); rintro e w45 ⟨v177, rfl, ho0, hb⟩; refine ⟨_, rfl, ?_⟩; have n0_ := Aside0.mk (Kd.S_elder' (by (with_reducible repeat (first | apply Kd.S_alloc | apply Kd.S_drewN | apply Kd.S_drew)); exact HO_4.out) (Kd.R_base ho0) hb); have n1_ := Aside0.mk (Kd.R_below (by (with_reducible repeat (first | apply Kd.R_alloc | apply Kd.R_drewN | apply Kd.R_drew)); exact HO_5.out) hb); have n2_ := Aside0.mk (Kd.R_below (by (with_reducible repeat (first | apply Kd.R_alloc | apply Kd.R_drewN | apply Kd.R_drew)); exact HO168.out) hb); have n3_ := Aside0.mk (Kd.R_elder' (by (with_reducible repeat (first | apply Kd.R_alloc | apply Kd.R_drewN | apply Kd.R_drew)); exact HO173.out) (Kd.R_base ho0) hb); have n4_ := Aside0.mk (Kd.R_lower (Kd.R_new' (Kd.R_newM (M := fun k_ => (w.heap.size ≤ k_)) ho0 (below_size (by repeat (first | (with_reducible first | exact HB.out | apply below_alloc | apply pw_below_drewN | apply below_drew1) | exact HB.out))) (fun k_ h_ => h_)) (Kd.R_lt (by (with_reducible repeat (first | apply Kd.R_alloc | apply Kd.R_drewN | apply Kd.R_drew)); exact HO173.out))) (below_size (by repeat (first | (with_reducible first | exact HB.out | apply below_alloc | apply pw_below_drewN | apply below_drew1) | exact HB.out)))); have n5_ := Aside0.mk (below_step (by repeat (first | (with_reducible first | exact HB.out | apply below_alloc | apply pw_below_drewN | apply below_drew1) | exact HB.out)) hb); clear HO_4; clear HO_5; clear HO168; clear HO173; clear HB; have HO_4 := n0_; have HO_5 := n1_; have HO168 := n2_; have HO173 := n3_; have HO178 := n4_; have HB := n5_; clear n0_ n1_ n2_ n3_ n4_ n5_; (try clear hb); (try clear hb2); (try clear hk); (try clear hi); (try clear ho0)))
           go_ret2
           exact ⟨_, by first | rfl | (simp [errW_none, errW_some] <;> rfl) | (simp [*, errW_none, errW_some] <;> rfl), Kd.V_nil _ _ _ _ _, by repeat (first | (with_reducible first | exact HB.out | apply below_alloc | apply pw_below_drewN | apply below_drew1) | exact HB.out)⟩
         ·replace c17 := Bool.eq_false_iff.mpr c17
          subst c17
          have H1 : (some (([] : List (S58)), false)) = some (r1, r2) := by rw [if_neg (show ¬ (false = true) by decide)] at H; exact H
          clear H
          have H := H1
          clear H1
          simp only [Option.some.injEq, Prod.mk.injEq] at H
          obtain ⟨rfl, rfl⟩ := H
          obtain ⟨Ao46, co46, eo46⟩ := Kd.R_slice HO_5.out
          subst eo46
          have p165 : 0 ≤ (x6_1 : Int) := of_decide_eq_true (by first | (with_reducible assumption) | assumption)
          have q165 : x6_1 < (t158.length : Int) := of_decide_eq_true (by first | (with_reducible assumption) | assumption)
          obtain ⟨ad165, e165, hx165_0⟩ := Kd.at_string (Kd.R_reads' HO_5.out).2.2 x6_1 p165 q165
          cases e165
          replace p165 := eq_true p165
          replace q165 := eq_true q165
          go_wp2_with (first | ((with_reducible refine gate_callee (f := 65) rfl ?_); refine goesL_ (some 28) rfl rfl Tryd.func65 (by kernel_rfl) rfl #[.string (rdOf ByteArray.empty t158 x6_1), .int .u8 58] rfl (by (try simp only [List.map_toArray, List.map_cons, List.map_nil]); first | done | rfl | (simp only [List.length_drop, List.length_take]; rfl)) ?_; (with_reducible refine (spec_l01Cut.calls k1 (rdOf ByteArray.empty t158 x6_1) 58 t166 _ A11.out).mono ?_); rintro e w47 ⟨v167, rfl, ho0, hb⟩; refine ⟨_, rfl, ?_⟩; have n0_ := Aside0.mk (Kd.S_below (by (with_reducible repeat (first | apply Kd.S_alloc | apply Kd.S_drewN | apply Kd.S_drew)); exact HO_4.out) hb); have n1_ := Aside0.mk (Kd.R_elder' (by (with_reducible repeat (first | apply Kd.R_alloc | apply Kd.R_drewN | apply Kd.R_drew)); exact HO_5.out) (Kd.R_base ho0) hb); have n2_ := Aside0.mk (Kd.R_lower (Kd.R_new' (Kd.R_newM (M := fun k_ => (w.heap.size ≤ k_)) ho0 (below_size (by repeat (first | (with_reducible first | exact HB.out | apply below_alloc | apply pw_below_drewN | apply below_drew1) | exact HB.out))) (fun k_ h_ => h_)) (Kd.R_lt (by (with_reducible repeat (first | apply Kd.R_alloc | apply Kd.R_drewN | apply Kd.R_drew)); exact HO_5.out))) (below_size (by repeat (first | (with_reducible first | exact HB.out | apply below_alloc | apply pw_below_drewN | apply below_drew1) | exact HB.out)))); have n3_ := Aside0.mk (below_step (by repeat (first | (with_reducible first | exact HB.out | apply below_alloc | apply pw_below_drewN | apply below_drew1) | exact HB.out)) hb); clear HO_4; clear HO_5; clear HB; have HO_4 := n0_; have HO_5 := n1_; have HO168 := n2_; have HB := n3_; clear n0_ n1_ n2_ n3_; (try clear hb); (try clear hb2); (try clear hk); (try clear hi); (try clear ho0); obtain ⟨Ao48, co48, eo48⟩ := Kd.R_slice HO168.out; subst eo48; have p169 : 0 ≤ (1 : Int) := (by omega); have q169 : 1 < (t166.length : Int) := of_decide_eq_true (by first | (with_reducible assumption) | assumption); obtain ⟨ad169, e169, hx169_0⟩ := Kd.at_string (Kd.R_reads' HO168.out).2.2 1 p169 q169; cases e169; (try simp only [show (1 : Int).toNat = 1 from rfl, Nat.reduceMul, Nat.reduceEqDiff, Go.Addr.add, ↓reduceIte] at hx169_0); have qi169 : (1 < t166.length) = True := eq_true (by omega); (try rw [show ((1 : Int)).toNat = 1 from rfl] at hx169_0); replace p169 := eq_true p169; replace q169 := eq_true q169) | ((with_reducible refine gate_callee (f := 60) rfl ?_); refine goesL_ (some 36) rfl rfl Tryd.func60 (by kernel_rfl) rfl #[.string (rdOf ByteArray.empty t166 1)] rfl (by (try simp only [List.map_toArray, List.map_cons, List.map_nil]); first | done | rfl | (simp only [List.length_drop, List.length_take]; rfl)) ?_; (with_reducible refine (spec_l01NRead.calls k1 (rdOf ByteArray.empty t166 1) t170 false _ A14.out).mono ?_); rintro e w49 ⟨v172, rfl, ho0, hb⟩; refine ⟨_, rfl, ?_⟩; have n0_ := Aside0.mk (Kd.S_elder' (by (with_reducible repeat (first | apply Kd.S_alloc | apply Kd.S_drewN | apply Kd.S_drew)); exact HO_4.out) (Kd.R_base ho0) hb); have n1_ := Aside0.mk (Kd.R_below (by (with_reducible repeat (first | apply Kd.R_alloc | apply Kd.R_drewN | apply Kd.R_drew)); exact HO_5.out) hb); have n2_ := Aside0.mk (Kd.R_below (by (with_reducible repeat (first | apply Kd.R_alloc | apply Kd.R_drewN | apply Kd.R_drew)); exact HO168.out) hb); have n3_ := Aside0.mk (Kd.R_lower (Kd.R_newM (M := fun k_ => (w.heap.size ≤ k_)) ho0 (below_size (by repeat (first | (with_reducible first | exact HB.out | apply below_alloc | apply pw_below_drewN | apply below_drew1) | exact HB.out))) (fun k_ h_ => h_)) (below_size (by repeat (first | (with_reducible first | exact HB.out | apply below_alloc | apply pw_below_drewN | apply below_drew1) | exact HB.out)))); have n4_ := Aside0.mk (below_step (by repeat (first | (with_reducible first | exact HB.out | apply below_alloc | apply pw_below_drewN | apply below_drew1) | exact HB.out)) hb); clear HO_4; clear HO_5; clear HO168; clear HB; have HO_4 := n0_; have HO_5 := n1_; have HO168 := n2_; have HO173 := n3_; have HB := n4_; clear n0_ n1_ n2_ n3_ n4_; (try clear hb); (try clear hb2); (try clear hk); (try clear hi); (try clear ho0); have p174 : 0 ≤ (2 : Int) := (by omega); have q174 : 2 < (t166.length : Int) := of_decide_eq_true (by first | (with_reducible assumption) | assumption); obtain ⟨ad174, e174, hx174_0⟩ := Kd.at_string (Kd.R_reads' HO168.out).2.2 2 p174 q174; obtain rfl : ad169 = ad174 := (by injection e174); (try simp only [show (2 : Int).toNat = 2 from rfl, Nat.reduceMul, Nat.reduceEqDiff, Go.Addr.add, ↓reduceIte] at hx174_0); have qi174 : (2 < t166.length) = True := eq_true (by omega); (try rw [show ((2 : Int)).toNat = 2 from rfl] at hx174_0); replace p174 := eq_true p174; replace q174 := eq_true q174) | ((with_reducible refine gate_callee (f := 60) rfl ?_); refine goesL_ (some 43) rfl rfl Tryd.func60 (by kernel_rfl) rfl #[.string (rdOf ByteArray.empty t166 2)] rfl (by (try simp only [List.map_toArray, List.map_cons, List.map_nil]); first | done | rfl | (simp only [List.length_drop, List.length_take]; rfl)) ?_; (with_reducible refine (spec_l01NRead.calls k1 (rdOf ByteArray.empty t166 2) t175 t176 _ A16.out).mono ?_); rintro e w50 ⟨v177, rfl, ho0, hb⟩; refine ⟨_, rfl, ?_⟩; have n0_ := Aside0.mk (Kd.S_elder' (by (with_reducible repeat (first | apply Kd.S_alloc | apply Kd.S_drewN | apply Kd.S_drew)); exact HO_4.out) (Kd.R_base ho0) hb); have n1_ := Aside0.mk (Kd.R_below (by (with_reducible repeat (first | apply Kd.R_alloc | apply Kd.R_drewN | apply Kd.R_drew)); exact HO_5.out) hb); have n2_ := Aside0.mk (Kd.R_below (by (with_reducible repeat (first | apply Kd.R_alloc | apply Kd.R_drewN | apply Kd.R_drew)); exact HO168.out) hb); have n3_ := Aside0.mk (Kd.R_elder' (by (with_reducible repeat (first | apply Kd.R_alloc | apply Kd.R_drewN | apply Kd.R_drew)); exact HO173.out) (Kd.R_base ho0) hb); have n4_ := Aside0.mk (Kd.R_lower (Kd.R_new' (Kd.R_newM (M := fun k_ => (w.heap.size ≤ k_)) ho0 (below_size (by repeat (first | (with_reducible first | exact HB.out | apply below_alloc | apply pw_below_drewN | apply below_drew1) | exact HB.out))) (fun k_ h_ => h_)) (Kd.R_lt (by (with_reducible repeat (first | apply Kd.R_alloc | apply Kd.R_drewN | apply Kd.R_drew)); exact HO173.out))) (below_size (by repeat (first | (with_reducible first | exact HB.out | apply below_alloc | apply pw_below_drewN | apply below_drew1) | exact HB.out)))); have n5_ := Aside0.mk (below_step (by repeat (first | (with_reducible first | exact HB.out | apply below_alloc | apply pw_below_drewN | apply below_drew1) | exact HB.out)) hb); clear HO_4; clear HO_5; clear HO168; clear HO173; clear HB; have HO_4 := n0_; have HO_5 := n1_; have HO168 := n2_; have HO173 := n3_; have HO178 := n4_; have HB := n5_; clear n0_ n1_ n2_ n3_ n4_ n5_; (try clear hb); (try clear hb2); (try clear hk); (try clear hi); (try clear ho0)))
          go_ret2
          exact ⟨_, by first | rfl | (simp [errW_none, errW_some] <;> rfl) | (simp [*, errW_none, errW_some] <;> rfl), Kd.V_nil _ _ _ _ _, by repeat (first | (with_reducible first | exact HB.out | apply below_alloc | apply pw_below_drewN | apply below_drew1) | exact HB.out)⟩
        ·rw [if_neg c15] at H
         exact absurd H (by simp)
       ·rw [if_neg c13] at H
        exact absurd H (by simp)
      ·rw [if_neg c12] at H
       have c12b0 : ((t166.length : Int) == 3) = false := beq_eq_false_iff_ne.mpr c12
       have c12b1 : ((t166.length : Int) != 3) = true := bne_iff_ne.mpr c12
       simp only [Option.some.injEq, Prod.mk.injEq] at H
       obtain ⟨rfl, rfl⟩ := H
       obtain ⟨Ao51, co51, eo51⟩ := Kd.R_slice HO_5.out
       subst eo51
       have p165 : 0 ≤ (x6_1 : Int) := of_decide_eq_true (by first | (with_reducible assumption) | assumption)
       have q165 : x6_1 < (t158.length : Int) := of_decide_eq_true (by first | (with_reducible assumption) | assumption)
       obtain ⟨ad165, e165, hx165_0⟩ := Kd.at_string (Kd.R_reads' HO_5.out).2.2 x6_1 p165 q165
       cases e165
       replace p165 := eq_true p165
       replace q165 := eq_true q165
       go_wp2_with (first | ((with_reducible refine gate_callee (f := 65) rfl ?_); refine goesL_ (some 28) rfl rfl Tryd.func65 (by kernel_rfl) rfl #[.string (rdOf ByteArray.empty t158 x6_1), .int .u8 58] rfl (by (try simp only [List.map_toArray, List.map_cons, List.map_nil]); first | done | rfl | (simp only [List.length_drop, List.length_take]; rfl)) ?_; (with_reducible refine (spec_l01Cut.calls k1 (rdOf ByteArray.empty t158 x6_1) 58 t166 _ A11.out).mono ?_); rintro e w52 ⟨v167, rfl, ho0, hb⟩; refine ⟨_, rfl, ?_⟩; have n0_ := Aside0.mk (Kd.S_below (by (with_reducible repeat (first | apply Kd.S_alloc | apply Kd.S_drewN | apply Kd.S_drew)); exact HO_4.out) hb); have n1_ := Aside0.mk (Kd.R_elder' (by (with_reducible repeat (first | apply Kd.R_alloc | apply Kd.R_drewN | apply Kd.R_drew)); exact HO_5.out) (Kd.R_base ho0) hb); have n2_ := Aside0.mk (Kd.R_lower (Kd.R_new' (Kd.R_newM (M := fun k_ => (w.heap.size ≤ k_)) ho0 (below_size (by repeat (first | (with_reducible first | exact HB.out | apply below_alloc | apply pw_below_drewN | apply below_drew1) | exact HB.out))) (fun k_ h_ => h_)) (Kd.R_lt (by (with_reducible repeat (first | apply Kd.R_alloc | apply Kd.R_drewN | apply Kd.R_drew)); exact HO_5.out))) (below_size (by repeat (first | (with_reducible first | exact HB.out | apply below_alloc | apply pw_below_drewN | apply below_drew1) | exact HB.out)))); have n3_ := Aside0.mk (below_step (by repeat (first | (with_reducible first | exact HB.out | apply below_alloc | apply pw_below_drewN | apply below_drew1) | exact HB.out)) hb); clear HO_4; clear HO_5; clear HB; have HO_4 := n0_; have HO_5 := n1_; have HO168 := n2_; have HB := n3_; clear n0_ n1_ n2_ n3_; (try clear hb); (try clear hb2); (try clear hk); (try clear hi); (try clear ho0); obtain ⟨Ao53, co53, eo53⟩ := Kd.R_slice HO168.out; subst eo53))
       go_ret2
       exact ⟨_, by first | rfl | (simp [errW_none, errW_some] <;> rfl) | (simp [*, errW_none, errW_some] <;> rfl), Kd.V_nil _ _ _ _ _, by repeat (first | (with_reducible first | exact HB.out | apply below_alloc | apply pw_below_drewN | apply below_drew1) | exact HB.out)⟩
     ·rw [if_neg c10] at H
      exact absurd H (by simp)
    ·rw [if_neg c9] at H
     have c9b0 : decide (x6_1 < (t158.length : Int)) = false := decide_eq_false c9
     clear c9
     replace H := Option.bind_eq_some_iff.mp H
     obtain ⟨⟨t161, t164⟩, A540, H⟩ := H
     replace H : (some (t161, t164)) = some (r1, r2) := H
     have A54 := Aside0.mk A540
     clear A540
     simp only [Option.some.injEq, Prod.mk.injEq] at H
     obtain ⟨rfl, rfl⟩ := H
     obtain ⟨Ao55, co55, eo55⟩ := Kd.R_slice HO_5.out
     subst eo55
     obtain ⟨Ao56, co56, eo56⟩ := Kd.S_slice HO_4.out
     subst eo56
     go_wp2_with (first | ((with_reducible refine gate_callee (f := 71) rfl ?_); refine goesL_ (some 78) rfl rfl Tryd.func71 (by kernel_rfl) rfl #[.slice Ao56 x4_1.length co56] rfl (by (try simp only [List.map_toArray, List.map_cons, List.map_nil]); first | done | rfl | (simp only [List.length_drop, List.length_take]; rfl)) ?_; (with_reducible refine (spec_l06Give.calls k1 (fun k_ => ((w.heap.size ≤ k_) ∧ some k_ ≠ (.slice Ao55 t158.length co55 : Value).ownBlock)) _ _ x4_1 t161 t164 _ ?side1 A54.out).mono ?_); (case side1 => exact Kd.S_V (Kd.S_apart' (HO_4.out) (Kd.R_typed HO_5.out) (by decide))); rintro e w57 ⟨v162, rfl, ho0, hb⟩; refine ⟨_, rfl, ?_⟩; have n0_ := Aside0.mk (Kd.S_below (by (with_reducible repeat (first | apply Kd.S_alloc | apply Kd.S_drewN | apply Kd.S_drew)); exact HO_4.out) hb); have n1_ := Aside0.mk (Kd.R_below (by (with_reducible repeat (first | apply Kd.R_alloc | apply Kd.R_drewN | apply Kd.R_drew)); exact HO_5.out) hb); have n2_ := Aside0.mk (Kd.V_lower (Kd.V_mono (ok' := fun k_ => (w.heap.size ≤ k_) ∧ some k_ ≠ (.slice Ao55 t158.length co55 : Value).ownBlock) ho0 (fun k_ hk_ => ⟨Or.elim hk_ (fun hs_ => hs_.1) (fun hn_ => (Nat.le_trans (below_size (by repeat (first | (with_reducible first | exact HB.out | apply below_alloc | apply pw_below_drewN | apply below_drew1) | exact HB.out))) hn_)), Or.elim hk_ (fun hs_ => hs_.2) (fun hn_ => (Kd.fresh' (Kd.R_lt (by (with_reducible repeat (first | apply Kd.R_alloc | apply Kd.R_drewN | apply Kd.R_drew)); exact HO_5.out)) k_ hn_))⟩)) (below_size (by repeat (first | (with_reducible first | exact HB.out | apply below_alloc | apply pw_below_drewN | apply below_drew1) | exact HB.out)))); have n3_ := Aside0.mk (below_step (by repeat (first | (with_reducible first | exact HB.out | apply below_alloc | apply pw_below_drewN | apply below_drew1) | exact HB.out)) hb); clear HO_4; clear HO_5; clear HB; have HO_4 := n0_; have HO_5 := n1_; have HO163 := n2_; have HB := n3_; clear n0_ n1_ n2_ n3_; (try clear hb); (try clear hb2); (try clear hk); (try clear hi); (try clear ho0)))
     go_ret2
     exact ⟨_, by first | rfl | (simp [errW_none, errW_some] <;> rfl) | (simp [*, errW_none, errW_some] <;> rfl), by (with_reducible repeat (first | apply Kd.V_alloc | apply Kd.V_drewN | apply Kd.V_drew)); exact Kd.V_mono HO163.out (fun _ hk => hk.1), by repeat (first | (with_reducible first | exact HB.out | apply below_alloc | apply pw_below_drewN | apply below_drew1) | exact HB.out)⟩
end Go.Proofs.YtdfpfiecpcgffaaDoor.PFnExactReadSounds
