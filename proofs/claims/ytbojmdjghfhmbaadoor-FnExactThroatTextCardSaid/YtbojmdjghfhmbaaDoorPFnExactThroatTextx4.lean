import Derived.Test.YtbojmdjghfhmbaaDoorPFnExactThroatTextx0
import Derived.Test.YtbojmdjghfhmbaaDoorPFnExactThroatTextx2
import Derived.Test.YtbojmdjghfhmbaaDoorPFnExactThroatTextx3
namespace Go.Proofs.YtbojmdjghfhmbaaDoor.PFnExactThroatText
open Go.RowKit Go.Proofs.YtbojmdjghfhmbaaDoorW.PrintWords Go.Proofs.YtbojmdjghfhmbaaDoorW.PrintLast Go.Proofs.YtbojmdjghfhmbaaDoorW.PrintMore
open Go.Proofs.YtbojmdjghfhmbaaDoorW.PrintFl
attribute [local go_sem high] binOp_feq binOp_fne binOp_fls binOp_fle binOp_fgr binOp_fge
attribute [local go_sem] run_fopr run_fconv run_fint run_stf run_stc ext_f32bits ext_f32frombits
attribute [local go_sem] max2_int min2_int max_two min_two max_three min_three max_four min_four
set_option linter.unusedVariables false
set_option linter.unusedSimpArgs false
def spec_l08Throat.f (k : Nat) (l0 : List (S27)) : Option (ByteArray) := if 0 < (l0.length : Int) then ((spec_l01NText.f k (([(rd_T27 l0 0).f0, (rd_T27 l0 0).f1, (rd_T27 l0 0).f2, (rd_T27 l0 0).f3, (rd_T27 l0 0).f4] : List Nat))).bind fun t148 => (some t148)) else (none)
theorem spec_l08Throat.mono : ∀ a0 k, LeO (spec_l08Throat.f k a0) (spec_l08Throat.f (k + 1) a0) := by
  intro a0 k
  unfold spec_l08Throat.f
  repeat' first
      | (with_reducible exact spec_l01NText.mono _ _)
      | (with_reducible exact LeO.refl _)
      | (with_reducible exact LeO.none _)
      | (with_reducible refine LeO.ite ?_ ?_)
      | (with_reducible refine LeO.bind ?_ (fun _ => ?_))
      | exact spec_l01NText.mono _ _
      | exact LeO.none _
      | refine LeO.ite ?_ ?_
      | refine LeO.bind ?_ (fun _ => ?_)
def spec_l08Throat.T1 : Bool × List (List Nat × List Nat) := (true, [([], []), ([0], [0]), ([1], [1]), ([2], [2]), ([], []), ([4], [4]), ([5], [5]), ([6], [6]), ([], []), ([8], [8]), ([9], [9]), ([10], [10]), ([], []), ([12], [12]), ([13], [13]), ([14], [14]), ([], []), ([16], [16]), ([17], [17]), ([18], [18]), ([3, 7, 11, 15, 19], [3, 7, 11, 15, 19]), ([20], [20]), ([21, 21, 0, 1, 2, 3, 4, 5, 6, 7, 8, 9, 10, 11, 12, 13, 14, 15, 16, 17, 18, 19, 20, 21], [21])])
def spec_l08Throat.B1 : List Nat := [0, 1, 3, 7, 0, 16, 48, 112, 0, 256, 768, 1792, 0, 4096, 12288, 28672, 0, 65536, 196608, 458752, 1048575, 2097151, 4194303]
theorem spec_l08Throat.tab1 : rtab .any (opsOf Tryd.f59 1) = spec_l08Throat.T1 := by kernel_rfl
theorem spec_l08Throat.bits1 : waitsOk spec_l08Throat.T1.2 spec_l08Throat.B1 = true := by kernel_rfl
set_option maxHeartbeats 8000000 in
set_option maxRecDepth 100000 in
theorem spec_l08Throat.calls (k : Nat) (A0 : Option Addr) (l0 : List (S27)) (r : ByteArray) (w : World) (hr0 : Kd.C k27 w A0 l0.length l0) (h : spec_l08Throat.f k l0 = some r) :
    Calls Tryd.prog 59 #[.pointer A0] w fun e w' => e = .returned (.string r) ∧ Below w.heap.size w w' := by
  have hu22 := Tryd.underlying22
  have HR0 := Aside0.mk hr0
  clear hr0
  have HB := Aside0.mk (Below.refl w.heap.size w)
  have H : (if 0 < (l0.length : Int) then ((spec_l01NText.f k (([(rd_T27 l0 0).f0, (rd_T27 l0 0).f1, (rd_T27 l0 0).f2, (rd_T27 l0 0).f3, (rd_T27 l0 0).f4] : List Nat))).bind fun t148 => (some t148)) else (none)) = some r := h
  clear h
  by_cases c2 : 0 < (l0.length : Int)
  · rw [if_pos c2] at H
    have c2b0 : decide (0 < (l0.length : Int)) = true := decide_eq_true c2
    have c2b1 : decide (0 < l0.length) = true := decide_eq_true (by omega)
    clear c2
    obtain ⟨y145, hy145⟩ : ∃ y_ : List Nat, y_ = (([(rd_T27 l0 0).f0, (rd_T27 l0 0).f1, (rd_T27 l0 0).f2, (rd_T27 l0 0).f3, (rd_T27 l0 0).f4] : List Nat)) := ⟨_, rfl⟩
    replace H : ((spec_l01NText.f k y145).bind fun t148 => (some t148)) = some r := by first | (rw [hy145]; with_reducible exact H) | (have H2_ := (Option.bind_some _ _).symm.trans H; rw [hy145]; with_reducible exact H2_) | (have H2_ := (Option.bind_some _ _).symm.trans H; with_reducible exact H2_) | with_reducible exact H | (rw [hy145]; exact H) | exact H
    have Ny145 := Aside0.mk hy145
    clear hy145
    replace H := Option.bind_eq_some_iff.mp H
    obtain ⟨t148, A30, H⟩ := H
    replace H : (some t148) = some r := H
    have A3 := Aside0.mk A30
    clear A30
    obtain rfl := Option.some.inj H
    go_enter Tryd.func59, Tryd.ntmps59
    try go_wp2
    have n0_ := Aside0.mk (below_drew1 HB.out)
    clear HB
    have HB := n0_
    clear n0_
    have p135 : 0 ≤ (0 : Int) := (by omega)
    have q135 : 0 < (l0.length : Int) := of_decide_eq_true (by first | (with_reducible assumption) | assumption)
    obtain ⟨ad135, e135, hx135_0, hx135_1, hx135_2, hx135_3, hx135_4⟩ := at_T27 HR0.out 0 p135 q135
    have hw135_4 := hx135_4
    (try rw [show ((0 : Int)).toNat = 0 from rfl] at hw135_4)
    (try rw [show 0 * 5 = 0 from rfl] at hw135_4)
    (try rw [Addr.add_zero'] at hw135_4)
    have hw135_3 := hx135_3
    (try rw [show ((0 : Int)).toNat = 0 from rfl] at hw135_3)
    (try rw [show 0 * 5 = 0 from rfl] at hw135_3)
    (try rw [Addr.add_zero'] at hw135_3)
    have hw135_2 := hx135_2
    (try rw [show ((0 : Int)).toNat = 0 from rfl] at hw135_2)
    (try rw [show 0 * 5 = 0 from rfl] at hw135_2)
    (try rw [Addr.add_zero'] at hw135_2)
    have hw135_1 := hx135_1
    (try rw [show ((0 : Int)).toNat = 0 from rfl] at hw135_1)
    (try rw [show 0 * 5 = 0 from rfl] at hw135_1)
    (try rw [Addr.add_zero'] at hw135_1)
    have hw135_0 := hx135_0
    (try rw [show ((0 : Int)).toNat = 0 from rfl] at hw135_0)
    (try rw [show 0 * 5 = 0 from rfl] at hw135_0)
    (try rw [Addr.add_zero'] at hw135_0)
    cases e135
    have qi135 : (0 < l0.length) = True := eq_true (by omega)
    (try rw [show ((0 : Int)).toNat = 0 from rfl] at hx135_0)
    (try rw [show 0 * 5 = 0 from rfl] at hx135_0)
    (try rw [Addr.add_zero'] at hx135_0)
    (try rw [show ((0 : Int)).toNat = 0 from rfl] at hx135_1)
    (try rw [show 0 * 5 = 0 from rfl] at hx135_1)
    (try rw [Addr.add_zero'] at hx135_1)
    (try rw [show ((0 : Int)).toNat = 0 from rfl] at hx135_2)
    (try rw [show 0 * 5 = 0 from rfl] at hx135_2)
    (try rw [Addr.add_zero'] at hx135_2)
    (try rw [show ((0 : Int)).toNat = 0 from rfl] at hx135_3)
    (try rw [show 0 * 5 = 0 from rfl] at hx135_3)
    (try rw [Addr.add_zero'] at hx135_3)
    (try rw [show ((0 : Int)).toNat = 0 from rfl] at hx135_4)
    (try rw [show 0 * 5 = 0 from rfl] at hx135_4)
    (try rw [Addr.add_zero'] at hx135_4)
    replace hx135_0 := (HB.out.cell (World.block_lt_of_cell? w _ hx135_0)).trans hx135_0
    replace hx135_1 := (HB.out.cell (World.block_lt_of_cell? w _ hx135_1)).trans hx135_1
    replace hx135_2 := (HB.out.cell (World.block_lt_of_cell? w _ hx135_2)).trans hx135_2
    replace hx135_3 := (HB.out.cell (World.block_lt_of_cell? w _ hx135_3)).trans hx135_3
    replace hx135_4 := (HB.out.cell (World.block_lt_of_cell? w _ hx135_4)).trans hx135_4
    replace p135 := eq_true p135
    replace q135 := eq_true q135
    have p136 : 0 ≤ (0 : Int) := (by omega)
    have q136 : 0 < (l0.length : Int) := of_decide_eq_true (by first | (with_reducible assumption) | assumption)
    obtain ⟨ad136, e136, hx136_0, hx136_1, hx136_2, hx136_3, hx136_4⟩ := at_T27 HR0.out 0 p136 q136
    have hw136_4 := hx136_4
    (try rw [show ((0 : Int)).toNat = 0 from rfl] at hw136_4)
    (try rw [show 0 * 5 = 0 from rfl] at hw136_4)
    (try rw [Addr.add_zero'] at hw136_4)
    have hw136_3 := hx136_3
    (try rw [show ((0 : Int)).toNat = 0 from rfl] at hw136_3)
    (try rw [show 0 * 5 = 0 from rfl] at hw136_3)
    (try rw [Addr.add_zero'] at hw136_3)
    have hw136_2 := hx136_2
    (try rw [show ((0 : Int)).toNat = 0 from rfl] at hw136_2)
    (try rw [show 0 * 5 = 0 from rfl] at hw136_2)
    (try rw [Addr.add_zero'] at hw136_2)
    have hw136_1 := hx136_1
    (try rw [show ((0 : Int)).toNat = 0 from rfl] at hw136_1)
    (try rw [show 0 * 5 = 0 from rfl] at hw136_1)
    (try rw [Addr.add_zero'] at hw136_1)
    have hw136_0 := hx136_0
    (try rw [show ((0 : Int)).toNat = 0 from rfl] at hw136_0)
    (try rw [show 0 * 5 = 0 from rfl] at hw136_0)
    (try rw [Addr.add_zero'] at hw136_0)
    obtain rfl : ad135 = ad136 := (by injection e136)
    have qi136 : (0 < l0.length) = True := eq_true (by omega)
    (try rw [show ((0 : Int)).toNat = 0 from rfl] at hx136_0)
    (try rw [show 0 * 5 = 0 from rfl] at hx136_0)
    (try rw [Addr.add_zero'] at hx136_0)
    (try rw [show ((0 : Int)).toNat = 0 from rfl] at hx136_1)
    (try rw [show 0 * 5 = 0 from rfl] at hx136_1)
    (try rw [Addr.add_zero'] at hx136_1)
    (try rw [show ((0 : Int)).toNat = 0 from rfl] at hx136_2)
    (try rw [show 0 * 5 = 0 from rfl] at hx136_2)
    (try rw [Addr.add_zero'] at hx136_2)
    (try rw [show ((0 : Int)).toNat = 0 from rfl] at hx136_3)
    (try rw [show 0 * 5 = 0 from rfl] at hx136_3)
    (try rw [Addr.add_zero'] at hx136_3)
    (try rw [show ((0 : Int)).toNat = 0 from rfl] at hx136_4)
    (try rw [show 0 * 5 = 0 from rfl] at hx136_4)
    (try rw [Addr.add_zero'] at hx136_4)
    replace hx136_0 := (HB.out.cell (World.block_lt_of_cell? w _ hx136_0)).trans hx136_0
    replace hx136_1 := (HB.out.cell (World.block_lt_of_cell? w _ hx136_1)).trans hx136_1
    replace hx136_2 := (HB.out.cell (World.block_lt_of_cell? w _ hx136_2)).trans hx136_2
    replace hx136_3 := (HB.out.cell (World.block_lt_of_cell? w _ hx136_3)).trans hx136_3
    replace hx136_4 := (HB.out.cell (World.block_lt_of_cell? w _ hx136_4)).trans hx136_4
    replace p136 := eq_true p136
    replace q136 := eq_true q136
    have p137 : 0 ≤ (0 : Int) := (by omega)
    have q137 : 0 < (l0.length : Int) := of_decide_eq_true (by first | (with_reducible assumption) | assumption)
    obtain ⟨ad137, e137, hx137_0, hx137_1, hx137_2, hx137_3, hx137_4⟩ := at_T27 HR0.out 0 p137 q137
    have hw137_4 := hx137_4
    (try rw [show ((0 : Int)).toNat = 0 from rfl] at hw137_4)
    (try rw [show 0 * 5 = 0 from rfl] at hw137_4)
    (try rw [Addr.add_zero'] at hw137_4)
    have hw137_3 := hx137_3
    (try rw [show ((0 : Int)).toNat = 0 from rfl] at hw137_3)
    (try rw [show 0 * 5 = 0 from rfl] at hw137_3)
    (try rw [Addr.add_zero'] at hw137_3)
    have hw137_2 := hx137_2
    (try rw [show ((0 : Int)).toNat = 0 from rfl] at hw137_2)
    (try rw [show 0 * 5 = 0 from rfl] at hw137_2)
    (try rw [Addr.add_zero'] at hw137_2)
    have hw137_1 := hx137_1
    (try rw [show ((0 : Int)).toNat = 0 from rfl] at hw137_1)
    (try rw [show 0 * 5 = 0 from rfl] at hw137_1)
    (try rw [Addr.add_zero'] at hw137_1)
    have hw137_0 := hx137_0
    (try rw [show ((0 : Int)).toNat = 0 from rfl] at hw137_0)
    (try rw [show 0 * 5 = 0 from rfl] at hw137_0)
    (try rw [Addr.add_zero'] at hw137_0)
    obtain rfl : ad135 = ad137 := (by injection e137)
    have qi137 : (0 < l0.length) = True := eq_true (by omega)
    (try rw [show ((0 : Int)).toNat = 0 from rfl] at hx137_0)
    (try rw [show 0 * 5 = 0 from rfl] at hx137_0)
    (try rw [Addr.add_zero'] at hx137_0)
    (try rw [show ((0 : Int)).toNat = 0 from rfl] at hx137_1)
    (try rw [show 0 * 5 = 0 from rfl] at hx137_1)
    (try rw [Addr.add_zero'] at hx137_1)
    (try rw [show ((0 : Int)).toNat = 0 from rfl] at hx137_2)
    (try rw [show 0 * 5 = 0 from rfl] at hx137_2)
    (try rw [Addr.add_zero'] at hx137_2)
    (try rw [show ((0 : Int)).toNat = 0 from rfl] at hx137_3)
    (try rw [show 0 * 5 = 0 from rfl] at hx137_3)
    (try rw [Addr.add_zero'] at hx137_3)
    (try rw [show ((0 : Int)).toNat = 0 from rfl] at hx137_4)
    (try rw [show 0 * 5 = 0 from rfl] at hx137_4)
    (try rw [Addr.add_zero'] at hx137_4)
    replace hx137_0 := (HB.out.cell (World.block_lt_of_cell? w _ hx137_0)).trans hx137_0
    replace hx137_1 := (HB.out.cell (World.block_lt_of_cell? w _ hx137_1)).trans hx137_1
    replace hx137_2 := (HB.out.cell (World.block_lt_of_cell? w _ hx137_2)).trans hx137_2
    replace hx137_3 := (HB.out.cell (World.block_lt_of_cell? w _ hx137_3)).trans hx137_3
    replace hx137_4 := (HB.out.cell (World.block_lt_of_cell? w _ hx137_4)).trans hx137_4
    replace p137 := eq_true p137
    replace q137 := eq_true q137
    have p138 : 0 ≤ (0 : Int) := (by omega)
    have q138 : 0 < (l0.length : Int) := of_decide_eq_true (by first | (with_reducible assumption) | assumption)
    obtain ⟨ad138, e138, hx138_0, hx138_1, hx138_2, hx138_3, hx138_4⟩ := at_T27 HR0.out 0 p138 q138
    have hw138_4 := hx138_4
    (try rw [show ((0 : Int)).toNat = 0 from rfl] at hw138_4)
    (try rw [show 0 * 5 = 0 from rfl] at hw138_4)
    (try rw [Addr.add_zero'] at hw138_4)
    have hw138_3 := hx138_3
    (try rw [show ((0 : Int)).toNat = 0 from rfl] at hw138_3)
    (try rw [show 0 * 5 = 0 from rfl] at hw138_3)
    (try rw [Addr.add_zero'] at hw138_3)
    have hw138_2 := hx138_2
    (try rw [show ((0 : Int)).toNat = 0 from rfl] at hw138_2)
    (try rw [show 0 * 5 = 0 from rfl] at hw138_2)
    (try rw [Addr.add_zero'] at hw138_2)
    have hw138_1 := hx138_1
    (try rw [show ((0 : Int)).toNat = 0 from rfl] at hw138_1)
    (try rw [show 0 * 5 = 0 from rfl] at hw138_1)
    (try rw [Addr.add_zero'] at hw138_1)
    have hw138_0 := hx138_0
    (try rw [show ((0 : Int)).toNat = 0 from rfl] at hw138_0)
    (try rw [show 0 * 5 = 0 from rfl] at hw138_0)
    (try rw [Addr.add_zero'] at hw138_0)
    obtain rfl : ad135 = ad138 := (by injection e138)
    have qi138 : (0 < l0.length) = True := eq_true (by omega)
    (try rw [show ((0 : Int)).toNat = 0 from rfl] at hx138_0)
    (try rw [show 0 * 5 = 0 from rfl] at hx138_0)
    (try rw [Addr.add_zero'] at hx138_0)
    (try rw [show ((0 : Int)).toNat = 0 from rfl] at hx138_1)
    (try rw [show 0 * 5 = 0 from rfl] at hx138_1)
    (try rw [Addr.add_zero'] at hx138_1)
    (try rw [show ((0 : Int)).toNat = 0 from rfl] at hx138_2)
    (try rw [show 0 * 5 = 0 from rfl] at hx138_2)
    (try rw [Addr.add_zero'] at hx138_2)
    (try rw [show ((0 : Int)).toNat = 0 from rfl] at hx138_3)
    (try rw [show 0 * 5 = 0 from rfl] at hx138_3)
    (try rw [Addr.add_zero'] at hx138_3)
    (try rw [show ((0 : Int)).toNat = 0 from rfl] at hx138_4)
    (try rw [show 0 * 5 = 0 from rfl] at hx138_4)
    (try rw [Addr.add_zero'] at hx138_4)
    replace hx138_0 := (HB.out.cell (World.block_lt_of_cell? w _ hx138_0)).trans hx138_0
    replace hx138_1 := (HB.out.cell (World.block_lt_of_cell? w _ hx138_1)).trans hx138_1
    replace hx138_2 := (HB.out.cell (World.block_lt_of_cell? w _ hx138_2)).trans hx138_2
    replace hx138_3 := (HB.out.cell (World.block_lt_of_cell? w _ hx138_3)).trans hx138_3
    replace hx138_4 := (HB.out.cell (World.block_lt_of_cell? w _ hx138_4)).trans hx138_4
    replace p138 := eq_true p138
    replace q138 := eq_true q138
    have p139 : 0 ≤ (0 : Int) := (by omega)
    have q139 : 0 < (l0.length : Int) := of_decide_eq_true (by first | (with_reducible assumption) | assumption)
    obtain ⟨ad139, e139, hx139_0, hx139_1, hx139_2, hx139_3, hx139_4⟩ := at_T27 HR0.out 0 p139 q139
    have hw139_4 := hx139_4
    (try rw [show ((0 : Int)).toNat = 0 from rfl] at hw139_4)
    (try rw [show 0 * 5 = 0 from rfl] at hw139_4)
    (try rw [Addr.add_zero'] at hw139_4)
    have hw139_3 := hx139_3
    (try rw [show ((0 : Int)).toNat = 0 from rfl] at hw139_3)
    (try rw [show 0 * 5 = 0 from rfl] at hw139_3)
    (try rw [Addr.add_zero'] at hw139_3)
    have hw139_2 := hx139_2
    (try rw [show ((0 : Int)).toNat = 0 from rfl] at hw139_2)
    (try rw [show 0 * 5 = 0 from rfl] at hw139_2)
    (try rw [Addr.add_zero'] at hw139_2)
    have hw139_1 := hx139_1
    (try rw [show ((0 : Int)).toNat = 0 from rfl] at hw139_1)
    (try rw [show 0 * 5 = 0 from rfl] at hw139_1)
    (try rw [Addr.add_zero'] at hw139_1)
    have hw139_0 := hx139_0
    (try rw [show ((0 : Int)).toNat = 0 from rfl] at hw139_0)
    (try rw [show 0 * 5 = 0 from rfl] at hw139_0)
    (try rw [Addr.add_zero'] at hw139_0)
    obtain rfl : ad135 = ad139 := (by injection e139)
    have qi139 : (0 < l0.length) = True := eq_true (by omega)
    (try rw [show ((0 : Int)).toNat = 0 from rfl] at hx139_0)
    (try rw [show 0 * 5 = 0 from rfl] at hx139_0)
    (try rw [Addr.add_zero'] at hx139_0)
    (try rw [show ((0 : Int)).toNat = 0 from rfl] at hx139_1)
    (try rw [show 0 * 5 = 0 from rfl] at hx139_1)
    (try rw [Addr.add_zero'] at hx139_1)
    (try rw [show ((0 : Int)).toNat = 0 from rfl] at hx139_2)
    (try rw [show 0 * 5 = 0 from rfl] at hx139_2)
    (try rw [Addr.add_zero'] at hx139_2)
    (try rw [show ((0 : Int)).toNat = 0 from rfl] at hx139_3)
    (try rw [show 0 * 5 = 0 from rfl] at hx139_3)
    (try rw [Addr.add_zero'] at hx139_3)
    (try rw [show ((0 : Int)).toNat = 0 from rfl] at hx139_4)
    (try rw [show 0 * 5 = 0 from rfl] at hx139_4)
    (try rw [Addr.add_zero'] at hx139_4)
    replace hx139_0 := (HB.out.cell (World.block_lt_of_cell? w _ hx139_0)).trans hx139_0
    replace hx139_1 := (HB.out.cell (World.block_lt_of_cell? w _ hx139_1)).trans hx139_1
    replace hx139_2 := (HB.out.cell (World.block_lt_of_cell? w _ hx139_2)).trans hx139_2
    replace hx139_3 := (HB.out.cell (World.block_lt_of_cell? w _ hx139_3)).trans hx139_3
    replace hx139_4 := (HB.out.cell (World.block_lt_of_cell? w _ hx139_4)).trans hx139_4
    replace p139 := eq_true p139
    replace q139 := eq_true q139
    have p140 : 0 ≤ (0 : Int) := (by omega)
    have q140 : 0 < (l0.length : Int) := of_decide_eq_true (by first | (with_reducible assumption) | assumption)
    obtain ⟨ad140, e140, hx140_0, hx140_1, hx140_2, hx140_3, hx140_4⟩ := at_T27 HR0.out 0 p140 q140
    have hw140_4 := hx140_4
    (try rw [show ((0 : Int)).toNat = 0 from rfl] at hw140_4)
    (try rw [show 0 * 5 = 0 from rfl] at hw140_4)
    (try rw [Addr.add_zero'] at hw140_4)
    have hw140_3 := hx140_3
    (try rw [show ((0 : Int)).toNat = 0 from rfl] at hw140_3)
    (try rw [show 0 * 5 = 0 from rfl] at hw140_3)
    (try rw [Addr.add_zero'] at hw140_3)
    have hw140_2 := hx140_2
    (try rw [show ((0 : Int)).toNat = 0 from rfl] at hw140_2)
    (try rw [show 0 * 5 = 0 from rfl] at hw140_2)
    (try rw [Addr.add_zero'] at hw140_2)
    have hw140_1 := hx140_1
    (try rw [show ((0 : Int)).toNat = 0 from rfl] at hw140_1)
    (try rw [show 0 * 5 = 0 from rfl] at hw140_1)
    (try rw [Addr.add_zero'] at hw140_1)
    have hw140_0 := hx140_0
    (try rw [show ((0 : Int)).toNat = 0 from rfl] at hw140_0)
    (try rw [show 0 * 5 = 0 from rfl] at hw140_0)
    (try rw [Addr.add_zero'] at hw140_0)
    obtain rfl : ad135 = ad140 := (by injection e140)
    have qi140 : (0 < l0.length) = True := eq_true (by omega)
    (try rw [show ((0 : Int)).toNat = 0 from rfl] at hx140_0)
    (try rw [show 0 * 5 = 0 from rfl] at hx140_0)
    (try rw [Addr.add_zero'] at hx140_0)
    (try rw [show ((0 : Int)).toNat = 0 from rfl] at hx140_1)
    (try rw [show 0 * 5 = 0 from rfl] at hx140_1)
    (try rw [Addr.add_zero'] at hx140_1)
    (try rw [show ((0 : Int)).toNat = 0 from rfl] at hx140_2)
    (try rw [show 0 * 5 = 0 from rfl] at hx140_2)
    (try rw [Addr.add_zero'] at hx140_2)
    (try rw [show ((0 : Int)).toNat = 0 from rfl] at hx140_3)
    (try rw [show 0 * 5 = 0 from rfl] at hx140_3)
    (try rw [Addr.add_zero'] at hx140_3)
    (try rw [show ((0 : Int)).toNat = 0 from rfl] at hx140_4)
    (try rw [show 0 * 5 = 0 from rfl] at hx140_4)
    (try rw [Addr.add_zero'] at hx140_4)
    replace hx140_0 := (HB.out.cell (World.block_lt_of_cell? w _ hx140_0)).trans hx140_0
    replace hx140_1 := (HB.out.cell (World.block_lt_of_cell? w _ hx140_1)).trans hx140_1
    replace hx140_2 := (HB.out.cell (World.block_lt_of_cell? w _ hx140_2)).trans hx140_2
    replace hx140_3 := (HB.out.cell (World.block_lt_of_cell? w _ hx140_3)).trans hx140_3
    replace hx140_4 := (HB.out.cell (World.block_lt_of_cell? w _ hx140_4)).trans hx140_4
    replace p140 := eq_true p140
    replace q140 := eq_true q140
    have p141 : 0 ≤ (0 : Int) := (by omega)
    have q141 : 0 < (l0.length : Int) := of_decide_eq_true (by first | (with_reducible assumption) | assumption)
    obtain ⟨ad141, e141, hx141_0, hx141_1, hx141_2, hx141_3, hx141_4⟩ := at_T27 HR0.out 0 p141 q141
    have hw141_4 := hx141_4
    (try rw [show ((0 : Int)).toNat = 0 from rfl] at hw141_4)
    (try rw [show 0 * 5 = 0 from rfl] at hw141_4)
    (try rw [Addr.add_zero'] at hw141_4)
    have hw141_3 := hx141_3
    (try rw [show ((0 : Int)).toNat = 0 from rfl] at hw141_3)
    (try rw [show 0 * 5 = 0 from rfl] at hw141_3)
    (try rw [Addr.add_zero'] at hw141_3)
    have hw141_2 := hx141_2
    (try rw [show ((0 : Int)).toNat = 0 from rfl] at hw141_2)
    (try rw [show 0 * 5 = 0 from rfl] at hw141_2)
    (try rw [Addr.add_zero'] at hw141_2)
    have hw141_1 := hx141_1
    (try rw [show ((0 : Int)).toNat = 0 from rfl] at hw141_1)
    (try rw [show 0 * 5 = 0 from rfl] at hw141_1)
    (try rw [Addr.add_zero'] at hw141_1)
    have hw141_0 := hx141_0
    (try rw [show ((0 : Int)).toNat = 0 from rfl] at hw141_0)
    (try rw [show 0 * 5 = 0 from rfl] at hw141_0)
    (try rw [Addr.add_zero'] at hw141_0)
    obtain rfl : ad135 = ad141 := (by injection e141)
    have qi141 : (0 < l0.length) = True := eq_true (by omega)
    (try rw [show ((0 : Int)).toNat = 0 from rfl] at hx141_0)
    (try rw [show 0 * 5 = 0 from rfl] at hx141_0)
    (try rw [Addr.add_zero'] at hx141_0)
    (try rw [show ((0 : Int)).toNat = 0 from rfl] at hx141_1)
    (try rw [show 0 * 5 = 0 from rfl] at hx141_1)
    (try rw [Addr.add_zero'] at hx141_1)
    (try rw [show ((0 : Int)).toNat = 0 from rfl] at hx141_2)
    (try rw [show 0 * 5 = 0 from rfl] at hx141_2)
    (try rw [Addr.add_zero'] at hx141_2)
    (try rw [show ((0 : Int)).toNat = 0 from rfl] at hx141_3)
    (try rw [show 0 * 5 = 0 from rfl] at hx141_3)
    (try rw [Addr.add_zero'] at hx141_3)
    (try rw [show ((0 : Int)).toNat = 0 from rfl] at hx141_4)
    (try rw [show 0 * 5 = 0 from rfl] at hx141_4)
    (try rw [Addr.add_zero'] at hx141_4)
    replace hx141_0 := (HB.out.cell (World.block_lt_of_cell? w _ hx141_0)).trans hx141_0
    replace hx141_1 := (HB.out.cell (World.block_lt_of_cell? w _ hx141_1)).trans hx141_1
    replace hx141_2 := (HB.out.cell (World.block_lt_of_cell? w _ hx141_2)).trans hx141_2
    replace hx141_3 := (HB.out.cell (World.block_lt_of_cell? w _ hx141_3)).trans hx141_3
    replace hx141_4 := (HB.out.cell (World.block_lt_of_cell? w _ hx141_4)).trans hx141_4
    replace p141 := eq_true p141
    replace q141 := eq_true q141
    have p142 : 0 ≤ (0 : Int) := (by omega)
    have q142 : 0 < (l0.length : Int) := of_decide_eq_true (by first | (with_reducible assumption) | assumption)
    obtain ⟨ad142, e142, hx142_0, hx142_1, hx142_2, hx142_3, hx142_4⟩ := at_T27 HR0.out 0 p142 q142
    have hw142_4 := hx142_4
    (try rw [show ((0 : Int)).toNat = 0 from rfl] at hw142_4)
    (try rw [show 0 * 5 = 0 from rfl] at hw142_4)
    (try rw [Addr.add_zero'] at hw142_4)
    have hw142_3 := hx142_3
    (try rw [show ((0 : Int)).toNat = 0 from rfl] at hw142_3)
    (try rw [show 0 * 5 = 0 from rfl] at hw142_3)
    (try rw [Addr.add_zero'] at hw142_3)
    have hw142_2 := hx142_2
    (try rw [show ((0 : Int)).toNat = 0 from rfl] at hw142_2)
    (try rw [show 0 * 5 = 0 from rfl] at hw142_2)
    (try rw [Addr.add_zero'] at hw142_2)
    have hw142_1 := hx142_1
    (try rw [show ((0 : Int)).toNat = 0 from rfl] at hw142_1)
    (try rw [show 0 * 5 = 0 from rfl] at hw142_1)
    (try rw [Addr.add_zero'] at hw142_1)
    have hw142_0 := hx142_0
    (try rw [show ((0 : Int)).toNat = 0 from rfl] at hw142_0)
    (try rw [show 0 * 5 = 0 from rfl] at hw142_0)
    (try rw [Addr.add_zero'] at hw142_0)
    obtain rfl : ad135 = ad142 := (by injection e142)
    have qi142 : (0 < l0.length) = True := eq_true (by omega)
    (try rw [show ((0 : Int)).toNat = 0 from rfl] at hx142_0)
    (try rw [show 0 * 5 = 0 from rfl] at hx142_0)
    (try rw [Addr.add_zero'] at hx142_0)
    (try rw [show ((0 : Int)).toNat = 0 from rfl] at hx142_1)
    (try rw [show 0 * 5 = 0 from rfl] at hx142_1)
    (try rw [Addr.add_zero'] at hx142_1)
    (try rw [show ((0 : Int)).toNat = 0 from rfl] at hx142_2)
    (try rw [show 0 * 5 = 0 from rfl] at hx142_2)
    (try rw [Addr.add_zero'] at hx142_2)
    (try rw [show ((0 : Int)).toNat = 0 from rfl] at hx142_3)
    (try rw [show 0 * 5 = 0 from rfl] at hx142_3)
    (try rw [Addr.add_zero'] at hx142_3)
    (try rw [show ((0 : Int)).toNat = 0 from rfl] at hx142_4)
    (try rw [show 0 * 5 = 0 from rfl] at hx142_4)
    (try rw [Addr.add_zero'] at hx142_4)
    replace hx142_0 := (HB.out.cell (World.block_lt_of_cell? w _ hx142_0)).trans hx142_0
    replace hx142_1 := (HB.out.cell (World.block_lt_of_cell? w _ hx142_1)).trans hx142_1
    replace hx142_2 := (HB.out.cell (World.block_lt_of_cell? w _ hx142_2)).trans hx142_2
    replace hx142_3 := (HB.out.cell (World.block_lt_of_cell? w _ hx142_3)).trans hx142_3
    replace hx142_4 := (HB.out.cell (World.block_lt_of_cell? w _ hx142_4)).trans hx142_4
    replace p142 := eq_true p142
    replace q142 := eq_true q142
    have p143 : 0 ≤ (0 : Int) := (by omega)
    have q143 : 0 < (l0.length : Int) := of_decide_eq_true (by first | (with_reducible assumption) | assumption)
    obtain ⟨ad143, e143, hx143_0, hx143_1, hx143_2, hx143_3, hx143_4⟩ := at_T27 HR0.out 0 p143 q143
    have hw143_4 := hx143_4
    (try rw [show ((0 : Int)).toNat = 0 from rfl] at hw143_4)
    (try rw [show 0 * 5 = 0 from rfl] at hw143_4)
    (try rw [Addr.add_zero'] at hw143_4)
    have hw143_3 := hx143_3
    (try rw [show ((0 : Int)).toNat = 0 from rfl] at hw143_3)
    (try rw [show 0 * 5 = 0 from rfl] at hw143_3)
    (try rw [Addr.add_zero'] at hw143_3)
    have hw143_2 := hx143_2
    (try rw [show ((0 : Int)).toNat = 0 from rfl] at hw143_2)
    (try rw [show 0 * 5 = 0 from rfl] at hw143_2)
    (try rw [Addr.add_zero'] at hw143_2)
    have hw143_1 := hx143_1
    (try rw [show ((0 : Int)).toNat = 0 from rfl] at hw143_1)
    (try rw [show 0 * 5 = 0 from rfl] at hw143_1)
    (try rw [Addr.add_zero'] at hw143_1)
    have hw143_0 := hx143_0
    (try rw [show ((0 : Int)).toNat = 0 from rfl] at hw143_0)
    (try rw [show 0 * 5 = 0 from rfl] at hw143_0)
    (try rw [Addr.add_zero'] at hw143_0)
    obtain rfl : ad135 = ad143 := (by injection e143)
    have qi143 : (0 < l0.length) = True := eq_true (by omega)
    (try rw [show ((0 : Int)).toNat = 0 from rfl] at hx143_0)
    (try rw [show 0 * 5 = 0 from rfl] at hx143_0)
    (try rw [Addr.add_zero'] at hx143_0)
    (try rw [show ((0 : Int)).toNat = 0 from rfl] at hx143_1)
    (try rw [show 0 * 5 = 0 from rfl] at hx143_1)
    (try rw [Addr.add_zero'] at hx143_1)
    (try rw [show ((0 : Int)).toNat = 0 from rfl] at hx143_2)
    (try rw [show 0 * 5 = 0 from rfl] at hx143_2)
    (try rw [Addr.add_zero'] at hx143_2)
    (try rw [show ((0 : Int)).toNat = 0 from rfl] at hx143_3)
    (try rw [show 0 * 5 = 0 from rfl] at hx143_3)
    (try rw [Addr.add_zero'] at hx143_3)
    (try rw [show ((0 : Int)).toNat = 0 from rfl] at hx143_4)
    (try rw [show 0 * 5 = 0 from rfl] at hx143_4)
    (try rw [Addr.add_zero'] at hx143_4)
    replace hx143_0 := (HB.out.cell (World.block_lt_of_cell? w _ hx143_0)).trans hx143_0
    replace hx143_1 := (HB.out.cell (World.block_lt_of_cell? w _ hx143_1)).trans hx143_1
    replace hx143_2 := (HB.out.cell (World.block_lt_of_cell? w _ hx143_2)).trans hx143_2
    replace hx143_3 := (HB.out.cell (World.block_lt_of_cell? w _ hx143_3)).trans hx143_3
    replace hx143_4 := (HB.out.cell (World.block_lt_of_cell? w _ hx143_4)).trans hx143_4
    replace p143 := eq_true p143
    replace q143 := eq_true q143
    have p144 : 0 ≤ (0 : Int) := (by omega)
    have q144 : 0 < (l0.length : Int) := of_decide_eq_true (by first | (with_reducible assumption) | assumption)
    obtain ⟨ad144, e144, hx144_0, hx144_1, hx144_2, hx144_3, hx144_4⟩ := at_T27 HR0.out 0 p144 q144
    have hw144_4 := hx144_4
    (try rw [show ((0 : Int)).toNat = 0 from rfl] at hw144_4)
    (try rw [show 0 * 5 = 0 from rfl] at hw144_4)
    (try rw [Addr.add_zero'] at hw144_4)
    have hw144_3 := hx144_3
    (try rw [show ((0 : Int)).toNat = 0 from rfl] at hw144_3)
    (try rw [show 0 * 5 = 0 from rfl] at hw144_3)
    (try rw [Addr.add_zero'] at hw144_3)
    have hw144_2 := hx144_2
    (try rw [show ((0 : Int)).toNat = 0 from rfl] at hw144_2)
    (try rw [show 0 * 5 = 0 from rfl] at hw144_2)
    (try rw [Addr.add_zero'] at hw144_2)
    have hw144_1 := hx144_1
    (try rw [show ((0 : Int)).toNat = 0 from rfl] at hw144_1)
    (try rw [show 0 * 5 = 0 from rfl] at hw144_1)
    (try rw [Addr.add_zero'] at hw144_1)
    have hw144_0 := hx144_0
    (try rw [show ((0 : Int)).toNat = 0 from rfl] at hw144_0)
    (try rw [show 0 * 5 = 0 from rfl] at hw144_0)
    (try rw [Addr.add_zero'] at hw144_0)
    obtain rfl : ad135 = ad144 := (by injection e144)
    have qi144 : (0 < l0.length) = True := eq_true (by omega)
    (try rw [show ((0 : Int)).toNat = 0 from rfl] at hx144_0)
    (try rw [show 0 * 5 = 0 from rfl] at hx144_0)
    (try rw [Addr.add_zero'] at hx144_0)
    (try rw [show ((0 : Int)).toNat = 0 from rfl] at hx144_1)
    (try rw [show 0 * 5 = 0 from rfl] at hx144_1)
    (try rw [Addr.add_zero'] at hx144_1)
    (try rw [show ((0 : Int)).toNat = 0 from rfl] at hx144_2)
    (try rw [show 0 * 5 = 0 from rfl] at hx144_2)
    (try rw [Addr.add_zero'] at hx144_2)
    (try rw [show ((0 : Int)).toNat = 0 from rfl] at hx144_3)
    (try rw [show 0 * 5 = 0 from rfl] at hx144_3)
    (try rw [Addr.add_zero'] at hx144_3)
    (try rw [show ((0 : Int)).toNat = 0 from rfl] at hx144_4)
    (try rw [show 0 * 5 = 0 from rfl] at hx144_4)
    (try rw [Addr.add_zero'] at hx144_4)
    replace hx144_0 := (HB.out.cell (World.block_lt_of_cell? w _ hx144_0)).trans hx144_0
    replace hx144_1 := (HB.out.cell (World.block_lt_of_cell? w _ hx144_1)).trans hx144_1
    replace hx144_2 := (HB.out.cell (World.block_lt_of_cell? w _ hx144_2)).trans hx144_2
    replace hx144_3 := (HB.out.cell (World.block_lt_of_cell? w _ hx144_3)).trans hx144_3
    replace hx144_4 := (HB.out.cell (World.block_lt_of_cell? w _ hx144_4)).trans hx144_4
    replace p144 := eq_true p144
    replace q144 := eq_true q144
    refine start_ (n := 23) (S := fun w' => w'.cell? ad135 = some (.float .f32 ((rd_T27 l0 0).f0)) ∧ w'.cell? ⟨ad135.block, ad135.off + 1, none⟩ = some (.float .f32 ((rd_T27 l0 0).f1)) ∧ w'.cell? ⟨ad135.block, ad135.off + 2, none⟩ = some (.float .f32 ((rd_T27 l0 0).f2)) ∧ w'.cell? ⟨ad135.block, ad135.off + 3, none⟩ = some (.float .f32 ((rd_T27 l0 0).f3)) ∧ w'.cell? ⟨ad135.block, ad135.off + 4, none⟩ = some (.float .f32 ((rd_T27 l0 0).f4)) ∧ w'.cell? ad135 = some (.float .f32 ((rd_T27 l0 0).f0)) ∧ w'.cell? ⟨ad135.block, ad135.off + 1, none⟩ = some (.float .f32 ((rd_T27 l0 0).f1)) ∧ w'.cell? ⟨ad135.block, ad135.off + 2, none⟩ = some (.float .f32 ((rd_T27 l0 0).f2)) ∧ w'.cell? ⟨ad135.block, ad135.off + 3, none⟩ = some (.float .f32 ((rd_T27 l0 0).f3)) ∧ w'.cell? ⟨ad135.block, ad135.off + 4, none⟩ = some (.float .f32 ((rd_T27 l0 0).f4)) ∧ w'.cell? ad135 = some (.float .f32 ((rd_T27 l0 0).f0)) ∧ w'.cell? ⟨ad135.block, ad135.off + 1, none⟩ = some (.float .f32 ((rd_T27 l0 0).f1)) ∧ w'.cell? ⟨ad135.block, ad135.off + 2, none⟩ = some (.float .f32 ((rd_T27 l0 0).f2)) ∧ w'.cell? ⟨ad135.block, ad135.off + 3, none⟩ = some (.float .f32 ((rd_T27 l0 0).f3)) ∧ w'.cell? ⟨ad135.block, ad135.off + 4, none⟩ = some (.float .f32 ((rd_T27 l0 0).f4)) ∧ w'.cell? ad135 = some (.float .f32 ((rd_T27 l0 0).f0)) ∧ w'.cell? ⟨ad135.block, ad135.off + 1, none⟩ = some (.float .f32 ((rd_T27 l0 0).f1)) ∧ w'.cell? ⟨ad135.block, ad135.off + 2, none⟩ = some (.float .f32 ((rd_T27 l0 0).f2)) ∧ w'.cell? ⟨ad135.block, ad135.off + 3, none⟩ = some (.float .f32 ((rd_T27 l0 0).f3)) ∧ w'.cell? ⟨ad135.block, ad135.off + 4, none⟩ = some (.float .f32 ((rd_T27 l0 0).f4)) ∧ w'.cell? ad135 = some (.float .f32 ((rd_T27 l0 0).f0)) ∧ w'.cell? ⟨ad135.block, ad135.off + 1, none⟩ = some (.float .f32 ((rd_T27 l0 0).f1)) ∧ w'.cell? ⟨ad135.block, ad135.off + 2, none⟩ = some (.float .f32 ((rd_T27 l0 0).f2)) ∧ w'.cell? ⟨ad135.block, ad135.off + 3, none⟩ = some (.float .f32 ((rd_T27 l0 0).f3)) ∧ w'.cell? ⟨ad135.block, ad135.off + 4, none⟩ = some (.float .f32 ((rd_T27 l0 0).f4)) ∧ w'.cell? ad135 = some (.float .f32 ((rd_T27 l0 0).f0)) ∧ w'.cell? ⟨ad135.block, ad135.off + 1, none⟩ = some (.float .f32 ((rd_T27 l0 0).f1)) ∧ w'.cell? ⟨ad135.block, ad135.off + 2, none⟩ = some (.float .f32 ((rd_T27 l0 0).f2)) ∧ w'.cell? ⟨ad135.block, ad135.off + 3, none⟩ = some (.float .f32 ((rd_T27 l0 0).f3)) ∧ w'.cell? ⟨ad135.block, ad135.off + 4, none⟩ = some (.float .f32 ((rd_T27 l0 0).f4)) ∧ w'.cell? ad135 = some (.float .f32 ((rd_T27 l0 0).f0)) ∧ w'.cell? ⟨ad135.block, ad135.off + 1, none⟩ = some (.float .f32 ((rd_T27 l0 0).f1)) ∧ w'.cell? ⟨ad135.block, ad135.off + 2, none⟩ = some (.float .f32 ((rd_T27 l0 0).f2)) ∧ w'.cell? ⟨ad135.block, ad135.off + 3, none⟩ = some (.float .f32 ((rd_T27 l0 0).f3)) ∧ w'.cell? ⟨ad135.block, ad135.off + 4, none⟩ = some (.float .f32 ((rd_T27 l0 0).f4)) ∧ w'.cell? ad135 = some (.float .f32 ((rd_T27 l0 0).f0)) ∧ w'.cell? ⟨ad135.block, ad135.off + 1, none⟩ = some (.float .f32 ((rd_T27 l0 0).f1)) ∧ w'.cell? ⟨ad135.block, ad135.off + 2, none⟩ = some (.float .f32 ((rd_T27 l0 0).f2)) ∧ w'.cell? ⟨ad135.block, ad135.off + 3, none⟩ = some (.float .f32 ((rd_T27 l0 0).f3)) ∧ w'.cell? ⟨ad135.block, ad135.off + 4, none⟩ = some (.float .f32 ((rd_T27 l0 0).f4)) ∧ w'.cell? ad135 = some (.float .f32 ((rd_T27 l0 0).f0)) ∧ w'.cell? ⟨ad135.block, ad135.off + 1, none⟩ = some (.float .f32 ((rd_T27 l0 0).f1)) ∧ w'.cell? ⟨ad135.block, ad135.off + 2, none⟩ = some (.float .f32 ((rd_T27 l0 0).f2)) ∧ w'.cell? ⟨ad135.block, ad135.off + 3, none⟩ = some (.float .f32 ((rd_T27 l0 0).f3)) ∧ w'.cell? ⟨ad135.block, ad135.off + 4, none⟩ = some (.float .f32 ((rd_T27 l0 0).f4)) ∧ w'.cell? ad135 = some (.float .f32 ((rd_T27 l0 0).f0)) ∧ w'.cell? ⟨ad135.block, ad135.off + 1, none⟩ = some (.float .f32 ((rd_T27 l0 0).f1)) ∧ w'.cell? ⟨ad135.block, ad135.off + 2, none⟩ = some (.float .f32 ((rd_T27 l0 0).f2)) ∧ w'.cell? ⟨ad135.block, ad135.off + 3, none⟩ = some (.float .f32 ((rd_T27 l0 0).f3)) ∧ w'.cell? ⟨ad135.block, ad135.off + 4, none⟩ = some (.float .f32 ((rd_T27 l0 0).f4))) (ds := []) #[false, false, false, false, false, false, false, false, false, false, false, false, false, false, false, false, false, false, false, false, false, false, false] (by kernel_rfl) rfl rfl ⟨((HB.out.cell (World.block_lt_of_cell? w _ hw135_0)).trans hw135_0), ((HB.out.cell (World.block_lt_of_cell? w _ hw135_1)).trans hw135_1), ((HB.out.cell (World.block_lt_of_cell? w _ hw135_2)).trans hw135_2), ((HB.out.cell (World.block_lt_of_cell? w _ hw135_3)).trans hw135_3), ((HB.out.cell (World.block_lt_of_cell? w _ hw135_4)).trans hw135_4), ((HB.out.cell (World.block_lt_of_cell? w _ hw136_0)).trans hw136_0), ((HB.out.cell (World.block_lt_of_cell? w _ hw136_1)).trans hw136_1), ((HB.out.cell (World.block_lt_of_cell? w _ hw136_2)).trans hw136_2), ((HB.out.cell (World.block_lt_of_cell? w _ hw136_3)).trans hw136_3), ((HB.out.cell (World.block_lt_of_cell? w _ hw136_4)).trans hw136_4), ((HB.out.cell (World.block_lt_of_cell? w _ hw137_0)).trans hw137_0), ((HB.out.cell (World.block_lt_of_cell? w _ hw137_1)).trans hw137_1), ((HB.out.cell (World.block_lt_of_cell? w _ hw137_2)).trans hw137_2), ((HB.out.cell (World.block_lt_of_cell? w _ hw137_3)).trans hw137_3), ((HB.out.cell (World.block_lt_of_cell? w _ hw137_4)).trans hw137_4), ((HB.out.cell (World.block_lt_of_cell? w _ hw138_0)).trans hw138_0), ((HB.out.cell (World.block_lt_of_cell? w _ hw138_1)).trans hw138_1), ((HB.out.cell (World.block_lt_of_cell? w _ hw138_2)).trans hw138_2), ((HB.out.cell (World.block_lt_of_cell? w _ hw138_3)).trans hw138_3), ((HB.out.cell (World.block_lt_of_cell? w _ hw138_4)).trans hw138_4), ((HB.out.cell (World.block_lt_of_cell? w _ hw139_0)).trans hw139_0), ((HB.out.cell (World.block_lt_of_cell? w _ hw139_1)).trans hw139_1), ((HB.out.cell (World.block_lt_of_cell? w _ hw139_2)).trans hw139_2), ((HB.out.cell (World.block_lt_of_cell? w _ hw139_3)).trans hw139_3), ((HB.out.cell (World.block_lt_of_cell? w _ hw139_4)).trans hw139_4), ((HB.out.cell (World.block_lt_of_cell? w _ hw140_0)).trans hw140_0), ((HB.out.cell (World.block_lt_of_cell? w _ hw140_1)).trans hw140_1), ((HB.out.cell (World.block_lt_of_cell? w _ hw140_2)).trans hw140_2), ((HB.out.cell (World.block_lt_of_cell? w _ hw140_3)).trans hw140_3), ((HB.out.cell (World.block_lt_of_cell? w _ hw140_4)).trans hw140_4), ((HB.out.cell (World.block_lt_of_cell? w _ hw141_0)).trans hw141_0), ((HB.out.cell (World.block_lt_of_cell? w _ hw141_1)).trans hw141_1), ((HB.out.cell (World.block_lt_of_cell? w _ hw141_2)).trans hw141_2), ((HB.out.cell (World.block_lt_of_cell? w _ hw141_3)).trans hw141_3), ((HB.out.cell (World.block_lt_of_cell? w _ hw141_4)).trans hw141_4), ((HB.out.cell (World.block_lt_of_cell? w _ hw142_0)).trans hw142_0), ((HB.out.cell (World.block_lt_of_cell? w _ hw142_1)).trans hw142_1), ((HB.out.cell (World.block_lt_of_cell? w _ hw142_2)).trans hw142_2), ((HB.out.cell (World.block_lt_of_cell? w _ hw142_3)).trans hw142_3), ((HB.out.cell (World.block_lt_of_cell? w _ hw142_4)).trans hw142_4), ((HB.out.cell (World.block_lt_of_cell? w _ hw143_0)).trans hw143_0), ((HB.out.cell (World.block_lt_of_cell? w _ hw143_1)).trans hw143_1), ((HB.out.cell (World.block_lt_of_cell? w _ hw143_2)).trans hw143_2), ((HB.out.cell (World.block_lt_of_cell? w _ hw143_3)).trans hw143_3), ((HB.out.cell (World.block_lt_of_cell? w _ hw143_4)).trans hw143_4), ((HB.out.cell (World.block_lt_of_cell? w _ hw144_0)).trans hw144_0), ((HB.out.cell (World.block_lt_of_cell? w _ hw144_1)).trans hw144_1), ((HB.out.cell (World.block_lt_of_cell? w _ hw144_2)).trans hw144_2), ((HB.out.cell (World.block_lt_of_cell? w _ hw144_3)).trans hw144_3), ((HB.out.cell (World.block_lt_of_cell? w _ hw144_4)).trans hw144_4)⟩ (fun hHeld => ?_); refine with_tabW spec_l08Throat.tab1 spec_l08Throat.bits1 (fun HT_ HW_ => ?_)
    generalize w.drew = w4 at HB hx135_0 hx135_1 hx135_2 hx135_3 hx135_4 hx136_0 hx136_1 hx136_2 hx136_3 hx136_4 hx137_0 hx137_1 hx137_2 hx137_3 hx137_4 hx138_0 hx138_1 hx138_2 hx138_3 hx138_4 hx139_0 hx139_1 hx139_2 hx139_3 hx139_4 hx140_0 hx140_1 hx140_2 hx140_3 hx140_4 hx141_0 hx141_1 hx141_2 hx141_3 hx141_4 hx142_0 hx142_1 hx142_2 hx142_3 hx142_4 hx143_0 hx143_1 hx143_2 hx143_3 hx143_4 hx144_0 hx144_1 hx144_2 hx144_3 hx144_4 hHeld ⊢
    refine pure_ (i := 0) (N := some 3) (v := ?_) (a' := ?_) #[true, false, false, false, false, false, false, false, false, false, false, false, false, false, false, false, false, false, false, false, false, false, false] rfl rfl (any_of HT_.out (by kernel_rfl)) (fun _ _ _ h => h) (Or.inl ⟨by rfl, ?_⟩) ?_ ?_
    rotate_left
    · intro w'
      go_simp
      with_reducible rfl
    rotate_left
    · simp only [Act.put, List.setIfInBounds_toArray, List.set_cons_zero, List.set_cons_succ, i64_w, i32_w]
      rfl
    refine pure_ (i := 1) (N := some 4) (v := ?_) (a' := ?_) #[true, true, false, false, false, false, false, false, false, false, false, false, false, false, false, false, false, false, false, false, false, false, false] rfl rfl (any_of HT_.out (by kernel_rfl)) (fun _ _ _ h => h) (Or.inl ⟨by rfl, ?_⟩) ?_ ?_
    rotate_left
    · intro w'
      go_simp
      with_reducible rfl
    rotate_left
    · simp only [Act.put, List.setIfInBounds_toArray, List.set_cons_zero, List.set_cons_succ, i64_w, i32_w]
      rfl
    refine pure_ (i := 2) (N := some 5) (v := ?_) (a' := ?_) #[true, true, true, false, false, false, false, false, false, false, false, false, false, false, false, false, false, false, false, false, false, false, false] rfl rfl (any_of HT_.out (by kernel_rfl)) (fun _ _ _ h => h) (Or.inl ⟨by rfl, ?_⟩) ?_ ?_
    rotate_left
    · intro w'
      go_simp
      with_reducible rfl
    rotate_left
    · simp only [Act.put, List.setIfInBounds_toArray, List.set_cons_zero, List.set_cons_succ, i64_w, i32_w]
      rfl
    refine pure_ (i := 4) (N := some 7) (v := ?_) (a' := ?_) #[true, true, true, false, true, false, false, false, false, false, false, false, false, false, false, false, false, false, false, false, false, false, false] rfl rfl (any_of HT_.out (by kernel_rfl)) (fun _ _ _ h => h) (Or.inl ⟨by rfl, ?_⟩) ?_ ?_
    rotate_left
    · intro w'
      go_simp
      with_reducible rfl
    rotate_left
    · simp only [Act.put, List.setIfInBounds_toArray, List.set_cons_zero, List.set_cons_succ, i64_w, i32_w]
      rfl
    refine pure_ (i := 5) (N := some 8) (v := ?_) (a' := ?_) #[true, true, true, false, true, true, false, false, false, false, false, false, false, false, false, false, false, false, false, false, false, false, false] rfl rfl (any_of HT_.out (by kernel_rfl)) (fun _ _ _ h => h) (Or.inl ⟨by rfl, ?_⟩) ?_ ?_
    rotate_left
    · intro w'
      go_simp
      with_reducible rfl
    rotate_left
    · simp only [Act.put, List.setIfInBounds_toArray, List.set_cons_zero, List.set_cons_succ, i64_w, i32_w]
      rfl
    refine pure_ (i := 6) (N := some 9) (v := ?_) (a' := ?_) #[true, true, true, false, true, true, true, false, false, false, false, false, false, false, false, false, false, false, false, false, false, false, false] rfl rfl (any_of HT_.out (by kernel_rfl)) (fun _ _ _ h => h) (Or.inl ⟨by rfl, ?_⟩) ?_ ?_
    rotate_left
    · intro w'
      go_simp
      with_reducible rfl
    rotate_left
    · simp only [Act.put, List.setIfInBounds_toArray, List.set_cons_zero, List.set_cons_succ, i64_w, i32_w]
      rfl
    refine pure_ (i := 8) (N := some 11) (v := ?_) (a' := ?_) #[true, true, true, false, true, true, true, false, true, false, false, false, false, false, false, false, false, false, false, false, false, false, false] rfl rfl (any_of HT_.out (by kernel_rfl)) (fun _ _ _ h => h) (Or.inl ⟨by rfl, ?_⟩) ?_ ?_
    rotate_left
    · intro w'
      go_simp
      with_reducible rfl
    rotate_left
    · simp only [Act.put, List.setIfInBounds_toArray, List.set_cons_zero, List.set_cons_succ, i64_w, i32_w]
      rfl
    refine pure_ (i := 9) (N := some 12) (v := ?_) (a' := ?_) #[true, true, true, false, true, true, true, false, true, true, false, false, false, false, false, false, false, false, false, false, false, false, false] rfl rfl (any_of HT_.out (by kernel_rfl)) (fun _ _ _ h => h) (Or.inl ⟨by rfl, ?_⟩) ?_ ?_
    rotate_left
    · intro w'
      go_simp
      with_reducible rfl
    rotate_left
    · simp only [Act.put, List.setIfInBounds_toArray, List.set_cons_zero, List.set_cons_succ, i64_w, i32_w]
      rfl
    refine pure_ (i := 10) (N := some 13) (v := ?_) (a' := ?_) #[true, true, true, false, true, true, true, false, true, true, true, false, false, false, false, false, false, false, false, false, false, false, false] rfl rfl (any_of HT_.out (by kernel_rfl)) (fun _ _ _ h => h) (Or.inl ⟨by rfl, ?_⟩) ?_ ?_
    rotate_left
    · intro w'
      go_simp
      with_reducible rfl
    rotate_left
    · simp only [Act.put, List.setIfInBounds_toArray, List.set_cons_zero, List.set_cons_succ, i64_w, i32_w]
      rfl
    refine pure_ (i := 12) (N := some 15) (v := ?_) (a' := ?_) #[true, true, true, false, true, true, true, false, true, true, true, false, true, false, false, false, false, false, false, false, false, false, false] rfl rfl (any_of HT_.out (by kernel_rfl)) (fun _ _ _ h => h) (Or.inl ⟨by rfl, ?_⟩) ?_ ?_
    rotate_left
    · intro w'
      go_simp
      with_reducible rfl
    rotate_left
    · simp only [Act.put, List.setIfInBounds_toArray, List.set_cons_zero, List.set_cons_succ, i64_w, i32_w]
      rfl
    refine pure_ (i := 13) (N := some 16) (v := ?_) (a' := ?_) #[true, true, true, false, true, true, true, false, true, true, true, false, true, true, false, false, false, false, false, false, false, false, false] rfl rfl (any_of HT_.out (by kernel_rfl)) (fun _ _ _ h => h) (Or.inl ⟨by rfl, ?_⟩) ?_ ?_
    rotate_left
    · intro w'
      go_simp
      with_reducible rfl
    rotate_left
    · simp only [Act.put, List.setIfInBounds_toArray, List.set_cons_zero, List.set_cons_succ, i64_w, i32_w]
      rfl
    refine pure_ (i := 14) (N := some 17) (v := ?_) (a' := ?_) #[true, true, true, false, true, true, true, false, true, true, true, false, true, true, true, false, false, false, false, false, false, false, false] rfl rfl (any_of HT_.out (by kernel_rfl)) (fun _ _ _ h => h) (Or.inl ⟨by rfl, ?_⟩) ?_ ?_
    rotate_left
    · intro w'
      go_simp
      with_reducible rfl
    rotate_left
    · simp only [Act.put, List.setIfInBounds_toArray, List.set_cons_zero, List.set_cons_succ, i64_w, i32_w]
      rfl
    refine pure_ (i := 16) (N := some 19) (v := ?_) (a' := ?_) #[true, true, true, false, true, true, true, false, true, true, true, false, true, true, true, false, true, false, false, false, false, false, false] rfl rfl (any_of HT_.out (by kernel_rfl)) (fun _ _ _ h => h) (Or.inl ⟨by rfl, ?_⟩) ?_ ?_
    rotate_left
    · intro w'
      go_simp
      with_reducible rfl
    rotate_left
    · simp only [Act.put, List.setIfInBounds_toArray, List.set_cons_zero, List.set_cons_succ, i64_w, i32_w]
      rfl
    refine pure_ (i := 17) (N := some 20) (v := ?_) (a' := ?_) #[true, true, true, false, true, true, true, false, true, true, true, false, true, true, true, false, true, true, false, false, false, false, false] rfl rfl (any_of HT_.out (by kernel_rfl)) (fun _ _ _ h => h) (Or.inl ⟨by rfl, ?_⟩) ?_ ?_
    rotate_left
    · intro w'
      go_simp
      with_reducible rfl
    rotate_left
    · simp only [Act.put, List.setIfInBounds_toArray, List.set_cons_zero, List.set_cons_succ, i64_w, i32_w]
      rfl
    refine pure_ (i := 18) (N := some 21) (v := ?_) (a' := ?_) #[true, true, true, false, true, true, true, false, true, true, true, false, true, true, true, false, true, true, true, false, false, false, false] rfl rfl (any_of HT_.out (by kernel_rfl)) (fun _ _ _ h => h) (Or.inl ⟨by rfl, ?_⟩) ?_ ?_
    rotate_left
    · intro w'
      go_simp
      with_reducible rfl
    rotate_left
    · simp only [Act.put, List.setIfInBounds_toArray, List.set_cons_zero, List.set_cons_succ, i64_w, i32_w]
      rfl
    refine take_ (i := 3) (N := some 6) (v := ?_) (a' := ?_) #[true, true, true, true, true, true, true, false, true, true, true, false, true, true, true, false, true, true, true, false, false, false, false] rfl rfl (take_ofW HT_.out HW_.out (by kernel_rfl)) (fun _ _ _ h => h) (Or.inl ⟨by rfl, ?_⟩) hHeld ?_ ?_
    rotate_left
    · rintro w' ⟨s0, s1, s2, s3, s4, s5, s6, s7, s8, s9, s10, s11, s12, s13, s14, s15, s16, s17, s18, s19, s20, s21, s22, s23, s24, s25, s26, s27, s28, s29, s30, s31, s32, s33, s34, s35, s36, s37, s38, s39, s40, s41, s42, s43, s44, s45, s46, s47, s48, s49⟩
      go_simp
      with_reducible rfl
    rotate_left
    · simp only [Act.put, List.setIfInBounds_toArray, List.set_cons_zero, List.set_cons_succ, i64_w, i32_w]
      rfl
    refine take_ (i := 7) (N := some 10) (v := ?_) (a' := ?_) #[true, true, true, true, true, true, true, true, true, true, true, false, true, true, true, false, true, true, true, false, false, false, false] rfl rfl (take_ofW HT_.out HW_.out (by kernel_rfl)) (fun _ _ _ h => h) (Or.inl ⟨by rfl, ?_⟩) hHeld ?_ ?_
    rotate_left
    · rintro w' ⟨s0, s1, s2, s3, s4, s5, s6, s7, s8, s9, s10, s11, s12, s13, s14, s15, s16, s17, s18, s19, s20, s21, s22, s23, s24, s25, s26, s27, s28, s29, s30, s31, s32, s33, s34, s35, s36, s37, s38, s39, s40, s41, s42, s43, s44, s45, s46, s47, s48, s49⟩
      go_simp
      with_reducible rfl
    rotate_left
    · simp only [Act.put, List.setIfInBounds_toArray, List.set_cons_zero, List.set_cons_succ, i64_w, i32_w]
      rfl
    refine take_ (i := 11) (N := some 14) (v := ?_) (a' := ?_) #[true, true, true, true, true, true, true, true, true, true, true, true, true, true, true, false, true, true, true, false, false, false, false] rfl rfl (take_ofW HT_.out HW_.out (by kernel_rfl)) (fun _ _ _ h => h) (Or.inl ⟨by rfl, ?_⟩) hHeld ?_ ?_
    rotate_left
    · rintro w' ⟨s0, s1, s2, s3, s4, s5, s6, s7, s8, s9, s10, s11, s12, s13, s14, s15, s16, s17, s18, s19, s20, s21, s22, s23, s24, s25, s26, s27, s28, s29, s30, s31, s32, s33, s34, s35, s36, s37, s38, s39, s40, s41, s42, s43, s44, s45, s46, s47, s48, s49⟩
      go_simp
      with_reducible rfl
    rotate_left
    · simp only [Act.put, List.setIfInBounds_toArray, List.set_cons_zero, List.set_cons_succ, i64_w, i32_w]
      rfl
    refine take_ (i := 15) (N := some 18) (v := ?_) (a' := ?_) #[true, true, true, true, true, true, true, true, true, true, true, true, true, true, true, true, true, true, true, false, false, false, false] rfl rfl (take_ofW HT_.out HW_.out (by kernel_rfl)) (fun _ _ _ h => h) (Or.inl ⟨by rfl, ?_⟩) hHeld ?_ ?_
    rotate_left
    · rintro w' ⟨s0, s1, s2, s3, s4, s5, s6, s7, s8, s9, s10, s11, s12, s13, s14, s15, s16, s17, s18, s19, s20, s21, s22, s23, s24, s25, s26, s27, s28, s29, s30, s31, s32, s33, s34, s35, s36, s37, s38, s39, s40, s41, s42, s43, s44, s45, s46, s47, s48, s49⟩
      go_simp
      with_reducible rfl
    rotate_left
    · simp only [Act.put, List.setIfInBounds_toArray, List.set_cons_zero, List.set_cons_succ, i64_w, i32_w]
      rfl
    refine take_ (i := 19) (N := some 22) (v := ?_) (a' := ?_) #[true, true, true, true, true, true, true, true, true, true, true, true, true, true, true, true, true, true, true, true, false, false, false] rfl rfl (take_ofW HT_.out HW_.out (by kernel_rfl)) (fun _ _ _ h => h) (Or.inl ⟨by rfl, ?_⟩) hHeld ?_ ?_
    rotate_left
    · rintro w' ⟨s0, s1, s2, s3, s4, s5, s6, s7, s8, s9, s10, s11, s12, s13, s14, s15, s16, s17, s18, s19, s20, s21, s22, s23, s24, s25, s26, s27, s28, s29, s30, s31, s32, s33, s34, s35, s36, s37, s38, s39, s40, s41, s42, s43, s44, s45, s46, s47, s48, s49⟩
      go_simp
      with_reducible rfl
    rotate_left
    · simp only [Act.put, List.setIfInBounds_toArray, List.set_cons_zero, List.set_cons_succ, i64_w, i32_w]
      rfl
    refine one_ (i := 20) (N := some 23) #[true, true, true, true, true, true, true, true, true, true, true, true, true, true, true, true, true, true, true, true, true, false, false] rfl rfl (one_of HT_.out (by kernel_rfl)) (by decide) (fun K hK => ?_)
    refine Kd.R_lit_step (Kd.float .f32) _ 22 ?hg (N := 23) ?hd (xs := ([(rd_T27 l0 0).f0, (rd_T27 l0 0).f1, (rd_T27 l0 0).f2, (rd_T27 l0 0).f3, (rd_T27 l0 0).f4] : List Nat)) (inner := [.float .f32 ((rd_T27 l0 0).f0), .float .f32 ((rd_T27 l0 0).f1), .float .f32 ((rd_T27 l0 0).f2), .float .f32 ((rd_T27 l0 0).f3), .float .f32 ((rd_T27 l0 0).f4)]) (ok := fun _ => True) (okp := fun _ => True) ?hr ?hp (fun _ hk => hk) trivial (Below.refl _ _) (Nat.le_refl _) (by simp) ?_; (case hd => rfl); (case hg => rfl); (case hr => first | (go_simp; done) | (go_simp; rfl) | (simp (disch := omega) only [w64_id]; go_simp; done) | (go_simp; simp (disch := omega) only [w64_id]; done)); (case hp => exact (Reps.one (show Kd.M (Kd.float .f32) _ _ _ ((rd_T27 l0 0).f0) [.float .f32 ((rd_T27 l0 0).f0)] from rfl) (Reps.one (show Kd.M (Kd.float .f32) _ _ _ ((rd_T27 l0 0).f1) [.float .f32 ((rd_T27 l0 0).f1)] from rfl) (Reps.one (show Kd.M (Kd.float .f32) _ _ _ ((rd_T27 l0 0).f2) [.float .f32 ((rd_T27 l0 0).f2)] from rfl) (Reps.one (show Kd.M (Kd.float .f32) _ _ _ ((rd_T27 l0 0).f3) [.float .f32 ((rd_T27 l0 0).f3)] from rfl) (Reps.one (show Kd.M (Kd.float .f32) _ _ _ ((rd_T27 l0 0).f4) [.float .f32 ((rd_T27 l0 0).f4)] from rfl) (Reps.none _ _)))))))
    intro v146 w5 ho6 hb hg_ hnew_
    clear hg_ hnew_
    (first | rw [← Ny145.out] at ho6 | (simp only [Int.reduceToNat] at ho6; rw [← Ny145.out] at ho6))
    have n0_ := Aside0.mk (Kd.R_lower ho6 (below_size (by repeat (first | (with_reducible first | exact HB.out | apply below_alloc | apply pw_below_drewN | apply below_drew1) | exact HB.out))))
    have n1_ := Aside0.mk (below_step (by repeat (first | (with_reducible first | exact HB.out | apply below_alloc | apply pw_below_drewN | apply below_drew1) | exact HB.out)) hb)
    clear HB
    have HO147 := n0_
    have HB := n1_
    clear n0_ n1_
    clear hb ho6
    obtain ⟨Ao7, co7, eo7⟩ := Kd.R_slice HO147.out
    (first | subst eo7 | (injection eo7 with f1_ f2_ f3_; have f4_ := f1_.symm; have f5_ := f3_.symm; clear f1_ f2_ f3_; subst f4_; subst f5_))
    refine hK.out _ _ ⟨((HB.out.cell (World.block_lt_of_cell? w _ hw135_0)).trans hw135_0), ((HB.out.cell (World.block_lt_of_cell? w _ hw135_1)).trans hw135_1), ((HB.out.cell (World.block_lt_of_cell? w _ hw135_2)).trans hw135_2), ((HB.out.cell (World.block_lt_of_cell? w _ hw135_3)).trans hw135_3), ((HB.out.cell (World.block_lt_of_cell? w _ hw135_4)).trans hw135_4), ((HB.out.cell (World.block_lt_of_cell? w _ hw136_0)).trans hw136_0), ((HB.out.cell (World.block_lt_of_cell? w _ hw136_1)).trans hw136_1), ((HB.out.cell (World.block_lt_of_cell? w _ hw136_2)).trans hw136_2), ((HB.out.cell (World.block_lt_of_cell? w _ hw136_3)).trans hw136_3), ((HB.out.cell (World.block_lt_of_cell? w _ hw136_4)).trans hw136_4), ((HB.out.cell (World.block_lt_of_cell? w _ hw137_0)).trans hw137_0), ((HB.out.cell (World.block_lt_of_cell? w _ hw137_1)).trans hw137_1), ((HB.out.cell (World.block_lt_of_cell? w _ hw137_2)).trans hw137_2), ((HB.out.cell (World.block_lt_of_cell? w _ hw137_3)).trans hw137_3), ((HB.out.cell (World.block_lt_of_cell? w _ hw137_4)).trans hw137_4), ((HB.out.cell (World.block_lt_of_cell? w _ hw138_0)).trans hw138_0), ((HB.out.cell (World.block_lt_of_cell? w _ hw138_1)).trans hw138_1), ((HB.out.cell (World.block_lt_of_cell? w _ hw138_2)).trans hw138_2), ((HB.out.cell (World.block_lt_of_cell? w _ hw138_3)).trans hw138_3), ((HB.out.cell (World.block_lt_of_cell? w _ hw138_4)).trans hw138_4), ((HB.out.cell (World.block_lt_of_cell? w _ hw139_0)).trans hw139_0), ((HB.out.cell (World.block_lt_of_cell? w _ hw139_1)).trans hw139_1), ((HB.out.cell (World.block_lt_of_cell? w _ hw139_2)).trans hw139_2), ((HB.out.cell (World.block_lt_of_cell? w _ hw139_3)).trans hw139_3), ((HB.out.cell (World.block_lt_of_cell? w _ hw139_4)).trans hw139_4), ((HB.out.cell (World.block_lt_of_cell? w _ hw140_0)).trans hw140_0), ((HB.out.cell (World.block_lt_of_cell? w _ hw140_1)).trans hw140_1), ((HB.out.cell (World.block_lt_of_cell? w _ hw140_2)).trans hw140_2), ((HB.out.cell (World.block_lt_of_cell? w _ hw140_3)).trans hw140_3), ((HB.out.cell (World.block_lt_of_cell? w _ hw140_4)).trans hw140_4), ((HB.out.cell (World.block_lt_of_cell? w _ hw141_0)).trans hw141_0), ((HB.out.cell (World.block_lt_of_cell? w _ hw141_1)).trans hw141_1), ((HB.out.cell (World.block_lt_of_cell? w _ hw141_2)).trans hw141_2), ((HB.out.cell (World.block_lt_of_cell? w _ hw141_3)).trans hw141_3), ((HB.out.cell (World.block_lt_of_cell? w _ hw141_4)).trans hw141_4), ((HB.out.cell (World.block_lt_of_cell? w _ hw142_0)).trans hw142_0), ((HB.out.cell (World.block_lt_of_cell? w _ hw142_1)).trans hw142_1), ((HB.out.cell (World.block_lt_of_cell? w _ hw142_2)).trans hw142_2), ((HB.out.cell (World.block_lt_of_cell? w _ hw142_3)).trans hw142_3), ((HB.out.cell (World.block_lt_of_cell? w _ hw142_4)).trans hw142_4), ((HB.out.cell (World.block_lt_of_cell? w _ hw143_0)).trans hw143_0), ((HB.out.cell (World.block_lt_of_cell? w _ hw143_1)).trans hw143_1), ((HB.out.cell (World.block_lt_of_cell? w _ hw143_2)).trans hw143_2), ((HB.out.cell (World.block_lt_of_cell? w _ hw143_3)).trans hw143_3), ((HB.out.cell (World.block_lt_of_cell? w _ hw143_4)).trans hw143_4), ((HB.out.cell (World.block_lt_of_cell? w _ hw144_0)).trans hw144_0), ((HB.out.cell (World.block_lt_of_cell? w _ hw144_1)).trans hw144_1), ((HB.out.cell (World.block_lt_of_cell? w _ hw144_2)).trans hw144_2), ((HB.out.cell (World.block_lt_of_cell? w _ hw144_3)).trans hw144_3), ((HB.out.cell (World.block_lt_of_cell? w _ hw144_4)).trans hw144_4)⟩ (fun hHeld => ?_)
    clear hK K
    refine norm_ (a' := ?_) ?_ ?_
    rotate_left
    · show Act.put _ (some 23) _ = _
      simp only [Act.put, List.setIfInBounds_toArray, List.set_cons_zero, List.set_cons_succ, i64_w, i32_w]
      rfl
    refine one_ (i := 21) (N := some 24) #[true, true, true, true, true, true, true, true, true, true, true, true, true, true, true, true, true, true, true, true, true, true, false] rfl rfl (one_of HT_.out (by kernel_rfl)) (by decide) (fun K hK => ?_)
    refine goes_ Tryd.func107 (by kernel_rfl) rfl #[.slice Ao7 y145.length co7] (by rfl) rfl rfl (by (try simp only [List.map_toArray, List.map_cons, List.map_nil]); first | done | rfl | (simp only [List.length_drop, List.length_take]; rfl)) ?_
    with_reducible refine (spec_l01NText.calls k _ _ y145 t148 _ ?side1 ?side2 A3.out).mono ?_
    (case side1 => repeat (first | exact (Kd.R_reads' HO147.out).2.2 | (with_reducible refine Kd.C_alloc ?_ _) | (with_reducible refine Kd.C_drewN ?_ _) | (with_reducible refine Kd.C_drew ?_)))
    (case side2 => exact (Kd.R_reads' HO147.out).2.1)
    rintro e w8 ⟨rfl, hb⟩
    refine ⟨_, rfl, ?_⟩
    have n0_ := Aside0.mk (Kd.R_below (by (with_reducible repeat (first | apply Kd.R_alloc | apply Kd.R_drewN | apply Kd.R_drew)); exact HO147.out) hb)
    have n1_ := Aside0.mk (below_step (by repeat (first | (with_reducible first | exact HB.out | apply below_alloc | apply pw_below_drewN | apply below_drew1) | exact HB.out)) hb)
    clear HO147
    clear HB
    have HO147 := n0_
    have HB := n1_
    clear n0_ n1_
    (try clear hb)
    (try clear hb2)
    (try clear hk)
    (try clear hi)
    refine hK.out _ _ ⟨((HB.out.cell (World.block_lt_of_cell? w _ hw135_0)).trans hw135_0), ((HB.out.cell (World.block_lt_of_cell? w _ hw135_1)).trans hw135_1), ((HB.out.cell (World.block_lt_of_cell? w _ hw135_2)).trans hw135_2), ((HB.out.cell (World.block_lt_of_cell? w _ hw135_3)).trans hw135_3), ((HB.out.cell (World.block_lt_of_cell? w _ hw135_4)).trans hw135_4), ((HB.out.cell (World.block_lt_of_cell? w _ hw136_0)).trans hw136_0), ((HB.out.cell (World.block_lt_of_cell? w _ hw136_1)).trans hw136_1), ((HB.out.cell (World.block_lt_of_cell? w _ hw136_2)).trans hw136_2), ((HB.out.cell (World.block_lt_of_cell? w _ hw136_3)).trans hw136_3), ((HB.out.cell (World.block_lt_of_cell? w _ hw136_4)).trans hw136_4), ((HB.out.cell (World.block_lt_of_cell? w _ hw137_0)).trans hw137_0), ((HB.out.cell (World.block_lt_of_cell? w _ hw137_1)).trans hw137_1), ((HB.out.cell (World.block_lt_of_cell? w _ hw137_2)).trans hw137_2), ((HB.out.cell (World.block_lt_of_cell? w _ hw137_3)).trans hw137_3), ((HB.out.cell (World.block_lt_of_cell? w _ hw137_4)).trans hw137_4), ((HB.out.cell (World.block_lt_of_cell? w _ hw138_0)).trans hw138_0), ((HB.out.cell (World.block_lt_of_cell? w _ hw138_1)).trans hw138_1), ((HB.out.cell (World.block_lt_of_cell? w _ hw138_2)).trans hw138_2), ((HB.out.cell (World.block_lt_of_cell? w _ hw138_3)).trans hw138_3), ((HB.out.cell (World.block_lt_of_cell? w _ hw138_4)).trans hw138_4), ((HB.out.cell (World.block_lt_of_cell? w _ hw139_0)).trans hw139_0), ((HB.out.cell (World.block_lt_of_cell? w _ hw139_1)).trans hw139_1), ((HB.out.cell (World.block_lt_of_cell? w _ hw139_2)).trans hw139_2), ((HB.out.cell (World.block_lt_of_cell? w _ hw139_3)).trans hw139_3), ((HB.out.cell (World.block_lt_of_cell? w _ hw139_4)).trans hw139_4), ((HB.out.cell (World.block_lt_of_cell? w _ hw140_0)).trans hw140_0), ((HB.out.cell (World.block_lt_of_cell? w _ hw140_1)).trans hw140_1), ((HB.out.cell (World.block_lt_of_cell? w _ hw140_2)).trans hw140_2), ((HB.out.cell (World.block_lt_of_cell? w _ hw140_3)).trans hw140_3), ((HB.out.cell (World.block_lt_of_cell? w _ hw140_4)).trans hw140_4), ((HB.out.cell (World.block_lt_of_cell? w _ hw141_0)).trans hw141_0), ((HB.out.cell (World.block_lt_of_cell? w _ hw141_1)).trans hw141_1), ((HB.out.cell (World.block_lt_of_cell? w _ hw141_2)).trans hw141_2), ((HB.out.cell (World.block_lt_of_cell? w _ hw141_3)).trans hw141_3), ((HB.out.cell (World.block_lt_of_cell? w _ hw141_4)).trans hw141_4), ((HB.out.cell (World.block_lt_of_cell? w _ hw142_0)).trans hw142_0), ((HB.out.cell (World.block_lt_of_cell? w _ hw142_1)).trans hw142_1), ((HB.out.cell (World.block_lt_of_cell? w _ hw142_2)).trans hw142_2), ((HB.out.cell (World.block_lt_of_cell? w _ hw142_3)).trans hw142_3), ((HB.out.cell (World.block_lt_of_cell? w _ hw142_4)).trans hw142_4), ((HB.out.cell (World.block_lt_of_cell? w _ hw143_0)).trans hw143_0), ((HB.out.cell (World.block_lt_of_cell? w _ hw143_1)).trans hw143_1), ((HB.out.cell (World.block_lt_of_cell? w _ hw143_2)).trans hw143_2), ((HB.out.cell (World.block_lt_of_cell? w _ hw143_3)).trans hw143_3), ((HB.out.cell (World.block_lt_of_cell? w _ hw143_4)).trans hw143_4), ((HB.out.cell (World.block_lt_of_cell? w _ hw144_0)).trans hw144_0), ((HB.out.cell (World.block_lt_of_cell? w _ hw144_1)).trans hw144_1), ((HB.out.cell (World.block_lt_of_cell? w _ hw144_2)).trans hw144_2), ((HB.out.cell (World.block_lt_of_cell? w _ hw144_3)).trans hw144_3), ((HB.out.cell (World.block_lt_of_cell? w _ hw144_4)).trans hw144_4)⟩ (fun hHeld => ?_)
    clear hK K
    refine norm_ (a' := ?_) ?_ ?_
    rotate_left
    · show Act.put _ (some 24) _ = _
      simp only [Act.put, List.setIfInBounds_toArray, List.set_cons_zero, List.set_cons_succ, i64_w, i32_w]
      rfl
    refine pure_ (i := 22) (N := some 2) (v := ?_) (a' := ?_) #[true, true, true, true, true, true, true, true, true, true, true, true, true, true, true, true, true, true, true, true, true, true, true] rfl rfl (any_of HT_.out (by kernel_rfl)) (fun _ _ _ h => h) (Or.inl ⟨by rfl, ?_⟩) ?_ ?_
    rotate_left
    · intro w'
      go_simp
      with_reducible rfl
    rotate_left
    · simp only [Act.put, List.setIfInBounds_toArray, List.set_cons_zero, List.set_cons_succ, i64_w, i32_w]
      rfl
    refine done_ (done_of HT_.out (by kernel_rfl)) ?_
    try go_wp2
    go_ret
    exact ⟨by first | rfl | (simp [errW_none, errW_some] <;> rfl) | (simp [*, errW_none, errW_some] <;> rfl), by repeat (first | (with_reducible first | exact HB.out | apply below_alloc | apply pw_below_drewN | apply below_drew1) | exact HB.out)⟩
  · rw [if_neg c2] at H
    exact absurd H (by simp)
def spec_ThroatText.f (k : Nat) (a0_0 : Nat) (a0_1 : Nat) (a0_2 : Nat) (a0_3 : Nat) (a0_4 : Nat) : Option (ByteArray × Bool) := (spec_l03Throat.f [(⟨a0_0, a0_1, a0_2, a0_3, a0_4⟩ : S27)]).bind fun t150 => (if t150 = true then ((spec_l08Throat.f k [(⟨a0_0, a0_1, a0_2, a0_3, a0_4⟩ : S27)]).bind fun t151 => (some (t151, true))) else (some ((⟨#[]⟩ : ByteArray), false)))
theorem spec_ThroatText.mono : ∀ a0 a1 a2 a3 a4 k, LeO (spec_ThroatText.f k a0 a1 a2 a3 a4) (spec_ThroatText.f (k + 1) a0 a1 a2 a3 a4) := by
  intro a0 a1 a2 a3 a4 k
  unfold spec_ThroatText.f
  repeat' first
      | (with_reducible exact spec_l08Throat.mono _ _)
      | (with_reducible exact LeO.refl _)
      | (with_reducible exact LeO.none _)
      | (with_reducible refine LeO.ite ?_ ?_)
      | (with_reducible refine LeO.bind ?_ (fun _ => ?_))
      | exact spec_l08Throat.mono _ _
      | exact LeO.none _
      | refine LeO.ite ?_ ?_
      | refine LeO.bind ?_ (fun _ => ?_)
set_option maxHeartbeats 8000000 in
set_option maxRecDepth 100000 in
theorem spec_ThroatText.calls (k : Nat) (a0_0 : Nat) (a0_1 : Nat) (a0_2 : Nat) (a0_3 : Nat) (a0_4 : Nat) (r1 : ByteArray) (r2 : Bool) (w : World) (h : spec_ThroatText.f k a0_0 a0_1 a0_2 a0_3 a0_4 = some (r1, r2)) :
    Calls Tryd.prog 14 #[.agg #[.float .f32 a0_0, .float .f32 a0_1, .float .f32 a0_2, .float .f32 a0_3, .float .f32 a0_4]] w fun e w' => e = .returned (.tuple #[.string r1, .bool r2]) ∧ Below w.heap.size w w' := by
  have hu27 := Tryd.underlying27
  have HB := Aside0.mk (Below.refl w.heap.size w)
  have H : ((spec_l03Throat.f [(⟨a0_0, a0_1, a0_2, a0_3, a0_4⟩ : S27)]).bind fun t150 => (if t150 = true then ((spec_l08Throat.f k [(⟨a0_0, a0_1, a0_2, a0_3, a0_4⟩ : S27)]).bind fun t151 => (some (t151, true))) else (some ((⟨#[]⟩ : ByteArray), false)))) = some (r1, r2) := h
  clear h
  replace H := Option.bind_eq_some_iff.mp H
  obtain ⟨t150, A20, H⟩ := H
  replace H : (if t150 = true then ((spec_l08Throat.f k [(⟨a0_0, a0_1, a0_2, a0_3, a0_4⟩ : S27)]).bind fun t151 => (some (t151, true))) else (some ((⟨#[]⟩ : ByteArray), false))) = some (r1, r2) := H
  have A2 := Aside0.mk A20
  clear A20
  by_cases c3 : t150 = true
  · subst c3
    have H1 : ((spec_l08Throat.f k [(⟨a0_0, a0_1, a0_2, a0_3, a0_4⟩ : S27)]).bind fun t151 => (some (t151, true))) = some (r1, r2) := by rw [if_pos rfl] at H; exact H
    clear H
    have H := H1
    clear H1
    replace H := Option.bind_eq_some_iff.mp H
    obtain ⟨t151, A40, H⟩ := H
    replace H : (some (t151, true)) = some (r1, r2) := H
    have A4 := Aside0.mk A40
    clear A40
    simp only [Option.some.injEq, Prod.mk.injEq] at H
    obtain ⟨rfl, rfl⟩ := H
    go_enter Tryd.func14, Tryd.ntmps14
    go_wp2_with (first | ((with_reducible refine gate_dst (N := 1) rfl ?_); refine box_event ?hg (N := 1) ?hd (cs := #[.float .f32 a0_0, .float .f32 a0_1, .float .f32 a0_2, .float .f32 a0_3, .float .f32 a0_4]) (t := 27) ?hr ?_; (case hd => rfl); (case hg => rfl); (case hr => first | (go_simp; done) | (go_simp; rfl) | (simp (disch := omega) only [w64_id]; go_simp; done) | (go_simp; simp (disch := omega) only [w64_id]; done)); intro gb149 hg w5 hbox hb; have n0_ := Aside0.mk (below_step (by repeat (first | (with_reducible first | exact HB.out | apply below_alloc | apply pw_below_drewN | apply below_drew1) | exact HB.out)) hb); have n1_ := Aside0.mk (hbox); have n2_ := Aside0.mk ((by rw [hg]; exact (below_size (by repeat (first | (with_reducible first | exact HB.out | apply below_alloc | apply pw_below_drewN | apply below_drew1) | exact HB.out))) : w.heap.size ≤ gb149)); have n3_ := Aside0.mk ((by rw [hg]; exact (below_size (by repeat (first | (with_reducible first | exact HB.out | apply below_alloc | apply pw_below_drewN | apply below_drew1) | exact HB.out))) : w.heap.size ≤ gb149)); clear HB; have HB := n0_; have BK149 := n1_; have GW149 := n2_; have GE149 := n3_; clear n0_ n1_ n2_ n3_; clear hb hbox hg) | ((with_reducible refine gate_callee (f := 58) rfl ?_); refine goesL_ (some 4) rfl rfl Tryd.func58 (by kernel_rfl) rfl #[.pointer (some ⟨gb149, 0, none⟩)] rfl (by (try simp only [List.map_toArray, List.map_cons, List.map_nil]); first | done | rfl | (simp only [List.length_drop, List.length_take]; rfl)) ?_; (with_reducible refine (spec_l03Throat.calls _ [(⟨a0_0, a0_1, a0_2, a0_3, a0_4⟩ : S27)] true _ ?side1 A2.out).mono ?_); (case side1 => exact Kd.C_one (T := 27) (by (with_reducible repeat (first | refine blk_drewN ?_ _ | refine blk_drew ?_ | refine blk_alloc ?_ _)); exact BK149.out) (k27_mk _ (⟨a0_0, a0_1, a0_2, a0_3, a0_4⟩ : S27) )); rintro e w6 ⟨rfl, hb⟩; refine ⟨_, rfl, ?_⟩; have n0_ := Aside0.mk (blk_below (g := gb149) (o := .cells #[.float .f32 a0_0, .float .f32 a0_1, .float .f32 a0_2, .float .f32 a0_3, .float .f32 a0_4] 27 (0, 0)) (by (with_reducible repeat (first | refine blk_drewN ?_ _ | refine blk_drew ?_ | refine blk_alloc ?_ _)); exact BK149.out) hb); have n1_ := Aside0.mk (below_step (by repeat (first | (with_reducible first | exact HB.out | apply below_alloc | apply pw_below_drewN | apply below_drew1 | refine below_set ?_ GE149.out) | exact HB.out)) hb); clear BK149; clear HB; have BK149 := n0_; have HB := n1_; clear n0_ n1_; (try clear hb); (try clear hb2); (try clear hk); (try clear hi)) | ((with_reducible refine gate_callee (f := 59) rfl ?_); refine goesL_ (some 6) rfl rfl Tryd.func59 (by kernel_rfl) rfl #[.pointer (some ⟨gb149, 0, none⟩)] rfl (by (try simp only [List.map_toArray, List.map_cons, List.map_nil]); first | done | rfl | (simp only [List.length_drop, List.length_take]; rfl)) ?_; (with_reducible refine (spec_l08Throat.calls k _ [(⟨a0_0, a0_1, a0_2, a0_3, a0_4⟩ : S27)] t151 _ ?side1 A4.out).mono ?_); (case side1 => exact Kd.C_one (T := 27) (by (with_reducible repeat (first | refine blk_drewN ?_ _ | refine blk_drew ?_ | refine blk_alloc ?_ _)); exact BK149.out) (k27_mk _ (⟨a0_0, a0_1, a0_2, a0_3, a0_4⟩ : S27) )); rintro e w7 ⟨rfl, hb⟩; refine ⟨_, rfl, ?_⟩; have n0_ := Aside0.mk (blk_below (g := gb149) (o := .cells #[.float .f32 a0_0, .float .f32 a0_1, .float .f32 a0_2, .float .f32 a0_3, .float .f32 a0_4] 27 (0, 0)) (by (with_reducible repeat (first | refine blk_drewN ?_ _ | refine blk_drew ?_ | refine blk_alloc ?_ _)); exact BK149.out) hb); have n1_ := Aside0.mk (below_step (by repeat (first | (with_reducible first | exact HB.out | apply below_alloc | apply pw_below_drewN | apply below_drew1 | refine below_set ?_ GE149.out) | exact HB.out)) hb); clear BK149; clear HB; have BK149 := n0_; have HB := n1_; clear n0_ n1_; (try clear hb); (try clear hb2); (try clear hk); (try clear hi)))
    go_ret2
    exact ⟨by first | rfl | (simp [errW_none, errW_some] <;> rfl) | (simp [*, errW_none, errW_some] <;> rfl), by repeat (first | (with_reducible first | exact HB.out | apply below_alloc | apply pw_below_drewN | apply below_drew1 | refine below_set ?_ GE149.out) | exact HB.out)⟩
  · replace c3 := Bool.eq_false_iff.mpr c3
    subst c3
    have H1 : (some ((⟨#[]⟩ : ByteArray), false)) = some (r1, r2) := by rw [if_neg (show ¬ (false = true) by decide)] at H; exact H
    clear H
    have H := H1
    clear H1
    simp only [Option.some.injEq, Prod.mk.injEq] at H
    obtain ⟨rfl, rfl⟩ := H
    go_enter Tryd.func14, Tryd.ntmps14
    go_wp2_with (first | ((with_reducible refine gate_dst (N := 1) rfl ?_); refine box_event ?hg (N := 1) ?hd (cs := #[.float .f32 a0_0, .float .f32 a0_1, .float .f32 a0_2, .float .f32 a0_3, .float .f32 a0_4]) (t := 27) ?hr ?_; (case hd => rfl); (case hg => rfl); (case hr => first | (go_simp; done) | (go_simp; rfl) | (simp (disch := omega) only [w64_id]; go_simp; done) | (go_simp; simp (disch := omega) only [w64_id]; done)); intro gb149 hg w8 hbox hb; have n0_ := Aside0.mk (below_step (by repeat (first | (with_reducible first | exact HB.out | apply below_alloc | apply pw_below_drewN | apply below_drew1) | exact HB.out)) hb); have n1_ := Aside0.mk (hbox); have n2_ := Aside0.mk ((by rw [hg]; exact (below_size (by repeat (first | (with_reducible first | exact HB.out | apply below_alloc | apply pw_below_drewN | apply below_drew1) | exact HB.out))) : w.heap.size ≤ gb149)); have n3_ := Aside0.mk ((by rw [hg]; exact (below_size (by repeat (first | (with_reducible first | exact HB.out | apply below_alloc | apply pw_below_drewN | apply below_drew1) | exact HB.out))) : w.heap.size ≤ gb149)); clear HB; have HB := n0_; have BK149 := n1_; have GW149 := n2_; have GE149 := n3_; clear n0_ n1_ n2_ n3_; clear hb hbox hg) | ((with_reducible refine gate_callee (f := 58) rfl ?_); refine goesL_ (some 4) rfl rfl Tryd.func58 (by kernel_rfl) rfl #[.pointer (some ⟨gb149, 0, none⟩)] rfl (by (try simp only [List.map_toArray, List.map_cons, List.map_nil]); first | done | rfl | (simp only [List.length_drop, List.length_take]; rfl)) ?_; (with_reducible refine (spec_l03Throat.calls _ [(⟨a0_0, a0_1, a0_2, a0_3, a0_4⟩ : S27)] false _ ?side1 A2.out).mono ?_); (case side1 => exact Kd.C_one (T := 27) (by (with_reducible repeat (first | refine blk_drewN ?_ _ | refine blk_drew ?_ | refine blk_alloc ?_ _)); exact BK149.out) (k27_mk _ (⟨a0_0, a0_1, a0_2, a0_3, a0_4⟩ : S27) )); rintro e w9 ⟨rfl, hb⟩; refine ⟨_, rfl, ?_⟩; have n0_ := Aside0.mk (blk_below (g := gb149) (o := .cells #[.float .f32 a0_0, .float .f32 a0_1, .float .f32 a0_2, .float .f32 a0_3, .float .f32 a0_4] 27 (0, 0)) (by (with_reducible repeat (first | refine blk_drewN ?_ _ | refine blk_drew ?_ | refine blk_alloc ?_ _)); exact BK149.out) hb); have n1_ := Aside0.mk (below_step (by repeat (first | (with_reducible first | exact HB.out | apply below_alloc | apply pw_below_drewN | apply below_drew1 | refine below_set ?_ GE149.out) | exact HB.out)) hb); clear BK149; clear HB; have BK149 := n0_; have HB := n1_; clear n0_ n1_; (try clear hb); (try clear hb2); (try clear hk); (try clear hi)))
    go_ret2
    exact ⟨by first | rfl | (simp [errW_none, errW_some] <;> rfl) | (simp [*, errW_none, errW_some] <;> rfl), by repeat (first | (with_reducible first | exact HB.out | apply below_alloc | apply pw_below_drewN | apply below_drew1 | refine below_set ?_ GE149.out) | exact HB.out)⟩
def laws_toThroat.f (a0_0 : Nat) (a0_1 : Nat) (a0_2 : Nat) (a0_3 : Nat) (a0_4 : Nat) : Option (Nat × Nat × Nat × Nat × Nat) := some (a0_0, a0_1, a0_2, a0_3, a0_4)
set_option maxHeartbeats 8000000 in
set_option maxRecDepth 100000 in
theorem laws_toThroat.calls (a0_0 : Nat) (a0_1 : Nat) (a0_2 : Nat) (a0_3 : Nat) (a0_4 : Nat) (r1 : Nat) (r2 : Nat) (r3 : Nat) (r4 : Nat) (r5 : Nat) (w : World) (h : laws_toThroat.f a0_0 a0_1 a0_2 a0_3 a0_4 = some (r1, r2, r3, r4, r5)) :
    Calls Tryd.prog 15 #[.agg #[.float .f32 a0_0, .float .f32 a0_1, .float .f32 a0_2, .float .f32 a0_3, .float .f32 a0_4]] w fun e w' => e = .returned (.agg #[.float .f32 r1, .float .f32 r2, .float .f32 r3, .float .f32 r4, .float .f32 r5]) ∧ Below w.heap.size w w' := by
  have hu24 := Tryd.underlying24
  have hu27 := Tryd.underlying27
  have hu22 := Tryd.underlying22
  have HB := Aside0.mk (Below.refl w.heap.size w)
  have H : (some (a0_0, a0_1, a0_2, a0_3, a0_4)) = some (r1, r2, r3, r4, r5) := h
  clear h
  simp only [Option.some.injEq, Prod.mk.injEq] at H
  obtain ⟨rfl, rfl, rfl, rfl, rfl⟩ := H
  go_enter Tryd.func15, Tryd.ntmps15
  go_wp2_with (first | ((with_reducible refine gate_dst (N := 1) rfl ?_); refine box_event ?hg (N := 1) ?hd (cs := #[.float .f32 a0_0, .float .f32 a0_1, .float .f32 a0_2, .float .f32 a0_3, .float .f32 a0_4]) (t := 24) ?hr ?_; (case hd => rfl); (case hg => rfl); (case hr => first | (go_simp; done) | (go_simp; rfl) | (simp (disch := omega) only [w64_id]; go_simp; done) | (go_simp; simp (disch := omega) only [w64_id]; done)); intro gb152 hg w2 hbox hb; have n0_ := Aside0.mk (below_step (by repeat (first | (with_reducible first | exact HB.out | apply below_alloc | apply pw_below_drewN | apply below_drew1) | exact HB.out)) hb); have n1_ := Aside0.mk (hbox); have n2_ := Aside0.mk ((by rw [hg]; exact (below_size (by repeat (first | (with_reducible first | exact HB.out | apply below_alloc | apply pw_below_drewN | apply below_drew1) | exact HB.out))) : w.heap.size ≤ gb152)); have n3_ := Aside0.mk ((by rw [hg]; exact (below_size (by repeat (first | (with_reducible first | exact HB.out | apply below_alloc | apply pw_below_drewN | apply below_drew1) | exact HB.out))) : w.heap.size ≤ gb152)); clear HB; have HB := n0_; have BK152 := n1_; have GW152 := n2_; have GE152 := n3_; clear n0_ n1_ n2_ n3_; clear hb hbox hg) | ((with_reducible refine gate_dst (N := 2) rfl ?_); refine box_event ?hg (N := 2) ?hd (cs := #[.float .f32 0, .float .f32 0, .float .f32 0, .float .f32 0, .float .f32 0]) (t := 27) ?hr ?_; (case hd => rfl); (case hg => rfl); (case hr => first | (go_simp; done) | (go_simp; rfl) | (simp (disch := omega) only [w64_id]; go_simp; done) | (go_simp; simp (disch := omega) only [w64_id]; done)); intro gb153 hg w3 hbox hb; have n0_ := Aside0.mk (blk_below (g := gb152) (o := .cells #[.float .f32 a0_0, .float .f32 a0_1, .float .f32 a0_2, .float .f32 a0_3, .float .f32 a0_4] 24 (0, 0)) (by (with_reducible repeat (first | refine blk_drewN ?_ _ | refine blk_drew ?_ | refine blk_alloc ?_ _)); exact BK152.out) hb); have n1_ := Aside0.mk (below_step (by repeat (first | (with_reducible first | exact HB.out | apply below_alloc | apply pw_below_drewN | apply below_drew1 | refine below_set ?_ GE152.out) | exact HB.out)) hb); have n2_ := Aside0.mk (hbox); have n3_ := Aside0.mk ((by rw [hg]; exact (below_size (by repeat (first | (with_reducible first | exact HB.out | apply below_alloc | apply pw_below_drewN | apply below_drew1 | refine below_set ?_ GE152.out) | exact HB.out))) : w.heap.size ≤ gb153)); have n4_ := Aside0.mk ((by rw [hg]; exact (below_size (by repeat (first | (with_reducible first | exact HB.out | apply below_alloc | apply pw_below_drewN | apply below_drew1 | refine below_set ?_ GE152.out) | exact HB.out))) : w.heap.size ≤ gb153)); have n5_ := Aside0.mk ((by rw [hg]; exact Nat.ne_of_lt (blk_lt (g := gb152) (o := .cells #[.float .f32 a0_0, .float .f32 a0_1, .float .f32 a0_2, .float .f32 a0_3, .float .f32 a0_4] 24 (0, 0)) (by (with_reducible repeat (first | refine blk_drewN ?_ _ | refine blk_drew ?_ | refine blk_alloc ?_ _)); exact BK152.out)) : gb152 ≠ gb153)); have n6_ := Aside0.mk ((by rw [hg]; exact Nat.ne_of_gt (blk_lt (g := gb152) (o := .cells #[.float .f32 a0_0, .float .f32 a0_1, .float .f32 a0_2, .float .f32 a0_3, .float .f32 a0_4] 24 (0, 0)) (by (with_reducible repeat (first | refine blk_drewN ?_ _ | refine blk_drew ?_ | refine blk_alloc ?_ _)); exact BK152.out)) : gb153 ≠ gb152)); clear BK152; clear HB; have BK152 := n0_; have HB := n1_; have BK153 := n2_; have GW153 := n3_; have GE153 := n4_; have NB152_153 := n5_; have NB153_152 := n6_; clear n0_ n1_ n2_ n3_ n4_ n5_ n6_; clear hb hbox hg) | ((with_reducible refine gate_dst (N := 3) rfl ?_); refine box_event ?hg (N := 3) ?hd (cs := #[.float .f32 0, .float .f32 0, .float .f32 0, .float .f32 0, .float .f32 0]) (t := 27) ?hr ?_; (case hd => rfl); (case hg => rfl); (case hr => first | (go_simp; done) | (go_simp; rfl) | (simp (disch := omega) only [w64_id]; go_simp; done) | (go_simp; simp (disch := omega) only [w64_id]; done)); intro gb154 hg w4 hbox hb; have n0_ := Aside0.mk (blk_below (g := gb152) (o := .cells #[.float .f32 a0_0, .float .f32 a0_1, .float .f32 a0_2, .float .f32 a0_3, .float .f32 a0_4] 24 (0, 0)) (by (with_reducible repeat (first | refine blk_drewN ?_ _ | refine blk_drew ?_ | refine blk_alloc ?_ _)); exact BK152.out) hb); have n1_ := Aside0.mk (blk_below (g := gb153) (o := .cells #[.float .f32 0, .float .f32 0, .float .f32 0, .float .f32 0, .float .f32 0] 27 (0, 0)) (by (with_reducible repeat (first | refine blk_drewN ?_ _ | refine blk_drew ?_ | refine blk_alloc ?_ _)); exact BK153.out) hb); have n2_ := Aside0.mk (below_step (by repeat (first | (with_reducible first | exact HB.out | apply below_alloc | apply pw_below_drewN | apply below_drew1 | refine below_set ?_ GE152.out | refine below_set ?_ GE153.out) | exact HB.out)) hb); have n3_ := Aside0.mk (hbox); have n4_ := Aside0.mk ((by rw [hg]; exact (below_size (by repeat (first | (with_reducible first | exact HB.out | apply below_alloc | apply pw_below_drewN | apply below_drew1 | refine below_set ?_ GE152.out | refine below_set ?_ GE153.out) | exact HB.out))) : w.heap.size ≤ gb154)); have n5_ := Aside0.mk ((by rw [hg]; exact (below_size (by repeat (first | (with_reducible first | exact HB.out | apply below_alloc | apply pw_below_drewN | apply below_drew1 | refine below_set ?_ GE152.out | refine below_set ?_ GE153.out) | exact HB.out))) : w.heap.size ≤ gb154)); have n6_ := Aside0.mk ((by rw [hg]; exact Nat.ne_of_lt (blk_lt (g := gb152) (o := .cells #[.float .f32 a0_0, .float .f32 a0_1, .float .f32 a0_2, .float .f32 a0_3, .float .f32 a0_4] 24 (0, 0)) (by (with_reducible repeat (first | refine blk_drewN ?_ _ | refine blk_drew ?_ | refine blk_alloc ?_ _)); exact BK152.out)) : gb152 ≠ gb154)); have n7_ := Aside0.mk ((by rw [hg]; exact Nat.ne_of_gt (blk_lt (g := gb152) (o := .cells #[.float .f32 a0_0, .float .f32 a0_1, .float .f32 a0_2, .float .f32 a0_3, .float .f32 a0_4] 24 (0, 0)) (by (with_reducible repeat (first | refine blk_drewN ?_ _ | refine blk_drew ?_ | refine blk_alloc ?_ _)); exact BK152.out)) : gb154 ≠ gb152)); have n8_ := Aside0.mk ((by rw [hg]; exact Nat.ne_of_lt (blk_lt (g := gb153) (o := .cells #[.float .f32 0, .float .f32 0, .float .f32 0, .float .f32 0, .float .f32 0] 27 (0, 0)) (by (with_reducible repeat (first | refine blk_drewN ?_ _ | refine blk_drew ?_ | refine blk_alloc ?_ _)); exact BK153.out)) : gb153 ≠ gb154)); have n9_ := Aside0.mk ((by rw [hg]; exact Nat.ne_of_gt (blk_lt (g := gb153) (o := .cells #[.float .f32 0, .float .f32 0, .float .f32 0, .float .f32 0, .float .f32 0] 27 (0, 0)) (by (with_reducible repeat (first | refine blk_drewN ?_ _ | refine blk_drew ?_ | refine blk_alloc ?_ _)); exact BK153.out)) : gb154 ≠ gb153)); clear BK152; clear BK153; clear HB; have BK152 := n0_; have BK153 := n1_; have HB := n2_; have BK154 := n3_; have GW154 := n4_; have GE154 := n5_; have NB152_154 := n6_; have NB154_152 := n7_; have NB153_154 := n8_; have NB154_153 := n9_; clear n0_ n1_ n2_ n3_ n4_ n5_ n6_ n7_ n8_ n9_; clear hb hbox hg; have hnb5 := NB152_153.out; have hnc5 := NB153_152.out; have hnb6 := NB152_154.out; have hnc6 := NB154_152.out; have hcz7_0 : w4.cell? ⟨gb152, 0, none⟩ = some (.float .f32 a0_0) := (blk_cell BK152.out 0).trans rfl; have hcz7_1 : w4.cell? ⟨gb152, 1, none⟩ = some (.float .f32 a0_1) := (blk_cell BK152.out 1).trans rfl; have hcz7_2 : w4.cell? ⟨gb152, 2, none⟩ = some (.float .f32 a0_2) := (blk_cell BK152.out 2).trans rfl; have hcz7_3 : w4.cell? ⟨gb152, 3, none⟩ = some (.float .f32 a0_3) := (blk_cell BK152.out 3).trans rfl; have hcz7_4 : w4.cell? ⟨gb152, 4, none⟩ = some (.float .f32 a0_4) := (blk_cell BK152.out 4).trans rfl; have hfz7_0 := blk_frozen BK152.out 0; have hfz7_1 := blk_frozen BK152.out 1; have hfz7_2 := blk_frozen BK152.out 2; have hfz7_3 := blk_frozen BK152.out 3; have hfz7_4 := blk_frozen BK152.out 4; have hnb8 := NB154_153.out; have hnc8 := NB153_154.out; have hcz9_0 : w4.cell? ⟨gb154, 0, none⟩ = some (.float .f32 0) := (blk_cell BK154.out 0).trans rfl; have hcz9_1 : w4.cell? ⟨gb154, 1, none⟩ = some (.float .f32 0) := (blk_cell BK154.out 1).trans rfl; have hcz9_2 : w4.cell? ⟨gb154, 2, none⟩ = some (.float .f32 0) := (blk_cell BK154.out 2).trans rfl; have hcz9_3 : w4.cell? ⟨gb154, 3, none⟩ = some (.float .f32 0) := (blk_cell BK154.out 3).trans rfl; have hcz9_4 : w4.cell? ⟨gb154, 4, none⟩ = some (.float .f32 0) := (blk_cell BK154.out 4).trans rfl; have hfz9_0 := blk_frozen BK154.out 0; have hfz9_1 := blk_frozen BK154.out 1; have hfz9_2 := blk_frozen BK154.out 2; have hfz9_3 := blk_frozen BK154.out 3; have hfz9_4 := blk_frozen BK154.out 4; have hcz10_0 : w4.cell? ⟨gb153, 0, none⟩ = some (.float .f32 0) := (blk_cell BK153.out 0).trans rfl; have hcz10_1 : w4.cell? ⟨gb153, 1, none⟩ = some (.float .f32 0) := (blk_cell BK153.out 1).trans rfl; have hcz10_2 : w4.cell? ⟨gb153, 2, none⟩ = some (.float .f32 0) := (blk_cell BK153.out 2).trans rfl; have hcz10_3 : w4.cell? ⟨gb153, 3, none⟩ = some (.float .f32 0) := (blk_cell BK153.out 3).trans rfl; have hcz10_4 : w4.cell? ⟨gb153, 4, none⟩ = some (.float .f32 0) := (blk_cell BK153.out 4).trans rfl; have hfz10_0 := blk_frozen BK153.out 0; have hfz10_1 := blk_frozen BK153.out 1; have hfz10_2 := blk_frozen BK153.out 2; have hfz10_3 := blk_frozen BK153.out 3; have hfz10_4 := blk_frozen BK153.out 4))
  refine bodyPost_ret (results_cell_row rfl _ _ gb153 27 #[.float .f32 a0_0, .float .f32 a0_1, .float .f32 a0_2, .float .f32 a0_3, .float .f32 a0_4] (0, 0) _ rfl (by (with_reducible repeat (first | refine blk_drewN ?_ _ | refine blk_drew ?_ | refine blk_alloc ?_ _)); refine blk_put (cs := #[.float .f32 a0_0, .float .f32 a0_1, .float .f32 a0_2, .float .f32 a0_3, .float .f32 0]) ?_ 4 _ rfl; (with_reducible repeat (first | refine blk_drewN ?_ _ | refine blk_drew ?_ | refine blk_alloc ?_ _)); refine blk_put (cs := #[.float .f32 a0_0, .float .f32 a0_1, .float .f32 a0_2, .float .f32 0, .float .f32 0]) ?_ 3 _ rfl; (with_reducible repeat (first | refine blk_drewN ?_ _ | refine blk_drew ?_ | refine blk_alloc ?_ _)); refine blk_put (cs := #[.float .f32 a0_0, .float .f32 a0_1, .float .f32 0, .float .f32 0, .float .f32 0]) ?_ 2 _ rfl; (with_reducible repeat (first | refine blk_drewN ?_ _ | refine blk_drew ?_ | refine blk_alloc ?_ _)); refine blk_put (cs := #[.float .f32 a0_0, .float .f32 0, .float .f32 0, .float .f32 0, .float .f32 0]) ?_ 1 _ rfl; (with_reducible repeat (first | refine blk_drewN ?_ _ | refine blk_drew ?_ | refine blk_alloc ?_ _)); refine blk_put (cs := #[.float .f32 0, .float .f32 0, .float .f32 0, .float .f32 0, .float .f32 0]) ?_ 0 _ rfl; (with_reducible repeat (first | refine blk_drewN ?_ _ | refine blk_drew ?_ | refine blk_alloc ?_ _)); refine blk_far ?_ NB153_154.out _; (with_reducible repeat (first | refine blk_drewN ?_ _ | refine blk_drew ?_ | refine blk_alloc ?_ _)); refine blk_far ?_ NB153_154.out _; (with_reducible repeat (first | refine blk_drewN ?_ _ | refine blk_drew ?_ | refine blk_alloc ?_ _)); refine blk_far ?_ NB153_154.out _; (with_reducible repeat (first | refine blk_drewN ?_ _ | refine blk_drew ?_ | refine blk_alloc ?_ _)); refine blk_far ?_ NB153_154.out _; (with_reducible repeat (first | refine blk_drewN ?_ _ | refine blk_drew ?_ | refine blk_alloc ?_ _)); refine blk_far ?_ NB153_154.out _; (with_reducible repeat (first | refine blk_drewN ?_ _ | refine blk_drew ?_ | refine blk_alloc ?_ _)); exact BK153.out) Tryd.underlying27 rfl (by kernel_rfl)) rfl ?_
  exact ⟨by first | rfl | (simp [errW_none, errW_some] <;> rfl) | (simp [*, errW_none, errW_some] <;> rfl), by repeat (first | (with_reducible first | exact HB.out | apply below_alloc | apply pw_below_drewN | apply below_drew1 | refine below_set ?_ GE152.out | refine below_set ?_ GE153.out | refine below_set ?_ GE154.out) | exact HB.out)⟩
def impl_isBetween.f (a0 : Nat) (a1 : Nat) (a2 : Nat) : Option (Bool) := if (fge .f32 a0 a1) = true then (some (fle .f32 a0 a2)) else (some false)
set_option maxHeartbeats 8000000 in
set_option maxRecDepth 100000 in
theorem impl_isBetween.calls (a0 : Nat) (a1 : Nat) (a2 : Nat) (r : Bool) (w : World) (h : impl_isBetween.f a0 a1 a2 = some r) :
    Calls Tryd.prog 108 #[.float .f32 a0, .float .f32 a1, .float .f32 a2] w fun e w' => e = .returned (.bool r) ∧ Drawn0 w w' := by
  have H : (if (fge .f32 a0 a1) = true then (some (fle .f32 a0 a2)) else (some false)) = some r := h
  clear h
  by_cases c4 : (fge .f32 a0 a1) = true
  · rw [if_pos c4] at H
    have c4b0 : (fge .f32 a0 a1) = true := c4
    clear c4
    obtain rfl := Option.some.inj H
    go_enter Tryd.func108, Tryd.ntmps108
    go_wp2
    go_ret
    exact ⟨by first | rfl | (simp; done) | (simp [*]; done), by repeat (first | exact Drawn0.refl _ | apply Drawn0.step)⟩
  · rw [if_neg c4] at H
    have c4b0 : (fge .f32 a0 a1) = false := by simpa using c4
    clear c4
    obtain rfl := Option.some.inj H
    go_enter Tryd.func108, Tryd.ntmps108
    go_wp2
    go_ret
    exact ⟨by first | rfl | (simp; done) | (simp [*]; done), by repeat (first | exact Drawn0.refl _ | apply Drawn0.step)⟩
def impl_IsFinite.f (a0 : Nat) : Option Bool := some (finB a0)
theorem impl_IsFinite.calls (a0 : Nat) (r : Bool) (w : World) (h : impl_IsFinite.f a0 = some r) :
    Calls Tryd.prog 109 #[.float .f32 a0] w fun e w' => e = .returned (.bool r) ∧ Drawn0 w w' := by
  obtain rfl := Option.some.inj h
  exact fin_impl a0 w
end Go.Proofs.YtbojmdjghfhmbaaDoor.PFnExactThroatText
