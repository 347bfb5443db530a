/- Printed by a program of this session (the kit's print, with contracts of this session's own): what functions come to, and that their code comes to it. -/
import Derived.Test.YtbojmdjghfhmbaaDoorPFnExactTubeTextx0
import Derived.Test.YtbojmdjghfhmbaaDoorPFnExactTubeTextx1
import Derived.Test.YtbojmdjghfhmbaaDoorPFnExactTubeTextx2
namespace Go.Proofs.YtbojmdjghfhmbaaDoor.PFnExactTubeText
open Go.RowKit Go.Proofs.YtbojmdjghfhmbaaDoorW.PrintWords Go.Proofs.YtbojmdjghfhmbaaDoorW.PrintLast Go.Proofs.YtbojmdjghfhmbaaDoorW.PrintMore
open Go.Proofs.YtbojmdjghfhmbaaDoorW.PrintFl
attribute [local go_sem high] binOp_feq binOp_fne binOp_fls binOp_fle binOp_fgr binOp_fge
attribute [local go_sem] run_fopr run_fconv run_fint run_stf run_stc ext_f32bits ext_f32frombits 
attribute [local go_sem] max2_int min2_int max_two min_two max_three min_three max_four min_four   -- for this text's walks alone
set_option linter.unusedVariables false
set_option linter.unusedSimpArgs false

/-! ### spec_l08Tube: function 71 -/
def spec_l08Tube.f (k : Nat) (l0 : List (S43)) : Option (ByteArray) := if 0 < (l0.length : Int) then ((spec_l01NText.f k ((rd_T43 l0 0).f0)).bind fun t132 => (if t132.size + 1 ≤ 9223372036854775807 then ((spec_l01NText.f k (([(rd_T43 l0 0).f1, (rd_T43 l0 0).f2, (rd_T43 l0 0).f3] : List Nat))).bind fun t142 => (if (t132 ++ (⟨#[59]⟩ : ByteArray)).size + t142.size ≤ 9223372036854775807 then (some ((t132 ++ (⟨#[59]⟩ : ByteArray)) ++ t142)) else (none))) else (none))) else (none)
theorem spec_l08Tube.mono : ∀ a0 k, LeO (spec_l08Tube.f k a0) (spec_l08Tube.f (k + 1) a0) := by
  intro a0 k
  unfold spec_l08Tube.f
  repeat' first
      | (with_reducible exact spec_l01NText.mono _ _)
      | (with_reducible exact LeO.refl _)
      | (with_reducible exact LeO.none _)
      | (with_reducible refine LeO.ite ?_ ?_)
      | (with_reducible refine LeO.bind ?_ (fun _ => ?_))
      | exact spec_l01NText.mono _ _
      | exact LeO.none _
      | refine LeO.ite ?_ ?_
      | refine LeO.bind ?_ (fun _ => ?_)
def spec_l08Tube.T1 : Bool × List (List Nat × List Nat) := (true, [([], []), ([0], [0]), ([1], [1]), ([2], [2]), ([3], [3]), ([4], [4]), ([], []), ([6], [6]), ([7], [7]), ([8], [8]), ([], []), ([10], [10]), ([11], [11]), ([12], [12]), ([], []), ([14], [14]), ([15], [15]), ([16], [16]), ([9, 13, 17], [9, 13, 17]), ([18, 4], [18]), ([5, 19], [5, 19]), ([20, 19, 0, 1, 2, 3, 4, 5, 6, 7, 8, 9, 10, 11, 12, 13, 14, 15, 16, 17, 18, 19, 20], [20])])
def spec_l08Tube.B1 : List Nat := [0, 1, 3, 7, 15, 31, 0, 64, 192, 448, 0, 1024, 3072, 7168, 0, 16384, 49152, 114688, 262080, 524255, 1048575, 2097151]
theorem spec_l08Tube.tab1 : rtab .any (opsOf Tryd.f71 1) = spec_l08Tube.T1 := by kernel_rfl
theorem spec_l08Tube.bits1 : waitsOk spec_l08Tube.T1.2 spec_l08Tube.B1 = true := by kernel_rfl
set_option maxHeartbeats 8000000 in
set_option maxRecDepth 100000 in
theorem spec_l08Tube.calls (k : Nat) (A0 : Option Addr) (l0 : List (S43)) (r : ByteArray) (w : World) (hr0 : Kd.C k43 w A0 l0.length l0) (h : spec_l08Tube.f k l0 = some r) :
    Calls Tryd.prog 71 #[.pointer A0] w fun e w' => e = .returned (.string r) ∧ Below w.heap.size w w' := by
  have hu30 := Tryd.underlying30
  have hu22 := Tryd.underlying22
  have HR0 := Aside0.mk hr0
  clear hr0
  have HB := Aside0.mk (Below.refl w.heap.size w)
  have H : (if 0 < (l0.length : Int) then ((spec_l01NText.f k ((rd_T43 l0 0).f0)).bind fun t132 => (if t132.size + 1 ≤ 9223372036854775807 then ((spec_l01NText.f k (([(rd_T43 l0 0).f1, (rd_T43 l0 0).f2, (rd_T43 l0 0).f3] : List Nat))).bind fun t142 => (if (t132 ++ (⟨#[59]⟩ : ByteArray)).size + t142.size ≤ 9223372036854775807 then (some ((t132 ++ (⟨#[59]⟩ : ByteArray)) ++ t142)) else (none))) else (none))) else (none)) = some r := h
  clear h
  by_cases c2 : 0 < (l0.length : Int)
  · rw [if_pos c2] at H
    have c2b0 : decide (0 < (l0.length : Int)) = true := decide_eq_true c2
    have c2b1 : decide (0 < l0.length) = true := decide_eq_true (by omega)
    clear c2
    replace H := Option.bind_eq_some_iff.mp H
    obtain ⟨t132, A30, H⟩ := H
    replace H : (if t132.size + 1 ≤ 9223372036854775807 then ((spec_l01NText.f k (([(rd_T43 l0 0).f1, (rd_T43 l0 0).f2, (rd_T43 l0 0).f3] : List Nat))).bind fun t142 => (if (t132 ++ (⟨#[59]⟩ : ByteArray)).size + t142.size ≤ 9223372036854775807 then (some ((t132 ++ (⟨#[59]⟩ : ByteArray)) ++ t142)) else (none))) else (none)) = some r := H
    have A3 := Aside0.mk A30
    clear A30
    by_cases c4 : t132.size + 1 ≤ 9223372036854775807
    · rw [if_pos c4] at H
      have c4b0 := eq_true c4
      have c4b1 : decide (t132.size + 1 ≤ 9223372036854775807) = true := decide_eq_true c4
      try have c4b2 : (9223372036854775807 < t132.size + 1) = False := eq_false (Nat.not_lt.2 c4)
      obtain ⟨y139, hy139⟩ : ∃ y_ : List Nat, y_ = (([(rd_T43 l0 0).f1, (rd_T43 l0 0).f2, (rd_T43 l0 0).f3] : List Nat)) := ⟨_, rfl⟩
      replace H : ((spec_l01NText.f k y139).bind fun t142 => (if (t132 ++ (⟨#[59]⟩ : ByteArray)).size + t142.size ≤ 9223372036854775807 then (some ((t132 ++ (⟨#[59]⟩ : ByteArray)) ++ t142)) else (none))) = some r := by first | (rw [hy139]; with_reducible exact H) | (have H2_ := (Option.bind_some _ _).symm.trans H; rw [hy139]; with_reducible exact H2_) | (have H2_ := (Option.bind_some _ _).symm.trans H; with_reducible exact H2_) | with_reducible exact H | (rw [hy139]; exact H) | exact H
      have Ny139 := Aside0.mk hy139
      clear hy139
      replace H := Option.bind_eq_some_iff.mp H
      obtain ⟨t142, A50, H⟩ := H
      replace H : (if (t132 ++ (⟨#[59]⟩ : ByteArray)).size + t142.size ≤ 9223372036854775807 then (some ((t132 ++ (⟨#[59]⟩ : ByteArray)) ++ t142)) else (none)) = some r := H
      have A5 := Aside0.mk A50
      clear A50
      by_cases c6 : (t132 ++ (⟨#[59]⟩ : ByteArray)).size + t142.size ≤ 9223372036854775807
      · rw [if_pos c6] at H
        have c6b0 := eq_true c6
        have c6b1 : decide ((t132 ++ (⟨#[59]⟩ : ByteArray)).size + t142.size ≤ 9223372036854775807) = true := decide_eq_true c6
        try have c6b2 : (9223372036854775807 < (t132 ++ (⟨#[59]⟩ : ByteArray)).size + t142.size) = False := eq_false (Nat.not_lt.2 c6)
        try have c6b3 : (9223372036854775807 < (t132.size + 1) + t142.size) = False := eq_false (Nat.not_lt.2 (by have h_ := c6; (repeat rw [ByteArray.size_append] at h_); exact h_))
        obtain rfl := Option.some.inj H
        go_enter Tryd.func71, Tryd.ntmps71
        try go_wp2
        have n0_ := Aside0.mk (below_drew1 HB.out)
        clear HB
        have HB := n0_
        clear n0_
        have p130 : 0 ≤ (0 : Int) := (by omega)
        have q130 : 0 < (l0.length : Int) := of_decide_eq_true (by first | (with_reducible assumption) | assumption)
        obtain ⟨ad130, A130_0, c130_0, e130, hx130_0, hx130_1, hx130_2, hx130_3, hl130_0, hi130_0⟩ := at_T43 HR0.out 0 p130 q130
        have hw130_3 := hx130_3
        (try rw [show ((0 : Int)).toNat = 0 from rfl] at hw130_3)
        (try rw [show 0 * 4 = 0 from rfl] at hw130_3)
        (try rw [Addr.add_zero'] at hw130_3)
        have hw130_2 := hx130_2
        (try rw [show ((0 : Int)).toNat = 0 from rfl] at hw130_2)
        (try rw [show 0 * 4 = 0 from rfl] at hw130_2)
        (try rw [Addr.add_zero'] at hw130_2)
        have hw130_1 := hx130_1
        (try rw [show ((0 : Int)).toNat = 0 from rfl] at hw130_1)
        (try rw [show 0 * 4 = 0 from rfl] at hw130_1)
        (try rw [Addr.add_zero'] at hw130_1)
        have hw130_0 := hx130_0
        (try rw [show ((0 : Int)).toNat = 0 from rfl] at hw130_0)
        (try rw [show 0 * 4 = 0 from rfl] at hw130_0)
        (try rw [Addr.add_zero'] at hw130_0)
        cases e130
        have qi130 : (0 < l0.length) = True := eq_true (by omega)
        (try rw [show ((0 : Int)).toNat = 0 from rfl] at hx130_0)
        (try rw [show 0 * 4 = 0 from rfl] at hx130_0)
        (try rw [Addr.add_zero'] at hx130_0)
        (try rw [show ((0 : Int)).toNat = 0 from rfl] at hx130_1)
        (try rw [show 0 * 4 = 0 from rfl] at hx130_1)
        (try rw [Addr.add_zero'] at hx130_1)
        (try rw [show ((0 : Int)).toNat = 0 from rfl] at hx130_2)
        (try rw [show 0 * 4 = 0 from rfl] at hx130_2)
        (try rw [Addr.add_zero'] at hx130_2)
        (try rw [show ((0 : Int)).toNat = 0 from rfl] at hx130_3)
        (try rw [show 0 * 4 = 0 from rfl] at hx130_3)
        (try rw [Addr.add_zero'] at hx130_3)
        replace hx130_0 := (HB.out.cell (World.block_lt_of_cell? w _ hx130_0)).trans hx130_0
        replace hx130_1 := (HB.out.cell (World.block_lt_of_cell? w _ hx130_1)).trans hx130_1
        replace hx130_2 := (HB.out.cell (World.block_lt_of_cell? w _ hx130_2)).trans hx130_2
        replace hx130_3 := (HB.out.cell (World.block_lt_of_cell? w _ hx130_3)).trans hx130_3
        have HR130_0 := Aside0.mk hi130_0
        have HC130_0 := Aside0.mk hl130_0
        clear hi130_0 hl130_0
        replace p130 := eq_true p130
        replace q130 := eq_true q130
        have p131 : 0 ≤ (0 : Int) := (by omega)
        have q131 : 0 < (l0.length : Int) := of_decide_eq_true (by first | (with_reducible assumption) | assumption)
        obtain ⟨ad131, A131_0, c131_0, e131, hx131_0, hx131_1, hx131_2, hx131_3, hl131_0, hi131_0⟩ := at_T43 HR0.out 0 p131 q131
        have hw131_3 := hx131_3
        (try rw [show ((0 : Int)).toNat = 0 from rfl] at hw131_3)
        (try rw [show 0 * 4 = 0 from rfl] at hw131_3)
        (try rw [Addr.add_zero'] at hw131_3)
        have hw131_2 := hx131_2
        (try rw [show ((0 : Int)).toNat = 0 from rfl] at hw131_2)
        (try rw [show 0 * 4 = 0 from rfl] at hw131_2)
        (try rw [Addr.add_zero'] at hw131_2)
        have hw131_1 := hx131_1
        (try rw [show ((0 : Int)).toNat = 0 from rfl] at hw131_1)
        (try rw [show 0 * 4 = 0 from rfl] at hw131_1)
        (try rw [Addr.add_zero'] at hw131_1)
        have hw131_0 := hx131_0
        (try rw [show ((0 : Int)).toNat = 0 from rfl] at hw131_0)
        (try rw [show 0 * 4 = 0 from rfl] at hw131_0)
        (try rw [Addr.add_zero'] at hw131_0)
        obtain rfl : ad130 = ad131 := (by injection e131)
        have qi131 : (0 < l0.length) = True := eq_true (by omega)
        (try rw [show ((0 : Int)).toNat = 0 from rfl] at hx131_0)
        (try rw [show 0 * 4 = 0 from rfl] at hx131_0)
        (try rw [Addr.add_zero'] at hx131_0)
        (try rw [show ((0 : Int)).toNat = 0 from rfl] at hx131_1)
        (try rw [show 0 * 4 = 0 from rfl] at hx131_1)
        (try rw [Addr.add_zero'] at hx131_1)
        (try rw [show ((0 : Int)).toNat = 0 from rfl] at hx131_2)
        (try rw [show 0 * 4 = 0 from rfl] at hx131_2)
        (try rw [Addr.add_zero'] at hx131_2)
        (try rw [show ((0 : Int)).toNat = 0 from rfl] at hx131_3)
        (try rw [show 0 * 4 = 0 from rfl] at hx131_3)
        (try rw [Addr.add_zero'] at hx131_3)
        replace hx131_0 := (HB.out.cell (World.block_lt_of_cell? w _ hx131_0)).trans hx131_0
        replace hx131_1 := (HB.out.cell (World.block_lt_of_cell? w _ hx131_1)).trans hx131_1
        replace hx131_2 := (HB.out.cell (World.block_lt_of_cell? w _ hx131_2)).trans hx131_2
        replace hx131_3 := (HB.out.cell (World.block_lt_of_cell? w _ hx131_3)).trans hx131_3
        have HR131_0 := Aside0.mk hi131_0
        have HC131_0 := Aside0.mk hl131_0
        clear hi131_0 hl131_0
        replace p131 := eq_true p131
        replace q131 := eq_true q131
        have ea_ := Option.some.inj (hx130_0.symm.trans hx131_0)
        injection ea_ with ea_ en_ ec_
        subst ea_
        subst ec_
        clear en_
        have p133 : 0 ≤ (0 : Int) := (by omega)
        have q133 : 0 < (l0.length : Int) := of_decide_eq_true (by first | (with_reducible assumption) | assumption)
        obtain ⟨ad133, A133_0, c133_0, e133, hx133_0, hx133_1, hx133_2, hx133_3, hl133_0, hi133_0⟩ := at_T43 HR0.out 0 p133 q133
        have hw133_3 := hx133_3
        (try rw [show ((0 : Int)).toNat = 0 from rfl] at hw133_3)
        (try rw [show 0 * 4 = 0 from rfl] at hw133_3)
        (try rw [Addr.add_zero'] at hw133_3)
        have hw133_2 := hx133_2
        (try rw [show ((0 : Int)).toNat = 0 from rfl] at hw133_2)
        (try rw [show 0 * 4 = 0 from rfl] at hw133_2)
        (try rw [Addr.add_zero'] at hw133_2)
        have hw133_1 := hx133_1
        (try rw [show ((0 : Int)).toNat = 0 from rfl] at hw133_1)
        (try rw [show 0 * 4 = 0 from rfl] at hw133_1)
        (try rw [Addr.add_zero'] at hw133_1)
        have hw133_0 := hx133_0
        (try rw [show ((0 : Int)).toNat = 0 from rfl] at hw133_0)
        (try rw [show 0 * 4 = 0 from rfl] at hw133_0)
        (try rw [Addr.add_zero'] at hw133_0)
        obtain rfl : ad130 = ad133 := (by injection e133)
        have qi133 : (0 < l0.length) = True := eq_true (by omega)
        (try rw [show ((0 : Int)).toNat = 0 from rfl] at hx133_0)
        (try rw [show 0 * 4 = 0 from rfl] at hx133_0)
        (try rw [Addr.add_zero'] at hx133_0)
        (try rw [show ((0 : Int)).toNat = 0 from rfl] at hx133_1)
        (try rw [show 0 * 4 = 0 from rfl] at hx133_1)
        (try rw [Addr.add_zero'] at hx133_1)
        (try rw [show ((0 : Int)).toNat = 0 from rfl] at hx133_2)
        (try rw [show 0 * 4 = 0 from rfl] at hx133_2)
        (try rw [Addr.add_zero'] at hx133_2)
        (try rw [show ((0 : Int)).toNat = 0 from rfl] at hx133_3)
        (try rw [show 0 * 4 = 0 from rfl] at hx133_3)
        (try rw [Addr.add_zero'] at hx133_3)
        replace hx133_0 := (HB.out.cell (World.block_lt_of_cell? w _ hx133_0)).trans hx133_0
        replace hx133_1 := (HB.out.cell (World.block_lt_of_cell? w _ hx133_1)).trans hx133_1
        replace hx133_2 := (HB.out.cell (World.block_lt_of_cell? w _ hx133_2)).trans hx133_2
        replace hx133_3 := (HB.out.cell (World.block_lt_of_cell? w _ hx133_3)).trans hx133_3
        have HR133_0 := Aside0.mk hi133_0
        have HC133_0 := Aside0.mk hl133_0
        clear hi133_0 hl133_0
        replace p133 := eq_true p133
        replace q133 := eq_true q133
        have ea_ := Option.some.inj (hx130_0.symm.trans hx133_0)
        injection ea_ with ea_ en_ ec_
        subst ea_
        subst ec_
        clear en_
        have p134 : 0 ≤ (0 : Int) := (by omega)
        have q134 : 0 < (l0.length : Int) := of_decide_eq_true (by first | (with_reducible assumption) | assumption)
        obtain ⟨ad134, A134_0, c134_0, e134, hx134_0, hx134_1, hx134_2, hx134_3, hl134_0, hi134_0⟩ := at_T43 HR0.out 0 p134 q134
        have hw134_3 := hx134_3
        (try rw [show ((0 : Int)).toNat = 0 from rfl] at hw134_3)
        (try rw [show 0 * 4 = 0 from rfl] at hw134_3)
        (try rw [Addr.add_zero'] at hw134_3)
        have hw134_2 := hx134_2
        (try rw [show ((0 : Int)).toNat = 0 from rfl] at hw134_2)
        (try rw [show 0 * 4 = 0 from rfl] at hw134_2)
        (try rw [Addr.add_zero'] at hw134_2)
        have hw134_1 := hx134_1
        (try rw [show ((0 : Int)).toNat = 0 from rfl] at hw134_1)
        (try rw [show 0 * 4 = 0 from rfl] at hw134_1)
        (try rw [Addr.add_zero'] at hw134_1)
        have hw134_0 := hx134_0
        (try rw [show ((0 : Int)).toNat = 0 from rfl] at hw134_0)
        (try rw [show 0 * 4 = 0 from rfl] at hw134_0)
        (try rw [Addr.add_zero'] at hw134_0)
        obtain rfl : ad130 = ad134 := (by injection e134)
        have qi134 : (0 < l0.length) = True := eq_true (by omega)
        (try rw [show ((0 : Int)).toNat = 0 from rfl] at hx134_0)
        (try rw [show 0 * 4 = 0 from rfl] at hx134_0)
        (try rw [Addr.add_zero'] at hx134_0)
        (try rw [show ((0 : Int)).toNat = 0 from rfl] at hx134_1)
        (try rw [show 0 * 4 = 0 from rfl] at hx134_1)
        (try rw [Addr.add_zero'] at hx134_1)
        (try rw [show ((0 : Int)).toNat = 0 from rfl] at hx134_2)
        (try rw [show 0 * 4 = 0 from rfl] at hx134_2)
        (try rw [Addr.add_zero'] at hx134_2)
        (try rw [show ((0 : Int)).toNat = 0 from rfl] at hx134_3)
        (try rw [show 0 * 4 = 0 from rfl] at hx134_3)
        (try rw [Addr.add_zero'] at hx134_3)
        replace hx134_0 := (HB.out.cell (World.block_lt_of_cell? w _ hx134_0)).trans hx134_0
        replace hx134_1 := (HB.out.cell (World.block_lt_of_cell? w _ hx134_1)).trans hx134_1
        replace hx134_2 := (HB.out.cell (World.block_lt_of_cell? w _ hx134_2)).trans hx134_2
        replace hx134_3 := (HB.out.cell (World.block_lt_of_cell? w _ hx134_3)).trans hx134_3
        have HR134_0 := Aside0.mk hi134_0
        have HC134_0 := Aside0.mk hl134_0
        clear hi134_0 hl134_0
        replace p134 := eq_true p134
        replace q134 := eq_true q134
        have ea_ := Option.some.inj (hx130_0.symm.trans hx134_0)
        injection ea_ with ea_ en_ ec_
        subst ea_
        subst ec_
        clear en_
        have p135 : 0 ≤ (0 : Int) := (by omega)
        have q135 : 0 < (l0.length : Int) := of_decide_eq_true (by first | (with_reducible assumption) | assumption)
        obtain ⟨ad135, A135_0, c135_0, e135, hx135_0, hx135_1, hx135_2, hx135_3, hl135_0, hi135_0⟩ := at_T43 HR0.out 0 p135 q135
        have hw135_3 := hx135_3
        (try rw [show ((0 : Int)).toNat = 0 from rfl] at hw135_3)
        (try rw [show 0 * 4 = 0 from rfl] at hw135_3)
        (try rw [Addr.add_zero'] at hw135_3)
        have hw135_2 := hx135_2
        (try rw [show ((0 : Int)).toNat = 0 from rfl] at hw135_2)
        (try rw [show 0 * 4 = 0 from rfl] at hw135_2)
        (try rw [Addr.add_zero'] at hw135_2)
        have hw135_1 := hx135_1
        (try rw [show ((0 : Int)).toNat = 0 from rfl] at hw135_1)
        (try rw [show 0 * 4 = 0 from rfl] at hw135_1)
        (try rw [Addr.add_zero'] at hw135_1)
        have hw135_0 := hx135_0
        (try rw [show ((0 : Int)).toNat = 0 from rfl] at hw135_0)
        (try rw [show 0 * 4 = 0 from rfl] at hw135_0)
        (try rw [Addr.add_zero'] at hw135_0)
        obtain rfl : ad130 = ad135 := (by injection e135)
        have qi135 : (0 < l0.length) = True := eq_true (by omega)
        (try rw [show ((0 : Int)).toNat = 0 from rfl] at hx135_0)
        (try rw [show 0 * 4 = 0 from rfl] at hx135_0)
        (try rw [Addr.add_zero'] at hx135_0)
        (try rw [show ((0 : Int)).toNat = 0 from rfl] at hx135_1)
        (try rw [show 0 * 4 = 0 from rfl] at hx135_1)
        (try rw [Addr.add_zero'] at hx135_1)
        (try rw [show ((0 : Int)).toNat = 0 from rfl] at hx135_2)
        (try rw [show 0 * 4 = 0 from rfl] at hx135_2)
        (try rw [Addr.add_zero'] at hx135_2)
        (try rw [show ((0 : Int)).toNat = 0 from rfl] at hx135_3)
        (try rw [show 0 * 4 = 0 from rfl] at hx135_3)
        (try rw [Addr.add_zero'] at hx135_3)
        replace hx135_0 := (HB.out.cell (World.block_lt_of_cell? w _ hx135_0)).trans hx135_0
        replace hx135_1 := (HB.out.cell (World.block_lt_of_cell? w _ hx135_1)).trans hx135_1
        replace hx135_2 := (HB.out.cell (World.block_lt_of_cell? w _ hx135_2)).trans hx135_2
        replace hx135_3 := (HB.out.cell (World.block_lt_of_cell? w _ hx135_3)).trans hx135_3
        have HR135_0 := Aside0.mk hi135_0
        have HC135_0 := Aside0.mk hl135_0
        clear hi135_0 hl135_0
        replace p135 := eq_true p135
        replace q135 := eq_true q135
        have ea_ := Option.some.inj (hx130_0.symm.trans hx135_0)
        injection ea_ with ea_ en_ ec_
        subst ea_
        subst ec_
        clear en_
        have p136 : 0 ≤ (0 : Int) := (by omega)
        have q136 : 0 < (l0.length : Int) := of_decide_eq_true (by first | (with_reducible assumption) | assumption)
        obtain ⟨ad136, A136_0, c136_0, e136, hx136_0, hx136_1, hx136_2, hx136_3, hl136_0, hi136_0⟩ := at_T43 HR0.out 0 p136 q136
        have hw136_3 := hx136_3
        (try rw [show ((0 : Int)).toNat = 0 from rfl] at hw136_3)
        (try rw [show 0 * 4 = 0 from rfl] at hw136_3)
        (try rw [Addr.add_zero'] at hw136_3)
        have hw136_2 := hx136_2
        (try rw [show ((0 : Int)).toNat = 0 from rfl] at hw136_2)
        (try rw [show 0 * 4 = 0 from rfl] at hw136_2)
        (try rw [Addr.add_zero'] at hw136_2)
        have hw136_1 := hx136_1
        (try rw [show ((0 : Int)).toNat = 0 from rfl] at hw136_1)
        (try rw [show 0 * 4 = 0 from rfl] at hw136_1)
        (try rw [Addr.add_zero'] at hw136_1)
        have hw136_0 := hx136_0
        (try rw [show ((0 : Int)).toNat = 0 from rfl] at hw136_0)
        (try rw [show 0 * 4 = 0 from rfl] at hw136_0)
        (try rw [Addr.add_zero'] at hw136_0)
        obtain rfl : ad130 = ad136 := (by injection e136)
        have qi136 : (0 < l0.length) = True := eq_true (by omega)
        (try rw [show ((0 : Int)).toNat = 0 from rfl] at hx136_0)
        (try rw [show 0 * 4 = 0 from rfl] at hx136_0)
        (try rw [Addr.add_zero'] at hx136_0)
        (try rw [show ((0 : Int)).toNat = 0 from rfl] at hx136_1)
        (try rw [show 0 * 4 = 0 from rfl] at hx136_1)
        (try rw [Addr.add_zero'] at hx136_1)
        (try rw [show ((0 : Int)).toNat = 0 from rfl] at hx136_2)
        (try rw [show 0 * 4 = 0 from rfl] at hx136_2)
        (try rw [Addr.add_zero'] at hx136_2)
        (try rw [show ((0 : Int)).toNat = 0 from rfl] at hx136_3)
        (try rw [show 0 * 4 = 0 from rfl] at hx136_3)
        (try rw [Addr.add_zero'] at hx136_3)
        replace hx136_0 := (HB.out.cell (World.block_lt_of_cell? w _ hx136_0)).trans hx136_0
        replace hx136_1 := (HB.out.cell (World.block_lt_of_cell? w _ hx136_1)).trans hx136_1
        replace hx136_2 := (HB.out.cell (World.block_lt_of_cell? w _ hx136_2)).trans hx136_2
        replace hx136_3 := (HB.out.cell (World.block_lt_of_cell? w _ hx136_3)).trans hx136_3
        have HR136_0 := Aside0.mk hi136_0
        have HC136_0 := Aside0.mk hl136_0
        clear hi136_0 hl136_0
        replace p136 := eq_true p136
        replace q136 := eq_true q136
        have ea_ := Option.some.inj (hx130_0.symm.trans hx136_0)
        injection ea_ with ea_ en_ ec_
        subst ea_
        subst ec_
        clear en_
        have p137 : 0 ≤ (0 : Int) := (by omega)
        have q137 : 0 < (l0.length : Int) := of_decide_eq_true (by first | (with_reducible assumption) | assumption)
        obtain ⟨ad137, A137_0, c137_0, e137, hx137_0, hx137_1, hx137_2, hx137_3, hl137_0, hi137_0⟩ := at_T43 HR0.out 0 p137 q137
        have hw137_3 := hx137_3
        (try rw [show ((0 : Int)).toNat = 0 from rfl] at hw137_3)
        (try rw [show 0 * 4 = 0 from rfl] at hw137_3)
        (try rw [Addr.add_zero'] at hw137_3)
        have hw137_2 := hx137_2
        (try rw [show ((0 : Int)).toNat = 0 from rfl] at hw137_2)
        (try rw [show 0 * 4 = 0 from rfl] at hw137_2)
        (try rw [Addr.add_zero'] at hw137_2)
        have hw137_1 := hx137_1
        (try rw [show ((0 : Int)).toNat = 0 from rfl] at hw137_1)
        (try rw [show 0 * 4 = 0 from rfl] at hw137_1)
        (try rw [Addr.add_zero'] at hw137_1)
        have hw137_0 := hx137_0
        (try rw [show ((0 : Int)).toNat = 0 from rfl] at hw137_0)
        (try rw [show 0 * 4 = 0 from rfl] at hw137_0)
        (try rw [Addr.add_zero'] at hw137_0)
        obtain rfl : ad130 = ad137 := (by injection e137)
        have qi137 : (0 < l0.length) = True := eq_true (by omega)
        (try rw [show ((0 : Int)).toNat = 0 from rfl] at hx137_0)
        (try rw [show 0 * 4 = 0 from rfl] at hx137_0)
        (try rw [Addr.add_zero'] at hx137_0)
        (try rw [show ((0 : Int)).toNat = 0 from rfl] at hx137_1)
        (try rw [show 0 * 4 = 0 from rfl] at hx137_1)
        (try rw [Addr.add_zero'] at hx137_1)
        (try rw [show ((0 : Int)).toNat = 0 from rfl] at hx137_2)
        (try rw [show 0 * 4 = 0 from rfl] at hx137_2)
        (try rw [Addr.add_zero'] at hx137_2)
        (try rw [show ((0 : Int)).toNat = 0 from rfl] at hx137_3)
        (try rw [show 0 * 4 = 0 from rfl] at hx137_3)
        (try rw [Addr.add_zero'] at hx137_3)
        replace hx137_0 := (HB.out.cell (World.block_lt_of_cell? w _ hx137_0)).trans hx137_0
        replace hx137_1 := (HB.out.cell (World.block_lt_of_cell? w _ hx137_1)).trans hx137_1
        replace hx137_2 := (HB.out.cell (World.block_lt_of_cell? w _ hx137_2)).trans hx137_2
        replace hx137_3 := (HB.out.cell (World.block_lt_of_cell? w _ hx137_3)).trans hx137_3
        have HR137_0 := Aside0.mk hi137_0
        have HC137_0 := Aside0.mk hl137_0
        clear hi137_0 hl137_0
        replace p137 := eq_true p137
        replace q137 := eq_true q137
        have ea_ := Option.some.inj (hx130_0.symm.trans hx137_0)
        injection ea_ with ea_ en_ ec_
        subst ea_
        subst ec_
        clear en_
        have p138 : 0 ≤ (0 : Int) := (by omega)
        have q138 : 0 < (l0.length : Int) := of_decide_eq_true (by first | (with_reducible assumption) | assumption)
        obtain ⟨ad138, A138_0, c138_0, e138, hx138_0, hx138_1, hx138_2, hx138_3, hl138_0, hi138_0⟩ := at_T43 HR0.out 0 p138 q138
        have hw138_3 := hx138_3
        (try rw [show ((0 : Int)).toNat = 0 from rfl] at hw138_3)
        (try rw [show 0 * 4 = 0 from rfl] at hw138_3)
        (try rw [Addr.add_zero'] at hw138_3)
        have hw138_2 := hx138_2
        (try rw [show ((0 : Int)).toNat = 0 from rfl] at hw138_2)
        (try rw [show 0 * 4 = 0 from rfl] at hw138_2)
        (try rw [Addr.add_zero'] at hw138_2)
        have hw138_1 := hx138_1
        (try rw [show ((0 : Int)).toNat = 0 from rfl] at hw138_1)
        (try rw [show 0 * 4 = 0 from rfl] at hw138_1)
        (try rw [Addr.add_zero'] at hw138_1)
        have hw138_0 := hx138_0
        (try rw [show ((0 : Int)).toNat = 0 from rfl] at hw138_0)
        (try rw [show 0 * 4 = 0 from rfl] at hw138_0)
        (try rw [Addr.add_zero'] at hw138_0)
        obtain rfl : ad130 = ad138 := (by injection e138)
        have qi138 : (0 < l0.length) = True := eq_true (by omega)
        (try rw [show ((0 : Int)).toNat = 0 from rfl] at hx138_0)
        (try rw [show 0 * 4 = 0 from rfl] at hx138_0)
        (try rw [Addr.add_zero'] at hx138_0)
        (try rw [show ((0 : Int)).toNat = 0 from rfl] at hx138_1)
        (try rw [show 0 * 4 = 0 from rfl] at hx138_1)
        (try rw [Addr.add_zero'] at hx138_1)
        (try rw [show ((0 : Int)).toNat = 0 from rfl] at hx138_2)
        (try rw [show 0 * 4 = 0 from rfl] at hx138_2)
        (try rw [Addr.add_zero'] at hx138_2)
        (try rw [show ((0 : Int)).toNat = 0 from rfl] at hx138_3)
        (try rw [show 0 * 4 = 0 from rfl] at hx138_3)
        (try rw [Addr.add_zero'] at hx138_3)
        replace hx138_0 := (HB.out.cell (World.block_lt_of_cell? w _ hx138_0)).trans hx138_0
        replace hx138_1 := (HB.out.cell (World.block_lt_of_cell? w _ hx138_1)).trans hx138_1
        replace hx138_2 := (HB.out.cell (World.block_lt_of_cell? w _ hx138_2)).trans hx138_2
        replace hx138_3 := (HB.out.cell (World.block_lt_of_cell? w _ hx138_3)).trans hx138_3
        have HR138_0 := Aside0.mk hi138_0
        have HC138_0 := Aside0.mk hl138_0
        clear hi138_0 hl138_0
        replace p138 := eq_true p138
        replace q138 := eq_true q138
        have ea_ := Option.some.inj (hx130_0.symm.trans hx138_0)
        injection ea_ with ea_ en_ ec_
        subst ea_
        subst ec_
        clear en_
        refine start_ (n := 22) (S := fun w' => True) (ds := []) #[false, false, false, false, false, false, false, false, false, false, false, false, false, false, false, false, false, false, false, false, false, false] (by kernel_rfl) rfl rfl trivial (fun hHeld => ?_); refine with_tabW spec_l08Tube.tab1 spec_l08Tube.bits1 (fun HT_ HW_ => ?_)
        generalize w.drew = w7 at HB HR130_0 HR131_0 HR133_0 HR134_0 HR135_0 HR136_0 HR137_0 HR138_0 hx130_0 hx130_1 hx130_2 hx130_3 hx131_0 hx131_1 hx131_2 hx131_3 hx133_0 hx133_1 hx133_2 hx133_3 hx134_0 hx134_1 hx134_2 hx134_3 hx135_0 hx135_1 hx135_2 hx135_3 hx136_0 hx136_1 hx136_2 hx136_3 hx137_0 hx137_1 hx137_2 hx137_3 hx138_0 hx138_1 hx138_2 hx138_3 hHeld ⊢
        refine pure_ (i := 0) (N := some 3) (v := ?_) (a' := ?_) #[true, false, false, false, false, false, false, false, false, false, false, false, false, false, false, false, false, false, false, false, false, false] rfl rfl (any_of HT_.out (by kernel_rfl)) (fun _ _ _ h => h) (Or.inl ⟨by rfl, ?_⟩) ?_ ?_
        rotate_left
        · intro w'
          go_simp
          with_reducible rfl
        rotate_left
        · simp only [Act.put, List.setIfInBounds_toArray, List.set_cons_zero, List.set_cons_succ, i64_w, i32_w]
          rfl
        refine pure_ (i := 6) (N := some 9) (v := ?_) (a' := ?_) #[true, false, false, false, false, false, true, false, false, false, false, false, false, false, false, false, false, false, false, false, false, false] rfl rfl (any_of HT_.out (by kernel_rfl)) (fun _ _ _ h => h) (Or.inl ⟨by rfl, ?_⟩) ?_ ?_
        rotate_left
        · intro w'
          go_simp
          with_reducible rfl
        rotate_left
        · simp only [Act.put, List.setIfInBounds_toArray, List.set_cons_zero, List.set_cons_succ, i64_w, i32_w]
          rfl
        refine pure_ (i := 10) (N := some 13) (v := ?_) (a' := ?_) #[true, false, false, false, false, false, true, false, false, false, true, false, false, false, false, false, false, false, false, false, false, false] rfl rfl (any_of HT_.out (by kernel_rfl)) (fun _ _ _ h => h) (Or.inl ⟨by rfl, ?_⟩) ?_ ?_
        rotate_left
        · intro w'
          go_simp
          with_reducible rfl
        rotate_left
        · simp only [Act.put, List.setIfInBounds_toArray, List.set_cons_zero, List.set_cons_succ, i64_w, i32_w]
          rfl
        refine pure_ (i := 14) (N := some 17) (v := ?_) (a' := ?_) #[true, false, false, false, false, false, true, false, false, false, true, false, false, false, true, false, false, false, false, false, false, false] rfl rfl (any_of HT_.out (by kernel_rfl)) (fun _ _ _ h => h) (Or.inl ⟨by rfl, ?_⟩) ?_ ?_
        rotate_left
        · intro w'
          go_simp
          with_reducible rfl
        rotate_left
        · simp only [Act.put, List.setIfInBounds_toArray, List.set_cons_zero, List.set_cons_succ, i64_w, i32_w]
          rfl
        refine inv_at [1, 2, 3, 4, 5, 7, 8, 9, 11, 12, 13, 15, 16, 17, 18, 19, 20, 21] (fun a0_ b a w' => ∃ (v140 : Value), a = putSel a0_ b [(1, 4, .pointer (some ad130)), (2, 5, .pointer (some ad130)), (3, 6, .slice A130_0 ((rd_T43 l0 0).f0).length c130_0), (4, 7, .string t132), (5, 8, .string (t132 ++ (⟨#[59]⟩ : ByteArray))), (7, 10, .pointer (some ad130)), (8, 11, .pointer (some ⟨ad130.block, ad130.off + 1, none⟩)), (9, 12, .float .f32 ((rd_T43 l0 0).f1)), (11, 14, .pointer (some ad130)), (12, 15, .pointer (some ⟨ad130.block, ad130.off + 2, none⟩)), (13, 16, .float .f32 ((rd_T43 l0 0).f2)), (15, 18, .pointer (some ad130)), (16, 19, .pointer (some ⟨ad130.block, ad130.off + 3, none⟩)), (17, 20, .float .f32 ((rd_T43 l0 0).f3)), (18, 21, v140), (19, 22, .string t142), (20, 23, .string ((t132 ++ (⟨#[59]⟩ : ByteArray)) ++ t142)), (21, 2, .string ((t132 ++ (⟨#[59]⟩ : ByteArray)) ++ t142))] ∧ (Below w.heap.size w w') ∧ (b 18 = true → Kd.R (Kd.float .f32) 22 w' w.heap.size (fun _ => True) v140 y139)) HT_.out HW_.out (by kernel_rfl) (by kernel_rfl) ?_ ?_ ?_
        · exact ⟨.bool false, by simp only [putSel, Bool.false_eq_true, if_false], HB.out, fun h_ => absurd h_ (by decide)⟩
        · skip
          clear HB
          refine steps_cons ?_ ?_
          · rintro b a w' ⟨v140, ha, Q_HB, Q_HO141⟩ hb_ hon hoff
            refine ⟨_, rfl, fun K hK => ?_⟩
            have e3 : a.tmps[3]? = some (.pointer (some ad130)) := by rw [ha]; exact (putSel_off rfl).trans rfl
            replace ha := Aside0.mk ha
            have HB := Aside0.mk Q_HB
            refine value_ (w1 := w') (v := .pointer (some ad130)) (by rfl) rfl ?_ ?_
            · go_simp
              (try simp only [i64_w])
              try rfl
            refine hK.out _ _ ⟨v140, (by rw [ha.out]; exact putSel_upk 0 hb_ rfl rfl rfl), Q_HB, Q_HO141⟩
          refine steps_cons ?_ ?_
          · rintro b a w' ⟨v140, ha, Q_HB, Q_HO141⟩ hb_ hon hoff
            refine ⟨_, rfl, fun K hK => ?_⟩
            have e4 : a.tmps[4]? = some (.pointer (some ad130)) := by rw [ha]; exact putSel_on (e := (1, 4, .pointer (some ad130))) 0 rfl rfl (hon 1 (by kernel_rfl)) rfl
            replace ha := Aside0.mk ha
            have HB := Aside0.mk Q_HB
            refine value_ (w1 := w') (v := .pointer (some ad130)) (by rfl) rfl ?_ ?_
            · go_simp
              (try simp only [i64_w])
              try rfl
            refine hK.out _ _ ⟨v140, (by rw [ha.out]; exact putSel_upk 1 hb_ rfl rfl rfl), Q_HB, Q_HO141⟩
          refine steps_cons ?_ ?_
          · rintro b a w' ⟨v140, ha, Q_HB, Q_HO141⟩ hb_ hon hoff
            refine ⟨_, rfl, fun K hK => ?_⟩
            have e5 : a.tmps[5]? = some (.pointer (some ad130)) := by rw [ha]; exact putSel_on (e := (2, 5, .pointer (some ad130))) 1 rfl rfl (hon 2 (by kernel_rfl)) rfl
            replace ha := Aside0.mk ha
            have HB := Aside0.mk Q_HB
            have hs0_ : w'.cell? ad130 = some (.slice A130_0 ((rd_T43 l0 0).f0).length c130_0) := ((HB.out.cell (World.block_lt_of_cell? w _ hw130_0)).trans hw130_0)
            have hs1_ : w'.cell? ⟨ad130.block, ad130.off + 1, none⟩ = some (.float .f32 ((rd_T43 l0 0).f1)) := ((HB.out.cell (World.block_lt_of_cell? w _ hw130_1)).trans hw130_1)
            have hs2_ : w'.cell? ⟨ad130.block, ad130.off + 2, none⟩ = some (.float .f32 ((rd_T43 l0 0).f2)) := ((HB.out.cell (World.block_lt_of_cell? w _ hw130_2)).trans hw130_2)
            have hs3_ : w'.cell? ⟨ad130.block, ad130.off + 3, none⟩ = some (.float .f32 ((rd_T43 l0 0).f3)) := ((HB.out.cell (World.block_lt_of_cell? w _ hw130_3)).trans hw130_3)
            have hs4_ : w'.cell? ad130 = some (.slice A130_0 ((rd_T43 l0 0).f0).length c130_0) := ((HB.out.cell (World.block_lt_of_cell? w _ hw131_0)).trans hw131_0)
            have hs5_ : w'.cell? ⟨ad130.block, ad130.off + 1, none⟩ = some (.float .f32 ((rd_T43 l0 0).f1)) := ((HB.out.cell (World.block_lt_of_cell? w _ hw131_1)).trans hw131_1)
            have hs6_ : w'.cell? ⟨ad130.block, ad130.off + 2, none⟩ = some (.float .f32 ((rd_T43 l0 0).f2)) := ((HB.out.cell (World.block_lt_of_cell? w _ hw131_2)).trans hw131_2)
            have hs7_ : w'.cell? ⟨ad130.block, ad130.off + 3, none⟩ = some (.float .f32 ((rd_T43 l0 0).f3)) := ((HB.out.cell (World.block_lt_of_cell? w _ hw131_3)).trans hw131_3)
            refine value_ (w1 := w') (v := .slice A130_0 ((rd_T43 l0 0).f0).length c130_0) (by rfl) rfl ?_ ?_
            · go_simp
              (try simp only [i64_w])
              try rfl
            refine hK.out _ _ ⟨v140, (by rw [ha.out]; exact putSel_upk 2 hb_ rfl rfl rfl), Q_HB, Q_HO141⟩
          refine steps_cons ?_ ?_
          · rintro b a w' ⟨v140, ha, Q_HB, Q_HO141⟩ hb_ hon hoff
            refine ⟨_, rfl, fun K hK => ?_⟩
            have e6 : a.tmps[6]? = some (.slice A130_0 ((rd_T43 l0 0).f0).length c130_0) := by rw [ha]; exact putSel_on (e := (3, 6, .slice A130_0 ((rd_T43 l0 0).f0).length c130_0)) 2 rfl rfl (hon 3 (by kernel_rfl)) rfl
            replace ha := Aside0.mk ha
            have HB := Aside0.mk Q_HB
            refine goes_ Tryd.func107 (by kernel_rfl) rfl #[.slice A130_0 ((rd_T43 l0 0).f0).length c130_0] (by rfl) rfl rfl (by first | (simp only [List.map_toArray, List.map_cons, List.map_nil, Act.eval, Array.getD_eq_getD_getElem?, Option.getD_some, e6]; done) | (simp only [List.map_toArray, List.map_cons, List.map_nil, Act.eval, Array.getD_eq_getD_getElem?, Option.getD_some, e6]; rfl)) ?_
            with_reducible refine (spec_l01NText.calls k _ _ ((rd_T43 l0 0).f0) t132 _ ?side1 ?side2 A3.out).mono ?_
            (case side1 => repeat (first | exact (Kd.C_below HR131_0.out HB.out) | (with_reducible refine Kd.C_alloc ?_ _) | (with_reducible refine Kd.C_drewN ?_ _) | (with_reducible refine Kd.C_drew ?_)))
            (case side2 => exact HC131_0.out)
            rintro e w8 ⟨rfl, hb⟩
            refine ⟨_, rfl, ?_⟩
            have n0_ := Aside0.mk (below_step (by repeat (first | (with_reducible first | exact HB.out | apply below_alloc | apply pw_below_drewN | apply below_drew1) | exact HB.out)) hb)
            have z_HO141 := fun (h0_ : b 18 = true) => (show Kd.R (Kd.float .f32) 22 w8 w.heap.size (fun _ => True) v140 y139 from by first | exact (Kd.R_below (by (with_reducible repeat (first | apply Kd.R_alloc | apply Kd.R_drewN | apply Kd.R_drew)); exact (Q_HO141 h0_)) hb) | exact Kd.R_mono (Kd.R_below (by (with_reducible repeat (first | apply Kd.R_alloc | apply Kd.R_drewN | apply Kd.R_drew)); exact (Q_HO141 h0_)) hb) (fun _ h_ => by first | trivial | exact h_ | exact h_.1))
            clear HB
            have HB := n0_
            clear n0_
            (try clear hb)
            (try clear hb2)
            (try clear hk)
            (try clear hi)
            refine hK.out _ _ ⟨v140, (by rw [ha.out]; exact putSel_upk 3 hb_ rfl rfl rfl), (by repeat (first | (with_reducible first | exact HB.out | apply below_alloc | apply pw_below_drewN | apply below_drew1) | exact HB.out)), z_HO141⟩
          refine steps_cons ?_ ?_
          · rintro b a w' ⟨v140, ha, Q_HB, Q_HO141⟩ hb_ hon hoff
            refine ⟨_, rfl, fun K hK => ?_⟩
            have e7 : a.tmps[7]? = some (.string t132) := by rw [ha]; exact putSel_on (e := (4, 7, .string t132)) 3 rfl rfl (hon 4 (by kernel_rfl)) rfl
            replace ha := Aside0.mk ha
            have HB := Aside0.mk Q_HB
            refine value_ (w1 := w') (v := .string (t132 ++ (⟨#[59]⟩ : ByteArray))) (by rfl) rfl ?_ ?_
            · go_simp
              (try simp only [i64_w])
              try rfl
            refine hK.out _ _ ⟨v140, (by rw [ha.out]; exact putSel_upk 4 hb_ rfl rfl rfl), Q_HB, Q_HO141⟩
          refine steps_cons ?_ ?_
          · rintro b a w' ⟨v140, ha, Q_HB, Q_HO141⟩ hb_ hon hoff
            refine ⟨_, rfl, fun K hK => ?_⟩
            have e9 : a.tmps[9]? = some (.pointer (some ad130)) := by rw [ha]; exact (putSel_off rfl).trans rfl
            replace ha := Aside0.mk ha
            have HB := Aside0.mk Q_HB
            refine value_ (w1 := w') (v := .pointer (some ad130)) (by rfl) rfl ?_ ?_
            · go_simp
              (try simp only [i64_w])
              try rfl
            refine hK.out _ _ ⟨v140, (by rw [ha.out]; exact putSel_upk 5 hb_ rfl rfl rfl), Q_HB, fun h0_ => absurd ((hoff 18 (by kernel_rfl)).symm.trans h0_) (by decide)⟩
          refine steps_cons ?_ ?_
          · rintro b a w' ⟨v140, ha, Q_HB, Q_HO141⟩ hb_ hon hoff
            refine ⟨_, rfl, fun K hK => ?_⟩
            have e10 : a.tmps[10]? = some (.pointer (some ad130)) := by rw [ha]; exact putSel_on (e := (7, 10, .pointer (some ad130))) 5 rfl rfl (hon 7 (by kernel_rfl)) rfl
            replace ha := Aside0.mk ha
            have HB := Aside0.mk Q_HB
            refine value_ (w1 := w') (v := .pointer (some ⟨ad130.block, ad130.off + 1, none⟩)) (by rfl) rfl ?_ ?_
            · go_simp
              (try simp only [i64_w])
              try rfl
            refine hK.out _ _ ⟨v140, (by rw [ha.out]; exact putSel_upk 6 hb_ rfl rfl rfl), Q_HB, fun h0_ => absurd ((hoff 18 (by kernel_rfl)).symm.trans h0_) (by decide)⟩
          refine steps_cons ?_ ?_
          · rintro b a w' ⟨v140, ha, Q_HB, Q_HO141⟩ hb_ hon hoff
            refine ⟨_, rfl, fun K hK => ?_⟩
            have e11 : a.tmps[11]? = some (.pointer (some ⟨ad130.block, ad130.off + 1, none⟩)) := by rw [ha]; exact putSel_on (e := (8, 11, .pointer (some ⟨ad130.block, ad130.off + 1, none⟩))) 6 rfl rfl (hon 8 (by kernel_rfl)) rfl
            replace ha := Aside0.mk ha
            have HB := Aside0.mk Q_HB
            have hs8_ : w'.cell? ad130 = some (.slice A130_0 ((rd_T43 l0 0).f0).length c130_0) := ((HB.out.cell (World.block_lt_of_cell? w _ hw133_0)).trans hw133_0)
            have hs9_ : w'.cell? ⟨ad130.block, ad130.off + 1, none⟩ = some (.float .f32 ((rd_T43 l0 0).f1)) := ((HB.out.cell (World.block_lt_of_cell? w _ hw133_1)).trans hw133_1)
            have hs10_ : w'.cell? ⟨ad130.block, ad130.off + 2, none⟩ = some (.float .f32 ((rd_T43 l0 0).f2)) := ((HB.out.cell (World.block_lt_of_cell? w _ hw133_2)).trans hw133_2)
            have hs11_ : w'.cell? ⟨ad130.block, ad130.off + 3, none⟩ = some (.float .f32 ((rd_T43 l0 0).f3)) := ((HB.out.cell (World.block_lt_of_cell? w _ hw133_3)).trans hw133_3)
            have hs12_ : w'.cell? ad130 = some (.slice A130_0 ((rd_T43 l0 0).f0).length c130_0) := ((HB.out.cell (World.block_lt_of_cell? w _ hw134_0)).trans hw134_0)
            have hs13_ : w'.cell? ⟨ad130.block, ad130.off + 1, none⟩ = some (.float .f32 ((rd_T43 l0 0).f1)) := ((HB.out.cell (World.block_lt_of_cell? w _ hw134_1)).trans hw134_1)
            have hs14_ : w'.cell? ⟨ad130.block, ad130.off + 2, none⟩ = some (.float .f32 ((rd_T43 l0 0).f2)) := ((HB.out.cell (World.block_lt_of_cell? w _ hw134_2)).trans hw134_2)
            have hs15_ : w'.cell? ⟨ad130.block, ad130.off + 3, none⟩ = some (.float .f32 ((rd_T43 l0 0).f3)) := ((HB.out.cell (World.block_lt_of_cell? w _ hw134_3)).trans hw134_3)
            refine value_ (w1 := w') (v := .float .f32 ((rd_T43 l0 0).f1)) (by rfl) rfl ?_ ?_
            · go_simp
              (try simp only [i64_w])
              try rfl
            refine hK.out _ _ ⟨v140, (by rw [ha.out]; exact putSel_upk 7 hb_ rfl rfl rfl), Q_HB, fun h0_ => absurd ((hoff 18 (by kernel_rfl)).symm.trans h0_) (by decide)⟩
          refine steps_cons ?_ ?_
          · rintro b a w' ⟨v140, ha, Q_HB, Q_HO141⟩ hb_ hon hoff
            refine ⟨_, rfl, fun K hK => ?_⟩
            have e13 : a.tmps[13]? = some (.pointer (some ad130)) := by rw [ha]; exact (putSel_off rfl).trans rfl
            replace ha := Aside0.mk ha
            have HB := Aside0.mk Q_HB
            refine value_ (w1 := w') (v := .pointer (some ad130)) (by rfl) rfl ?_ ?_
            · go_simp
              (try simp only [i64_w])
              try rfl
            refine hK.out _ _ ⟨v140, (by rw [ha.out]; exact putSel_upk 8 hb_ rfl rfl rfl), Q_HB, fun h0_ => absurd ((hoff 18 (by kernel_rfl)).symm.trans h0_) (by decide)⟩
          refine steps_cons ?_ ?_
          · rintro b a w' ⟨v140, ha, Q_HB, Q_HO141⟩ hb_ hon hoff
            refine ⟨_, rfl, fun K hK => ?_⟩
            have e14 : a.tmps[14]? = some (.pointer (some ad130)) := by rw [ha]; exact putSel_on (e := (11, 14, .pointer (some ad130))) 8 rfl rfl (hon 11 (by kernel_rfl)) rfl
            replace ha := Aside0.mk ha
            have HB := Aside0.mk Q_HB
            refine value_ (w1 := w') (v := .pointer (some ⟨ad130.block, ad130.off + 2, none⟩)) (by rfl) rfl ?_ ?_
            · go_simp
              (try simp only [i64_w])
              try rfl
            refine hK.out _ _ ⟨v140, (by rw [ha.out]; exact putSel_upk 9 hb_ rfl rfl rfl), Q_HB, fun h0_ => absurd ((hoff 18 (by kernel_rfl)).symm.trans h0_) (by decide)⟩
          refine steps_cons ?_ ?_
          · rintro b a w' ⟨v140, ha, Q_HB, Q_HO141⟩ hb_ hon hoff
            refine ⟨_, rfl, fun K hK => ?_⟩
            have e15 : a.tmps[15]? = some (.pointer (some ⟨ad130.block, ad130.off + 2, none⟩)) := by rw [ha]; exact putSel_on (e := (12, 15, .pointer (some ⟨ad130.block, ad130.off + 2, none⟩))) 9 rfl rfl (hon 12 (by kernel_rfl)) rfl
            replace ha := Aside0.mk ha
            have HB := Aside0.mk Q_HB
            have hs16_ : w'.cell? ad130 = some (.slice A130_0 ((rd_T43 l0 0).f0).length c130_0) := ((HB.out.cell (World.block_lt_of_cell? w _ hw135_0)).trans hw135_0)
            have hs17_ : w'.cell? ⟨ad130.block, ad130.off + 1, none⟩ = some (.float .f32 ((rd_T43 l0 0).f1)) := ((HB.out.cell (World.block_lt_of_cell? w _ hw135_1)).trans hw135_1)
            have hs18_ : w'.cell? ⟨ad130.block, ad130.off + 2, none⟩ = some (.float .f32 ((rd_T43 l0 0).f2)) := ((HB.out.cell (World.block_lt_of_cell? w _ hw135_2)).trans hw135_2)
            have hs19_ : w'.cell? ⟨ad130.block, ad130.off + 3, none⟩ = some (.float .f32 ((rd_T43 l0 0).f3)) := ((HB.out.cell (World.block_lt_of_cell? w _ hw135_3)).trans hw135_3)
            have hs20_ : w'.cell? ad130 = some (.slice A130_0 ((rd_T43 l0 0).f0).length c130_0) := ((HB.out.cell (World.block_lt_of_cell? w _ hw136_0)).trans hw136_0)
            have hs21_ : w'.cell? ⟨ad130.block, ad130.off + 1, none⟩ = some (.float .f32 ((rd_T43 l0 0).f1)) := ((HB.out.cell (World.block_lt_of_cell? w _ hw136_1)).trans hw136_1)
            have hs22_ : w'.cell? ⟨ad130.block, ad130.off + 2, none⟩ = some (.float .f32 ((rd_T43 l0 0).f2)) := ((HB.out.cell (World.block_lt_of_cell? w _ hw136_2)).trans hw136_2)
            have hs23_ : w'.cell? ⟨ad130.block, ad130.off + 3, none⟩ = some (.float .f32 ((rd_T43 l0 0).f3)) := ((HB.out.cell (World.block_lt_of_cell? w _ hw136_3)).trans hw136_3)
            refine value_ (w1 := w') (v := .float .f32 ((rd_T43 l0 0).f2)) (by rfl) rfl ?_ ?_
            · go_simp
              (try simp only [i64_w])
              try rfl
            refine hK.out _ _ ⟨v140, (by rw [ha.out]; exact putSel_upk 10 hb_ rfl rfl rfl), Q_HB, fun h0_ => absurd ((hoff 18 (by kernel_rfl)).symm.trans h0_) (by decide)⟩
          refine steps_cons ?_ ?_
          · rintro b a w' ⟨v140, ha, Q_HB, Q_HO141⟩ hb_ hon hoff
            refine ⟨_, rfl, fun K hK => ?_⟩
            have e17 : a.tmps[17]? = some (.pointer (some ad130)) := by rw [ha]; exact (putSel_off rfl).trans rfl
            replace ha := Aside0.mk ha
            have HB := Aside0.mk Q_HB
            refine value_ (w1 := w') (v := .pointer (some ad130)) (by rfl) rfl ?_ ?_
            · go_simp
              (try simp only [i64_w])
              try rfl
            refine hK.out _ _ ⟨v140, (by rw [ha.out]; exact putSel_upk 11 hb_ rfl rfl rfl), Q_HB, fun h0_ => absurd ((hoff 18 (by kernel_rfl)).symm.trans h0_) (by decide)⟩
          refine steps_cons ?_ ?_
          · rintro b a w' ⟨v140, ha, Q_HB, Q_HO141⟩ hb_ hon hoff
            refine ⟨_, rfl, fun K hK => ?_⟩
            have e18 : a.tmps[18]? = some (.pointer (some ad130)) := by rw [ha]; exact putSel_on (e := (15, 18, .pointer (some ad130))) 11 rfl rfl (hon 15 (by kernel_rfl)) rfl
            replace ha := Aside0.mk ha
            have HB := Aside0.mk Q_HB
            refine value_ (w1 := w') (v := .pointer (some ⟨ad130.block, ad130.off + 3, none⟩)) (by rfl) rfl ?_ ?_
            · go_simp
              (try simp only [i64_w])
              try rfl
            refine hK.out _ _ ⟨v140, (by rw [ha.out]; exact putSel_upk 12 hb_ rfl rfl rfl), Q_HB, fun h0_ => absurd ((hoff 18 (by kernel_rfl)).symm.trans h0_) (by decide)⟩
          refine steps_cons ?_ ?_
          · rintro b a w' ⟨v140, ha, Q_HB, Q_HO141⟩ hb_ hon hoff
            refine ⟨_, rfl, fun K hK => ?_⟩
            have e19 : a.tmps[19]? = some (.pointer (some ⟨ad130.block, ad130.off + 3, none⟩)) := by rw [ha]; exact putSel_on (e := (16, 19, .pointer (some ⟨ad130.block, ad130.off + 3, none⟩))) 12 rfl rfl (hon 16 (by kernel_rfl)) rfl
            replace ha := Aside0.mk ha
            have HB := Aside0.mk Q_HB
            have hs24_ : w'.cell? ad130 = some (.slice A130_0 ((rd_T43 l0 0).f0).length c130_0) := ((HB.out.cell (World.block_lt_of_cell? w _ hw137_0)).trans hw137_0)
            have hs25_ : w'.cell? ⟨ad130.block, ad130.off + 1, none⟩ = some (.float .f32 ((rd_T43 l0 0).f1)) := ((HB.out.cell (World.block_lt_of_cell? w _ hw137_1)).trans hw137_1)
            have hs26_ : w'.cell? ⟨ad130.block, ad130.off + 2, none⟩ = some (.float .f32 ((rd_T43 l0 0).f2)) := ((HB.out.cell (World.block_lt_of_cell? w _ hw137_2)).trans hw137_2)
            have hs27_ : w'.cell? ⟨ad130.block, ad130.off + 3, none⟩ = some (.float .f32 ((rd_T43 l0 0).f3)) := ((HB.out.cell (World.block_lt_of_cell? w _ hw137_3)).trans hw137_3)
            have hs28_ : w'.cell? ad130 = some (.slice A130_0 ((rd_T43 l0 0).f0).length c130_0) := ((HB.out.cell (World.block_lt_of_cell? w _ hw138_0)).trans hw138_0)
            have hs29_ : w'.cell? ⟨ad130.block, ad130.off + 1, none⟩ = some (.float .f32 ((rd_T43 l0 0).f1)) := ((HB.out.cell (World.block_lt_of_cell? w _ hw138_1)).trans hw138_1)
            have hs30_ : w'.cell? ⟨ad130.block, ad130.off + 2, none⟩ = some (.float .f32 ((rd_T43 l0 0).f2)) := ((HB.out.cell (World.block_lt_of_cell? w _ hw138_2)).trans hw138_2)
            have hs31_ : w'.cell? ⟨ad130.block, ad130.off + 3, none⟩ = some (.float .f32 ((rd_T43 l0 0).f3)) := ((HB.out.cell (World.block_lt_of_cell? w _ hw138_3)).trans hw138_3)
            refine value_ (w1 := w') (v := .float .f32 ((rd_T43 l0 0).f3)) (by rfl) rfl ?_ ?_
            · go_simp
              (try simp only [i64_w])
              try rfl
            refine hK.out _ _ ⟨v140, (by rw [ha.out]; exact putSel_upk 13 hb_ rfl rfl rfl), Q_HB, fun h0_ => absurd ((hoff 18 (by kernel_rfl)).symm.trans h0_) (by decide)⟩
          refine steps_cons ?_ ?_
          · rintro b a w' ⟨v140, ha, Q_HB, Q_HO141⟩ hb_ hon hoff
            refine ⟨_, rfl, fun K hK => ?_⟩
            have e12 : a.tmps[12]? = some (.float .f32 ((rd_T43 l0 0).f1)) := by rw [ha]; exact putSel_on (e := (9, 12, .float .f32 ((rd_T43 l0 0).f1))) 7 rfl rfl (hon 9 (by kernel_rfl)) rfl
            have e16 : a.tmps[16]? = some (.float .f32 ((rd_T43 l0 0).f2)) := by rw [ha]; exact putSel_on (e := (13, 16, .float .f32 ((rd_T43 l0 0).f2))) 10 rfl rfl (hon 13 (by kernel_rfl)) rfl
            have e20 : a.tmps[20]? = some (.float .f32 ((rd_T43 l0 0).f3)) := by rw [ha]; exact putSel_on (e := (17, 20, .float .f32 ((rd_T43 l0 0).f3))) 13 rfl rfl (hon 17 (by kernel_rfl)) rfl
            replace ha := Aside0.mk ha
            have HB := Aside0.mk Q_HB
            refine Kd.R_lit_step (Kd.float .f32) _ 22 ?hg (N := 21) ?hd (xs := ([(rd_T43 l0 0).f1, (rd_T43 l0 0).f2, (rd_T43 l0 0).f3] : List Nat)) (inner := [.float .f32 ((rd_T43 l0 0).f1), .float .f32 ((rd_T43 l0 0).f2), .float .f32 ((rd_T43 l0 0).f3)]) (ok := fun _ => True) (okp := fun _ => True) ?hr ?hp (fun _ hk => hk) trivial (Below.refl _ _) (Nat.le_refl _) (by simp) ?_; (case hd => rfl); (case hg => rfl); (case hr => first | (go_simp; done) | (go_simp; rfl) | (simp (disch := omega) only [w64_id]; go_simp; done) | (go_simp; simp (disch := omega) only [w64_id]; done)); (case hp => exact (Reps.one (show Kd.M (Kd.float .f32) _ _ _ ((rd_T43 l0 0).f1) [.float .f32 ((rd_T43 l0 0).f1)] from rfl) (Reps.one (show Kd.M (Kd.float .f32) _ _ _ ((rd_T43 l0 0).f2) [.float .f32 ((rd_T43 l0 0).f2)] from rfl) (Reps.one (show Kd.M (Kd.float .f32) _ _ _ ((rd_T43 l0 0).f3) [.float .f32 ((rd_T43 l0 0).f3)] from rfl) (Reps.none _ _)))))
            intro v140 w8 ho9 hb hg_ hnew_
            clear hg_ hnew_
            (first | rw [← Ny139.out] at ho9 | (simp only [Int.reduceToNat] at ho9; rw [← Ny139.out] at ho9))
            have n0_ := Aside0.mk (Kd.R_lower ho9 (below_size (by repeat (first | (with_reducible first | exact HB.out | apply below_alloc | apply pw_below_drewN | apply below_drew1) | exact HB.out))))
            have n1_ := Aside0.mk (below_step (by repeat (first | (with_reducible first | exact HB.out | apply below_alloc | apply pw_below_drewN | apply below_drew1) | exact HB.out)) hb)
            clear HB
            have HO141 := n0_
            have HB := n1_
            clear n0_ n1_
            clear hb ho9
            refine hK.out _ _ ⟨v140, (by rw [ha.out]; exact putSel_upk 14 hb_ rfl rfl rfl), (by repeat (first | (with_reducible first | exact HB.out | apply below_alloc | apply pw_below_drewN | apply below_drew1) | exact HB.out)), fun _ => (by (with_reducible repeat (first | apply Kd.R_alloc | apply Kd.R_drewN | apply Kd.R_drew)); exact HO141.out)⟩
          refine steps_cons ?_ ?_
          · rintro b a w' ⟨v140, ha, Q_HB, Q_HO141⟩ hb_ hon hoff
            refine ⟨_, rfl, fun K hK => ?_⟩
            have e21 : a.tmps[21]? = some (v140) := by rw [ha]; exact putSel_on (e := (18, 21, v140)) 14 rfl rfl (hon 18 (by kernel_rfl)) rfl
            replace ha := Aside0.mk ha
            have HB := Aside0.mk Q_HB
            have HO141 := Aside0.mk (Q_HO141 (hon 18 (by kernel_rfl)))
            obtain ⟨Ao12, co12, eo12⟩ := Kd.R_slice HO141.out
            (first | subst eo12 | (injection eo12 with f1_ f2_ f3_; have f4_ := f1_.symm; have f5_ := f3_.symm; clear f1_ f2_ f3_; subst f4_; subst f5_))
            refine goes_ Tryd.func107 (by kernel_rfl) rfl #[.slice Ao12 y139.length co12] (by rfl) rfl rfl (by first | (simp only [List.map_toArray, List.map_cons, List.map_nil, Act.eval, Array.getD_eq_getD_getElem?, Option.getD_some, e21]; done) | (simp only [List.map_toArray, List.map_cons, List.map_nil, Act.eval, Array.getD_eq_getD_getElem?, Option.getD_some, e21]; rfl)) ?_
            with_reducible refine (spec_l01NText.calls k _ _ y139 t142 _ ?side1 ?side2 A5.out).mono ?_
            (case side1 => repeat (first | exact (Kd.R_reads' HO141.out).2.2 | (with_reducible refine Kd.C_alloc ?_ _) | (with_reducible refine Kd.C_drewN ?_ _) | (with_reducible refine Kd.C_drew ?_)))
            (case side2 => exact (Kd.R_reads' HO141.out).2.1)
            rintro e w13 ⟨rfl, hb⟩
            refine ⟨_, rfl, ?_⟩
            have n0_ := Aside0.mk (Kd.R_below (by (with_reducible repeat (first | apply Kd.R_alloc | apply Kd.R_drewN | apply Kd.R_drew)); exact HO141.out) hb)
            have n1_ := Aside0.mk (below_step (by repeat (first | (with_reducible first | exact HB.out | apply below_alloc | apply pw_below_drewN | apply below_drew1) | exact HB.out)) hb)
            clear HO141
            clear HB
            have HO141 := n0_
            have HB := n1_
            clear n0_ n1_
            (try clear hb)
            (try clear hb2)
            (try clear hk)
            (try clear hi)
            refine hK.out _ _ ⟨.slice Ao12 y139.length co12, (by rw [ha.out]; exact putSel_upk 15 hb_ rfl rfl rfl), (by repeat (first | (with_reducible first | exact HB.out | apply below_alloc | apply pw_below_drewN | apply below_drew1) | exact HB.out)), fun _ => (by (with_reducible repeat (first | apply Kd.R_alloc | apply Kd.R_drewN | apply Kd.R_drew)); exact HO141.out)⟩
          refine steps_cons ?_ ?_
          · rintro b a w' ⟨v140, ha, Q_HB, Q_HO141⟩ hb_ hon hoff
            refine ⟨_, rfl, fun K hK => ?_⟩
            have e8 : a.tmps[8]? = some (.string (t132 ++ (⟨#[59]⟩ : ByteArray))) := by rw [ha]; exact putSel_on (e := (5, 8, .string (t132 ++ (⟨#[59]⟩ : ByteArray)))) 4 rfl rfl (hon 5 (by kernel_rfl)) rfl
            have e22 : a.tmps[22]? = some (.string t142) := by rw [ha]; exact putSel_on (e := (19, 22, .string t142)) 15 rfl rfl (hon 19 (by kernel_rfl)) rfl
            replace ha := Aside0.mk ha
            have HB := Aside0.mk Q_HB
            have HO141 := Aside0.mk (Q_HO141 (hon 18 (by kernel_rfl)))
            refine value_ (w1 := w') (v := .string ((t132 ++ (⟨#[59]⟩ : ByteArray)) ++ t142)) (by rfl) rfl ?_ ?_
            · go_simp
              (try simp only [i64_w])
              try rfl
            refine hK.out _ _ ⟨v140, (by rw [ha.out]; exact putSel_upk 16 hb_ rfl rfl rfl), Q_HB, Q_HO141⟩
          refine steps_cons ?_ ?_
          · rintro b a w' ⟨v140, ha, Q_HB, Q_HO141⟩ hb_ hon hoff
            refine ⟨_, rfl, fun K hK => ?_⟩
            have e23 : a.tmps[23]? = some (.string ((t132 ++ (⟨#[59]⟩ : ByteArray)) ++ t142)) := by rw [ha]; exact putSel_on (e := (20, 23, .string ((t132 ++ (⟨#[59]⟩ : ByteArray)) ++ t142))) 16 rfl rfl (hon 20 (by kernel_rfl)) rfl
            replace ha := Aside0.mk ha
            have HB := Aside0.mk Q_HB
            have HO141 := Aside0.mk (Q_HO141 (hon 18 (by kernel_rfl)))
            refine value_ (w1 := w') (v := .string ((t132 ++ (⟨#[59]⟩ : ByteArray)) ++ t142)) (by rfl) rfl ?_ ?_
            · go_simp
              (try simp only [i64_w])
              try rfl
            refine hK.out _ _ ⟨v140, (by rw [ha.out]; exact putSel_upk 17 hb_ rfl rfl rfl), Q_HB, Q_HO141⟩
          exact steps_nil
        rintro b a w13 hall ⟨v140, ha, Q_HB, Q_HO141⟩
        clear HB
        have hb1_ := hall 1 (by kernel_rfl)
        have hb2_ := hall 2 (by kernel_rfl)
        have hb3_ := hall 3 (by kernel_rfl)
        have hb4_ := hall 4 (by kernel_rfl)
        have hb5_ := hall 5 (by kernel_rfl)
        have hb7_ := hall 7 (by kernel_rfl)
        have hb8_ := hall 8 (by kernel_rfl)
        have hb9_ := hall 9 (by kernel_rfl)
        have hb11_ := hall 11 (by kernel_rfl)
        have hb12_ := hall 12 (by kernel_rfl)
        have hb13_ := hall 13 (by kernel_rfl)
        have hb15_ := hall 15 (by kernel_rfl)
        have hb16_ := hall 16 (by kernel_rfl)
        have hb17_ := hall 17 (by kernel_rfl)
        have hb18_ := hall 18 (by kernel_rfl)
        have hb19_ := hall 19 (by kernel_rfl)
        have hb20_ := hall 20 (by kernel_rfl)
        have hb21_ := hall 21 (by kernel_rfl)
        subst ha
        simp only [putSel, hb1_, hb2_, hb3_, hb4_, hb5_, hb7_, hb8_, hb9_, hb11_, hb12_, hb13_, hb15_, hb16_, hb17_, hb18_, hb19_, hb20_, hb21_, if_true, Act.put, List.setIfInBounds_toArray, List.set_cons_zero, List.set_cons_succ]
        have HB := Aside0.mk Q_HB
        clear Q_HB
        have HO141 := Aside0.mk (Q_HO141 hb18_)
        clear Q_HO141
        clear hall hb1_ hb2_ hb3_ hb4_ hb5_ hb7_ hb8_ hb9_ hb11_ hb12_ hb13_ hb15_ hb16_ hb17_ hb18_ hb19_ hb20_ hb21_
        try go_wp2
        go_ret
        exact ⟨by first | rfl | (simp [errW_none, errW_some] <;> rfl) | (simp [*, errW_none, errW_some] <;> rfl), by repeat (first | (with_reducible first | exact HB.out | apply below_alloc | apply pw_below_drewN | apply below_drew1) | exact HB.out)⟩
      · rw [if_neg c6] at H
        exact absurd H (by simp)
    · rw [if_neg c4] at H
      exact absurd H (by simp)
  · rw [if_neg c2] at H
    exact absurd H (by simp)

/-! ### spec_TubeText: function 23 -/
def spec_TubeText.f (k : Nat) (l0_0 : List Nat) (a0_1 : Nat) (a0_2 : Nat) (a0_3 : Nat) : Option (ByteArray × Bool) := (spec_l02Is.f k [(⟨l0_0, a0_1, a0_2, a0_3⟩ : S43)]).bind fun t144 => (if t144 = true then ((spec_l08Tube.f k [(⟨l0_0, a0_1, a0_2, a0_3⟩ : S43)]).bind fun t145 => (some (t145, true))) else (some ((⟨#[]⟩ : ByteArray), false)))
theorem spec_TubeText.mono : ∀ a0 a1 a2 a3 k, LeO (spec_TubeText.f k a0 a1 a2 a3) (spec_TubeText.f (k + 1) a0 a1 a2 a3) := by
  intro a0 a1 a2 a3 k
  unfold spec_TubeText.f
  repeat' first
      | (with_reducible exact spec_l02Is.mono _ _)
      | (with_reducible exact spec_l08Tube.mono _ _)
      | (with_reducible exact LeO.refl _)
      | (with_reducible exact LeO.none _)
      | (with_reducible refine LeO.ite ?_ ?_)
      | (with_reducible refine LeO.bind ?_ (fun _ => ?_))
      | exact spec_l02Is.mono _ _
      | exact spec_l08Tube.mono _ _
      | exact LeO.none _
      | refine LeO.ite ?_ ?_
      | refine LeO.bind ?_ (fun _ => ?_)
set_option maxHeartbeats 8000000 in
set_option maxRecDepth 100000 in
theorem spec_TubeText.calls (k : Nat) (A0_0 : Option Addr) (c0_0 : Nat) (l0_0 : List Nat) (a0_1 : Nat) (a0_2 : Nat) (a0_3 : Nat) (r1 : ByteArray) (r2 : Bool) (w : World) (hr0_0 : Kd.C (Kd.float .f32) w A0_0 l0_0.length l0_0) (hc0_0 : l0_0.length ≤ c0_0) (h : spec_TubeText.f k l0_0 a0_1 a0_2 a0_3 = some (r1, r2)) :
    Calls Tryd.prog 23 #[.agg #[.slice A0_0 l0_0.length c0_0, .float .f32 a0_1, .float .f32 a0_2, .float .f32 a0_3]] w fun e w' => e = .returned (.tuple #[.string r1, .bool r2]) ∧ Below w.heap.size w w' := by
  have hu43 := Tryd.underlying43
  have HR0_0 := Aside0.mk hr0_0
  have HC0_0 := Aside0.mk hc0_0
  clear hr0_0 hc0_0
  have HB := Aside0.mk (Below.refl w.heap.size w)
  have H : ((spec_l02Is.f k [(⟨l0_0, a0_1, a0_2, a0_3⟩ : S43)]).bind fun t144 => (if t144 = true then ((spec_l08Tube.f k [(⟨l0_0, a0_1, a0_2, a0_3⟩ : S43)]).bind fun t145 => (some (t145, true))) else (some ((⟨#[]⟩ : ByteArray), false)))) = some (r1, r2) := h
  clear h
  replace H := Option.bind_eq_some_iff.mp H
  obtain ⟨t144, A20, H⟩ := H
  replace H : (if t144 = true then ((spec_l08Tube.f k [(⟨l0_0, a0_1, a0_2, a0_3⟩ : S43)]).bind fun t145 => (some (t145, true))) else (some ((⟨#[]⟩ : ByteArray), false))) = some (r1, r2) := H
  have A2 := Aside0.mk A20
  clear A20
  by_cases c3 : t144 = true
  · subst c3
    have H1 : ((spec_l08Tube.f k [(⟨l0_0, a0_1, a0_2, a0_3⟩ : S43)]).bind fun t145 => (some (t145, true))) = some (r1, r2) := by rw [if_pos rfl] at H; exact H
    clear H
    have H := H1
    clear H1
    replace H := Option.bind_eq_some_iff.mp H
    obtain ⟨t145, A40, H⟩ := H
    replace H : (some (t145, true)) = some (r1, r2) := H
    have A4 := Aside0.mk A40
    clear A40
    simp only [Option.some.injEq, Prod.mk.injEq] at H
    obtain ⟨rfl, rfl⟩ := H
    go_enter Tryd.func23, Tryd.ntmps23
    go_wp2_with (first | ((with_reducible refine gate_dst (N := 1) rfl ?_); refine box_event ?hg (N := 1) ?hd (cs := #[.slice A0_0 l0_0.length c0_0, .float .f32 a0_1, .float .f32 a0_2, .float .f32 a0_3]) (t := 43) ?hr ?_; (case hd => rfl); (case hg => rfl); (case hr => first | (go_simp; done) | (go_simp; rfl) | (simp (disch := omega) only [w64_id]; go_simp; done) | (go_simp; simp (disch := omega) only [w64_id]; done)); intro gb143 hg w5 hbox hb; have n0_ := Aside0.mk (below_step (by repeat (first | (with_reducible first | exact HB.out | apply below_alloc | apply pw_below_drewN | apply below_drew1) | exact HB.out)) hb); have n1_ := Aside0.mk (hbox); have n2_ := Aside0.mk ((by rw [hg]; exact (below_size (by repeat (first | (with_reducible first | exact HB.out | apply below_alloc | apply pw_below_drewN | apply below_drew1) | exact HB.out))) : w.heap.size ≤ gb143)); have n3_ := Aside0.mk ((by rw [hg]; exact (below_size (by repeat (first | (with_reducible first | exact HB.out | apply below_alloc | apply pw_below_drewN | apply below_drew1) | exact HB.out))) : w.heap.size ≤ gb143)); clear HB; have HB := n0_; have BK143 := n1_; have GW143 := n2_; have GE143 := n3_; clear n0_ n1_ n2_ n3_; clear hb hbox hg) | ((with_reducible refine gate_callee (f := 70) rfl ?_); refine goesL_ (some 4) rfl rfl Tryd.func70 (by kernel_rfl) rfl #[.pointer (some ⟨gb143, 0, none⟩)] rfl (by (try simp only [List.map_toArray, List.map_cons, List.map_nil]); first | done | rfl | (simp only [List.length_drop, List.length_take]; rfl)) ?_; (with_reducible refine (spec_l02Is.calls k _ [(⟨l0_0, a0_1, a0_2, a0_3⟩ : S43)] true _ ?side1 A2.out).mono ?_); (case side1 => exact Kd.C_one (T := 43) (by (with_reducible repeat (first | refine blk_drewN ?_ _ | refine blk_drew ?_ | refine blk_alloc ?_ _)); exact BK143.out) (k43_mk _ (⟨l0_0, a0_1, a0_2, a0_3⟩ : S43) (by exact HC0_0.out) (by repeat (first | exact (Kd.C_below HR0_0.out HB.out) | (with_reducible refine Kd.C_alloc ?_ _) | (with_reducible refine Kd.C_drewN ?_ _) | (with_reducible refine Kd.C_drew ?_))))); rintro e w' ⟨rfl, ⟨nd, rfl⟩⟩; refine ⟨_, rfl, ?_⟩) | ((with_reducible refine gate_callee (f := 71) rfl ?_); refine goesL_ (some 6) rfl rfl Tryd.func71 (by kernel_rfl) rfl #[.pointer (some ⟨gb143, 0, none⟩)] rfl (by (try simp only [List.map_toArray, List.map_cons, List.map_nil]); first | done | rfl | (simp only [List.length_drop, List.length_take]; rfl)) ?_; (with_reducible refine (spec_l08Tube.calls k _ [(⟨l0_0, a0_1, a0_2, a0_3⟩ : S43)] t145 _ ?side1 A4.out).mono ?_); (case side1 => exact Kd.C_one (T := 43) (by (with_reducible repeat (first | refine blk_drewN ?_ _ | refine blk_drew ?_ | refine blk_alloc ?_ _)); exact BK143.out) (k43_mk _ (⟨l0_0, a0_1, a0_2, a0_3⟩ : S43) (by exact HC0_0.out) (by repeat (first | exact (Kd.C_below HR0_0.out (by repeat (first | (with_reducible first | exact HB.out | apply below_alloc | apply pw_below_drewN | apply below_drew1 | refine below_set ?_ GE143.out) | exact HB.out))) | (with_reducible refine Kd.C_alloc ?_ _) | (with_reducible refine Kd.C_drewN ?_ _) | (with_reducible refine Kd.C_drew ?_))))); rintro e w6 ⟨rfl, hb⟩; refine ⟨_, rfl, ?_⟩; have n0_ := Aside0.mk (blk_below (g := gb143) (o := .cells #[.slice A0_0 l0_0.length c0_0, .float .f32 a0_1, .float .f32 a0_2, .float .f32 a0_3] 43 (0, 0)) (by (with_reducible repeat (first | refine blk_drewN ?_ _ | refine blk_drew ?_ | refine blk_alloc ?_ _)); exact BK143.out) hb); have n1_ := Aside0.mk (below_step (by repeat (first | (with_reducible first | exact HB.out | apply below_alloc | apply pw_below_drewN | apply below_drew1 | refine below_set ?_ GE143.out) | exact HB.out)) hb); clear BK143; clear HB; have BK143 := n0_; have HB := n1_; clear n0_ n1_; (try clear hb); (try clear hb2); (try clear hk); (try clear hi)))
    go_ret2
    exact ⟨by first | rfl | (simp [errW_none, errW_some] <;> rfl) | (simp [*, errW_none, errW_some] <;> rfl), by repeat (first | (with_reducible first | exact HB.out | apply below_alloc | apply pw_below_drewN | apply below_drew1 | refine below_set ?_ GE143.out) | exact HB.out)⟩
  · replace c3 := Bool.eq_false_iff.mpr c3
    subst c3
    have H1 : (some ((⟨#[]⟩ : ByteArray), false)) = some (r1, r2) := by rw [if_neg (show ¬ (false = true) by decide)] at H; exact H
    clear H
    have H := H1
    clear H1
    simp only [Option.some.injEq, Prod.mk.injEq] at H
    obtain ⟨rfl, rfl⟩ := H
    go_enter Tryd.func23, Tryd.ntmps23
    go_wp2_with (first | ((with_reducible refine gate_dst (N := 1) rfl ?_); refine box_event ?hg (N := 1) ?hd (cs := #[.slice A0_0 l0_0.length c0_0, .float .f32 a0_1, .float .f32 a0_2, .float .f32 a0_3]) (t := 43) ?hr ?_; (case hd => rfl); (case hg => rfl); (case hr => first | (go_simp; done) | (go_simp; rfl) | (simp (disch := omega) only [w64_id]; go_simp; done) | (go_simp; simp (disch := omega) only [w64_id]; done)); intro gb143 hg w7 hbox hb; have n0_ := Aside0.mk (below_step (by repeat (first | (with_reducible first | exact HB.out | apply below_alloc | apply pw_below_drewN | apply below_drew1) | exact HB.out)) hb); have n1_ := Aside0.mk (hbox); have n2_ := Aside0.mk ((by rw [hg]; exact (below_size (by repeat (first | (with_reducible first | exact HB.out | apply below_alloc | apply pw_below_drewN | apply below_drew1) | exact HB.out))) : w.heap.size ≤ gb143)); have n3_ := Aside0.mk ((by rw [hg]; exact (below_size (by repeat (first | (with_reducible first | exact HB.out | apply below_alloc | apply pw_below_drewN | apply below_drew1) | exact HB.out))) : w.heap.size ≤ gb143)); clear HB; have HB := n0_; have BK143 := n1_; have GW143 := n2_; have GE143 := n3_; clear n0_ n1_ n2_ n3_; clear hb hbox hg) | ((with_reducible refine gate_callee (f := 70) rfl ?_); refine goesL_ (some 4) rfl rfl Tryd.func70 (by kernel_rfl) rfl #[.pointer (some ⟨gb143, 0, none⟩)] rfl (by (try simp only [List.map_toArray, List.map_cons, List.map_nil]); first | done | rfl | (simp only [List.length_drop, List.length_take]; rfl)) ?_; (with_reducible refine (spec_l02Is.calls k _ [(⟨l0_0, a0_1, a0_2, a0_3⟩ : S43)] false _ ?side1 A2.out).mono ?_); (case side1 => exact Kd.C_one (T := 43) (by (with_reducible repeat (first | refine blk_drewN ?_ _ | refine blk_drew ?_ | refine blk_alloc ?_ _)); exact BK143.out) (k43_mk _ (⟨l0_0, a0_1, a0_2, a0_3⟩ : S43) (by exact HC0_0.out) (by repeat (first | exact (Kd.C_below HR0_0.out HB.out) | (with_reducible refine Kd.C_alloc ?_ _) | (with_reducible refine Kd.C_drewN ?_ _) | (with_reducible refine Kd.C_drew ?_))))); rintro e w' ⟨rfl, ⟨nd, rfl⟩⟩; refine ⟨_, rfl, ?_⟩))
    go_ret2
    exact ⟨by first | rfl | (simp [errW_none, errW_some] <;> rfl) | (simp [*, errW_none, errW_some] <;> rfl), by repeat (first | (with_reducible first | exact HB.out | apply below_alloc | apply pw_below_drewN | apply below_drew1 | refine below_set ?_ GE143.out) | exact HB.out)⟩

end Go.Proofs.YtbojmdjghfhmbaaDoor.PFnExactTubeText
