import Derived.Test.YtbojmdjghfhmbaaDoorPFnExactThroatTextx2p
namespace Go.Proofs.YtbojmdjghfhmbaaDoor.PFnExactThroatText
open Go.RowKit Go.Proofs.YtbojmdjghfhmbaaDoorW.PrintWords Go.Proofs.YtbojmdjghfhmbaaDoorW.PrintLast Go.Proofs.YtbojmdjghfhmbaaDoorW.PrintMore
open Go.Proofs.YtbojmdjghfhmbaaDoorW.PrintFl
attribute [local go_sem high] binOp_feq binOp_fne binOp_fls binOp_fle binOp_fgr binOp_fge
attribute [local go_sem] run_fopr run_fconv run_fint run_stf run_stc ext_f32bits ext_f32frombits
attribute [local go_sem] max2_int min2_int max_two min_two max_three min_three max_four min_four
set_option linter.unusedVariables false
set_option linter.unusedSimpArgs false
set_option maxHeartbeats 8000000 in
set_option maxRecDepth 100000 in
theorem spec_l03Throat.callsb (A0 : Option Addr) (l0 : List (S27)) (r : Bool) (w : World) (hr0 : Kd.C k27 w A0 l0.length l0) (h : spec_l03Throat.fb l0 = some r) :
    Calls Tryd.prog 58 #[.pointer A0] w fun e w' => e = .returned (.bool r) ∧ Below w.heap.size w w' := by
  have hu22 := Tryd.underlying22
  have HR0 := Aside0.mk hr0
  clear hr0
  have HB := Aside0.mk (Below.refl w.heap.size w)
  have H : (if 0 < (l0.length : Int) then (if (fge .f32 ((rd_T27 l0 0).f0) 1073741824) = true then (if (fle .f32 ((rd_T27 l0 0).f0) 1148846080) = true then ((spec_l02Above.f ((rd_T27 l0 0).f1)).bind fun t109 => (if t109 = true then ((spec_l02Above.f ((rd_T27 l0 0).f2)).bind fun t112 => (if t112 = true then (if (foprOk .add .f32 ((rd_T27 l0 0).f1) ((rd_T27 l0 0).f2)) = true then (if (fle .f32 (fopr .add .f32 ((rd_T27 l0 0).f1) ((rd_T27 l0 0).f2)) 1065353216) = true then ((spec_l02Least.f ((rd_T27 l0 0).f3)).bind fun t119 => (if t119 = true then (none) else (some false))) else (some false)) else (none)) else (some false))) else (none))) else (none)) else (none)) else (none)) = some r := h
  clear h
  by_cases c2 : 0 < (l0.length : Int)
  · rw [if_pos c2] at H
    have c2b0 : decide (0 < (l0.length : Int)) = true := decide_eq_true c2
    have c2b1 : decide (0 < l0.length) = true := decide_eq_true (by omega)
    clear c2
    by_cases c3 : (fge .f32 ((rd_T27 l0 0).f0) 1073741824) = true
    · rw [if_pos c3] at H
      have c3b0 : (fge .f32 ((rd_T27 l0 0).f0) 1073741824) = true := c3
      clear c3
      by_cases c4 : (fle .f32 ((rd_T27 l0 0).f0) 1148846080) = true
      · rw [if_pos c4] at H
        have c4b0 : (fle .f32 ((rd_T27 l0 0).f0) 1148846080) = true := c4
        clear c4
        replace H := Option.bind_eq_some_iff.mp H
        obtain ⟨t109, A50, H⟩ := H
        replace H : (if t109 = true then ((spec_l02Above.f ((rd_T27 l0 0).f2)).bind fun t112 => (if t112 = true then (if (foprOk .add .f32 ((rd_T27 l0 0).f1) ((rd_T27 l0 0).f2)) = true then (if (fle .f32 (fopr .add .f32 ((rd_T27 l0 0).f1) ((rd_T27 l0 0).f2)) 1065353216) = true then ((spec_l02Least.f ((rd_T27 l0 0).f3)).bind fun t119 => (if t119 = true then (none) else (some false))) else (some false)) else (none)) else (some false))) else (none)) = some r := H
        have A5 := Aside0.mk A50
        clear A50
        by_cases c6 : t109 = true
        · subst c6
          have H1 : ((spec_l02Above.f ((rd_T27 l0 0).f2)).bind fun t112 => (if t112 = true then (if (foprOk .add .f32 ((rd_T27 l0 0).f1) ((rd_T27 l0 0).f2)) = true then (if (fle .f32 (fopr .add .f32 ((rd_T27 l0 0).f1) ((rd_T27 l0 0).f2)) 1065353216) = true then ((spec_l02Least.f ((rd_T27 l0 0).f3)).bind fun t119 => (if t119 = true then (none) else (some false))) else (some false)) else (none)) else (some false))) = some r := by rw [if_pos rfl] at H; exact H
          clear H
          have H := H1
          clear H1
          replace H := Option.bind_eq_some_iff.mp H
          obtain ⟨t112, A70, H⟩ := H
          replace H : (if t112 = true then (if (foprOk .add .f32 ((rd_T27 l0 0).f1) ((rd_T27 l0 0).f2)) = true then (if (fle .f32 (fopr .add .f32 ((rd_T27 l0 0).f1) ((rd_T27 l0 0).f2)) 1065353216) = true then ((spec_l02Least.f ((rd_T27 l0 0).f3)).bind fun t119 => (if t119 = true then (none) else (some false))) else (some false)) else (none)) else (some false)) = some r := H
          have A7 := Aside0.mk A70
          clear A70
          by_cases c8 : t112 = true
          · subst c8
            have H1 : (if (foprOk .add .f32 ((rd_T27 l0 0).f1) ((rd_T27 l0 0).f2)) = true then (if (fle .f32 (fopr .add .f32 ((rd_T27 l0 0).f1) ((rd_T27 l0 0).f2)) 1065353216) = true then ((spec_l02Least.f ((rd_T27 l0 0).f3)).bind fun t119 => (if t119 = true then (none) else (some false))) else (some false)) else (none)) = some r := by rw [if_pos rfl] at H; exact H
            clear H
            have H := H1
            clear H1
            by_cases c9 : (foprOk .add .f32 ((rd_T27 l0 0).f1) ((rd_T27 l0 0).f2)) = true
            · rw [if_pos c9] at H
              have c9b0 : (foprOk .add .f32 ((rd_T27 l0 0).f1) ((rd_T27 l0 0).f2)) = true := c9
              clear c9
              by_cases c10 : (fle .f32 (fopr .add .f32 ((rd_T27 l0 0).f1) ((rd_T27 l0 0).f2)) 1065353216) = true
              · rw [if_pos c10] at H
                have c10b0 : (fle .f32 (fopr .add .f32 ((rd_T27 l0 0).f1) ((rd_T27 l0 0).f2)) 1065353216) = true := c10
                clear c10
                replace H := Option.bind_eq_some_iff.mp H
                obtain ⟨t119, A110, H⟩ := H
                replace H : (if t119 = true then (none) else (some false)) = some r := H
                have A11 := Aside0.mk A110
                clear A110
                by_cases c12 : t119 = true
                · rw [if_pos c12] at H
                  exact absurd H (by simp)
                · replace c12 := Bool.eq_false_iff.mpr c12
                  subst c12
                  have H1 : (some false) = some r := by rw [if_neg (show ¬ (false = true) by decide)] at H; exact H
                  clear H
                  have H := H1
                  clear H1
                  obtain rfl := Option.some.inj H
                  go_enter Tryd.func58, Tryd.ntmps58
                  try go_wp2
                  have n0_ := Aside0.mk (below_drew1 HB.out)
                  clear HB
                  have HB := n0_
                  clear n0_
                  have p103 : 0 ≤ (0 : Int) := (by omega)
                  have q103 : 0 < (l0.length : Int) := of_decide_eq_true (by first | (with_reducible assumption) | assumption)
                  obtain ⟨ad103, e103, hx103_0, hx103_1, hx103_2, hx103_3, hx103_4⟩ := at_T27 HR0.out 0 p103 q103
                  have hw103_4 := hx103_4
                  (try rw [show ((0 : Int)).toNat = 0 from rfl] at hw103_4)
                  (try rw [show 0 * 5 = 0 from rfl] at hw103_4)
                  (try rw [Addr.add_zero'] at hw103_4)
                  have hw103_3 := hx103_3
                  (try rw [show ((0 : Int)).toNat = 0 from rfl] at hw103_3)
                  (try rw [show 0 * 5 = 0 from rfl] at hw103_3)
                  (try rw [Addr.add_zero'] at hw103_3)
                  have hw103_2 := hx103_2
                  (try rw [show ((0 : Int)).toNat = 0 from rfl] at hw103_2)
                  (try rw [show 0 * 5 = 0 from rfl] at hw103_2)
                  (try rw [Addr.add_zero'] at hw103_2)
                  have hw103_1 := hx103_1
                  (try rw [show ((0 : Int)).toNat = 0 from rfl] at hw103_1)
                  (try rw [show 0 * 5 = 0 from rfl] at hw103_1)
                  (try rw [Addr.add_zero'] at hw103_1)
                  have hw103_0 := hx103_0
                  (try rw [show ((0 : Int)).toNat = 0 from rfl] at hw103_0)
                  (try rw [show 0 * 5 = 0 from rfl] at hw103_0)
                  (try rw [Addr.add_zero'] at hw103_0)
                  cases e103
                  have qi103 : (0 < l0.length) = True := eq_true (by omega)
                  (try rw [show ((0 : Int)).toNat = 0 from rfl] at hx103_0)
                  (try rw [show 0 * 5 = 0 from rfl] at hx103_0)
                  (try rw [Addr.add_zero'] at hx103_0)
                  (try rw [show ((0 : Int)).toNat = 0 from rfl] at hx103_1)
                  (try rw [show 0 * 5 = 0 from rfl] at hx103_1)
                  (try rw [Addr.add_zero'] at hx103_1)
                  (try rw [show ((0 : Int)).toNat = 0 from rfl] at hx103_2)
                  (try rw [show 0 * 5 = 0 from rfl] at hx103_2)
                  (try rw [Addr.add_zero'] at hx103_2)
                  (try rw [show ((0 : Int)).toNat = 0 from rfl] at hx103_3)
                  (try rw [show 0 * 5 = 0 from rfl] at hx103_3)
                  (try rw [Addr.add_zero'] at hx103_3)
                  (try rw [show ((0 : Int)).toNat = 0 from rfl] at hx103_4)
                  (try rw [show 0 * 5 = 0 from rfl] at hx103_4)
                  (try rw [Addr.add_zero'] at hx103_4)
                  replace hx103_0 := (HB.out.cell (World.block_lt_of_cell? w _ hx103_0)).trans hx103_0
                  replace hx103_1 := (HB.out.cell (World.block_lt_of_cell? w _ hx103_1)).trans hx103_1
                  replace hx103_2 := (HB.out.cell (World.block_lt_of_cell? w _ hx103_2)).trans hx103_2
                  replace hx103_3 := (HB.out.cell (World.block_lt_of_cell? w _ hx103_3)).trans hx103_3
                  replace hx103_4 := (HB.out.cell (World.block_lt_of_cell? w _ hx103_4)).trans hx103_4
                  replace p103 := eq_true p103
                  replace q103 := eq_true q103
                  have p104 : 0 ≤ (0 : Int) := (by omega)
                  have q104 : 0 < (l0.length : Int) := of_decide_eq_true (by first | (with_reducible assumption) | assumption)
                  obtain ⟨ad104, e104, hx104_0, hx104_1, hx104_2, hx104_3, hx104_4⟩ := at_T27 HR0.out 0 p104 q104
                  have hw104_4 := hx104_4
                  (try rw [show ((0 : Int)).toNat = 0 from rfl] at hw104_4)
                  (try rw [show 0 * 5 = 0 from rfl] at hw104_4)
                  (try rw [Addr.add_zero'] at hw104_4)
                  have hw104_3 := hx104_3
                  (try rw [show ((0 : Int)).toNat = 0 from rfl] at hw104_3)
                  (try rw [show 0 * 5 = 0 from rfl] at hw104_3)
                  (try rw [Addr.add_zero'] at hw104_3)
                  have hw104_2 := hx104_2
                  (try rw [show ((0 : Int)).toNat = 0 from rfl] at hw104_2)
                  (try rw [show 0 * 5 = 0 from rfl] at hw104_2)
                  (try rw [Addr.add_zero'] at hw104_2)
                  have hw104_1 := hx104_1
                  (try rw [show ((0 : Int)).toNat = 0 from rfl] at hw104_1)
                  (try rw [show 0 * 5 = 0 from rfl] at hw104_1)
                  (try rw [Addr.add_zero'] at hw104_1)
                  have hw104_0 := hx104_0
                  (try rw [show ((0 : Int)).toNat = 0 from rfl] at hw104_0)
                  (try rw [show 0 * 5 = 0 from rfl] at hw104_0)
                  (try rw [Addr.add_zero'] at hw104_0)
                  obtain rfl : ad103 = ad104 := (by injection e104)
                  have qi104 : (0 < l0.length) = True := eq_true (by omega)
                  (try rw [show ((0 : Int)).toNat = 0 from rfl] at hx104_0)
                  (try rw [show 0 * 5 = 0 from rfl] at hx104_0)
                  (try rw [Addr.add_zero'] at hx104_0)
                  (try rw [show ((0 : Int)).toNat = 0 from rfl] at hx104_1)
                  (try rw [show 0 * 5 = 0 from rfl] at hx104_1)
                  (try rw [Addr.add_zero'] at hx104_1)
                  (try rw [show ((0 : Int)).toNat = 0 from rfl] at hx104_2)
                  (try rw [show 0 * 5 = 0 from rfl] at hx104_2)
                  (try rw [Addr.add_zero'] at hx104_2)
                  (try rw [show ((0 : Int)).toNat = 0 from rfl] at hx104_3)
                  (try rw [show 0 * 5 = 0 from rfl] at hx104_3)
                  (try rw [Addr.add_zero'] at hx104_3)
                  (try rw [show ((0 : Int)).toNat = 0 from rfl] at hx104_4)
                  (try rw [show 0 * 5 = 0 from rfl] at hx104_4)
                  (try rw [Addr.add_zero'] at hx104_4)
                  replace hx104_0 := (HB.out.cell (World.block_lt_of_cell? w _ hx104_0)).trans hx104_0
                  replace hx104_1 := (HB.out.cell (World.block_lt_of_cell? w _ hx104_1)).trans hx104_1
                  replace hx104_2 := (HB.out.cell (World.block_lt_of_cell? w _ hx104_2)).trans hx104_2
                  replace hx104_3 := (HB.out.cell (World.block_lt_of_cell? w _ hx104_3)).trans hx104_3
                  replace hx104_4 := (HB.out.cell (World.block_lt_of_cell? w _ hx104_4)).trans hx104_4
                  replace p104 := eq_true p104
                  replace q104 := eq_true q104
                  have p105 : 0 ≤ (0 : Int) := (by omega)
                  have q105 : 0 < (l0.length : Int) := of_decide_eq_true (by first | (with_reducible assumption) | assumption)
                  obtain ⟨ad105, e105, hx105_0, hx105_1, hx105_2, hx105_3, hx105_4⟩ := at_T27 HR0.out 0 p105 q105
                  have hw105_4 := hx105_4
                  (try rw [show ((0 : Int)).toNat = 0 from rfl] at hw105_4)
                  (try rw [show 0 * 5 = 0 from rfl] at hw105_4)
                  (try rw [Addr.add_zero'] at hw105_4)
                  have hw105_3 := hx105_3
                  (try rw [show ((0 : Int)).toNat = 0 from rfl] at hw105_3)
                  (try rw [show 0 * 5 = 0 from rfl] at hw105_3)
                  (try rw [Addr.add_zero'] at hw105_3)
                  have hw105_2 := hx105_2
                  (try rw [show ((0 : Int)).toNat = 0 from rfl] at hw105_2)
                  (try rw [show 0 * 5 = 0 from rfl] at hw105_2)
                  (try rw [Addr.add_zero'] at hw105_2)
                  have hw105_1 := hx105_1
                  (try rw [show ((0 : Int)).toNat = 0 from rfl] at hw105_1)
                  (try rw [show 0 * 5 = 0 from rfl] at hw105_1)
                  (try rw [Addr.add_zero'] at hw105_1)
                  have hw105_0 := hx105_0
                  (try rw [show ((0 : Int)).toNat = 0 from rfl] at hw105_0)
                  (try rw [show 0 * 5 = 0 from rfl] at hw105_0)
                  (try rw [Addr.add_zero'] at hw105_0)
                  obtain rfl : ad103 = ad105 := (by injection e105)
                  have qi105 : (0 < l0.length) = True := eq_true (by omega)
                  (try rw [show ((0 : Int)).toNat = 0 from rfl] at hx105_0)
                  (try rw [show 0 * 5 = 0 from rfl] at hx105_0)
                  (try rw [Addr.add_zero'] at hx105_0)
                  (try rw [show ((0 : Int)).toNat = 0 from rfl] at hx105_1)
                  (try rw [show 0 * 5 = 0 from rfl] at hx105_1)
                  (try rw [Addr.add_zero'] at hx105_1)
                  (try rw [show ((0 : Int)).toNat = 0 from rfl] at hx105_2)
                  (try rw [show 0 * 5 = 0 from rfl] at hx105_2)
                  (try rw [Addr.add_zero'] at hx105_2)
                  (try rw [show ((0 : Int)).toNat = 0 from rfl] at hx105_3)
                  (try rw [show 0 * 5 = 0 from rfl] at hx105_3)
                  (try rw [Addr.add_zero'] at hx105_3)
                  (try rw [show ((0 : Int)).toNat = 0 from rfl] at hx105_4)
                  (try rw [show 0 * 5 = 0 from rfl] at hx105_4)
                  (try rw [Addr.add_zero'] at hx105_4)
                  replace hx105_0 := (HB.out.cell (World.block_lt_of_cell? w _ hx105_0)).trans hx105_0
                  replace hx105_1 := (HB.out.cell (World.block_lt_of_cell? w _ hx105_1)).trans hx105_1
                  replace hx105_2 := (HB.out.cell (World.block_lt_of_cell? w _ hx105_2)).trans hx105_2
                  replace hx105_3 := (HB.out.cell (World.block_lt_of_cell? w _ hx105_3)).trans hx105_3
                  replace hx105_4 := (HB.out.cell (World.block_lt_of_cell? w _ hx105_4)).trans hx105_4
                  replace p105 := eq_true p105
                  replace q105 := eq_true q105
                  have p106 : 0 ≤ (0 : Int) := (by omega)
                  have q106 : 0 < (l0.length : Int) := of_decide_eq_true (by first | (with_reducible assumption) | assumption)
                  obtain ⟨ad106, e106, hx106_0, hx106_1, hx106_2, hx106_3, hx106_4⟩ := at_T27 HR0.out 0 p106 q106
                  have hw106_4 := hx106_4
                  (try rw [show ((0 : Int)).toNat = 0 from rfl] at hw106_4)
                  (try rw [show 0 * 5 = 0 from rfl] at hw106_4)
                  (try rw [Addr.add_zero'] at hw106_4)
                  have hw106_3 := hx106_3
                  (try rw [show ((0 : Int)).toNat = 0 from rfl] at hw106_3)
                  (try rw [show 0 * 5 = 0 from rfl] at hw106_3)
                  (try rw [Addr.add_zero'] at hw106_3)
                  have hw106_2 := hx106_2
                  (try rw [show ((0 : Int)).toNat = 0 from rfl] at hw106_2)
                  (try rw [show 0 * 5 = 0 from rfl] at hw106_2)
                  (try rw [Addr.add_zero'] at hw106_2)
                  have hw106_1 := hx106_1
                  (try rw [show ((0 : Int)).toNat = 0 from rfl] at hw106_1)
                  (try rw [show 0 * 5 = 0 from rfl] at hw106_1)
                  (try rw [Addr.add_zero'] at hw106_1)
                  have hw106_0 := hx106_0
                  (try rw [show ((0 : Int)).toNat = 0 from rfl] at hw106_0)
                  (try rw [show 0 * 5 = 0 from rfl] at hw106_0)
                  (try rw [Addr.add_zero'] at hw106_0)
                  obtain rfl : ad103 = ad106 := (by injection e106)
                  have qi106 : (0 < l0.length) = True := eq_true (by omega)
                  (try rw [show ((0 : Int)).toNat = 0 from rfl] at hx106_0)
                  (try rw [show 0 * 5 = 0 from rfl] at hx106_0)
                  (try rw [Addr.add_zero'] at hx106_0)
                  (try rw [show ((0 : Int)).toNat = 0 from rfl] at hx106_1)
                  (try rw [show 0 * 5 = 0 from rfl] at hx106_1)
                  (try rw [Addr.add_zero'] at hx106_1)
                  (try rw [show ((0 : Int)).toNat = 0 from rfl] at hx106_2)
                  (try rw [show 0 * 5 = 0 from rfl] at hx106_2)
                  (try rw [Addr.add_zero'] at hx106_2)
                  (try rw [show ((0 : Int)).toNat = 0 from rfl] at hx106_3)
                  (try rw [show 0 * 5 = 0 from rfl] at hx106_3)
                  (try rw [Addr.add_zero'] at hx106_3)
                  (try rw [show ((0 : Int)).toNat = 0 from rfl] at hx106_4)
                  (try rw [show 0 * 5 = 0 from rfl] at hx106_4)
                  (try rw [Addr.add_zero'] at hx106_4)
                  replace hx106_0 := (HB.out.cell (World.block_lt_of_cell? w _ hx106_0)).trans hx106_0
                  replace hx106_1 := (HB.out.cell (World.block_lt_of_cell? w _ hx106_1)).trans hx106_1
                  replace hx106_2 := (HB.out.cell (World.block_lt_of_cell? w _ hx106_2)).trans hx106_2
                  replace hx106_3 := (HB.out.cell (World.block_lt_of_cell? w _ hx106_3)).trans hx106_3
                  replace hx106_4 := (HB.out.cell (World.block_lt_of_cell? w _ hx106_4)).trans hx106_4
                  replace p106 := eq_true p106
                  replace q106 := eq_true q106
                  have p107 : 0 ≤ (0 : Int) := (by omega)
                  have q107 : 0 < (l0.length : Int) := of_decide_eq_true (by first | (with_reducible assumption) | assumption)
                  obtain ⟨ad107, e107, hx107_0, hx107_1, hx107_2, hx107_3, hx107_4⟩ := at_T27 HR0.out 0 p107 q107
                  have hw107_4 := hx107_4
                  (try rw [show ((0 : Int)).toNat = 0 from rfl] at hw107_4)
                  (try rw [show 0 * 5 = 0 from rfl] at hw107_4)
                  (try rw [Addr.add_zero'] at hw107_4)
                  have hw107_3 := hx107_3
                  (try rw [show ((0 : Int)).toNat = 0 from rfl] at hw107_3)
                  (try rw [show 0 * 5 = 0 from rfl] at hw107_3)
                  (try rw [Addr.add_zero'] at hw107_3)
                  have hw107_2 := hx107_2
                  (try rw [show ((0 : Int)).toNat = 0 from rfl] at hw107_2)
                  (try rw [show 0 * 5 = 0 from rfl] at hw107_2)
                  (try rw [Addr.add_zero'] at hw107_2)
                  have hw107_1 := hx107_1
                  (try rw [show ((0 : Int)).toNat = 0 from rfl] at hw107_1)
                  (try rw [show 0 * 5 = 0 from rfl] at hw107_1)
                  (try rw [Addr.add_zero'] at hw107_1)
                  have hw107_0 := hx107_0
                  (try rw [show ((0 : Int)).toNat = 0 from rfl] at hw107_0)
                  (try rw [show 0 * 5 = 0 from rfl] at hw107_0)
                  (try rw [Addr.add_zero'] at hw107_0)
                  obtain rfl : ad103 = ad107 := (by injection e107)
                  have qi107 : (0 < l0.length) = True := eq_true (by omega)
                  (try rw [show ((0 : Int)).toNat = 0 from rfl] at hx107_0)
                  (try rw [show 0 * 5 = 0 from rfl] at hx107_0)
                  (try rw [Addr.add_zero'] at hx107_0)
                  (try rw [show ((0 : Int)).toNat = 0 from rfl] at hx107_1)
                  (try rw [show 0 * 5 = 0 from rfl] at hx107_1)
                  (try rw [Addr.add_zero'] at hx107_1)
                  (try rw [show ((0 : Int)).toNat = 0 from rfl] at hx107_2)
                  (try rw [show 0 * 5 = 0 from rfl] at hx107_2)
                  (try rw [Addr.add_zero'] at hx107_2)
                  (try rw [show ((0 : Int)).toNat = 0 from rfl] at hx107_3)
                  (try rw [show 0 * 5 = 0 from rfl] at hx107_3)
                  (try rw [Addr.add_zero'] at hx107_3)
                  (try rw [show ((0 : Int)).toNat = 0 from rfl] at hx107_4)
                  (try rw [show 0 * 5 = 0 from rfl] at hx107_4)
                  (try rw [Addr.add_zero'] at hx107_4)
                  replace hx107_0 := (HB.out.cell (World.block_lt_of_cell? w _ hx107_0)).trans hx107_0
                  replace hx107_1 := (HB.out.cell (World.block_lt_of_cell? w _ hx107_1)).trans hx107_1
                  replace hx107_2 := (HB.out.cell (World.block_lt_of_cell? w _ hx107_2)).trans hx107_2
                  replace hx107_3 := (HB.out.cell (World.block_lt_of_cell? w _ hx107_3)).trans hx107_3
                  replace hx107_4 := (HB.out.cell (World.block_lt_of_cell? w _ hx107_4)).trans hx107_4
                  replace p107 := eq_true p107
                  replace q107 := eq_true q107
                  have p108 : 0 ≤ (0 : Int) := (by omega)
                  have q108 : 0 < (l0.length : Int) := of_decide_eq_true (by first | (with_reducible assumption) | assumption)
                  obtain ⟨ad108, e108, hx108_0, hx108_1, hx108_2, hx108_3, hx108_4⟩ := at_T27 HR0.out 0 p108 q108
                  have hw108_4 := hx108_4
                  (try rw [show ((0 : Int)).toNat = 0 from rfl] at hw108_4)
                  (try rw [show 0 * 5 = 0 from rfl] at hw108_4)
                  (try rw [Addr.add_zero'] at hw108_4)
                  have hw108_3 := hx108_3
                  (try rw [show ((0 : Int)).toNat = 0 from rfl] at hw108_3)
                  (try rw [show 0 * 5 = 0 from rfl] at hw108_3)
                  (try rw [Addr.add_zero'] at hw108_3)
                  have hw108_2 := hx108_2
                  (try rw [show ((0 : Int)).toNat = 0 from rfl] at hw108_2)
                  (try rw [show 0 * 5 = 0 from rfl] at hw108_2)
                  (try rw [Addr.add_zero'] at hw108_2)
                  have hw108_1 := hx108_1
                  (try rw [show ((0 : Int)).toNat = 0 from rfl] at hw108_1)
                  (try rw [show 0 * 5 = 0 from rfl] at hw108_1)
                  (try rw [Addr.add_zero'] at hw108_1)
                  have hw108_0 := hx108_0
                  (try rw [show ((0 : Int)).toNat = 0 from rfl] at hw108_0)
                  (try rw [show 0 * 5 = 0 from rfl] at hw108_0)
                  (try rw [Addr.add_zero'] at hw108_0)
                  obtain rfl : ad103 = ad108 := (by injection e108)
                  have qi108 : (0 < l0.length) = True := eq_true (by omega)
                  (try rw [show ((0 : Int)).toNat = 0 from rfl] at hx108_0)
                  (try rw [show 0 * 5 = 0 from rfl] at hx108_0)
                  (try rw [Addr.add_zero'] at hx108_0)
                  (try rw [show ((0 : Int)).toNat = 0 from rfl] at hx108_1)
                  (try rw [show 0 * 5 = 0 from rfl] at hx108_1)
                  (try rw [Addr.add_zero'] at hx108_1)
                  (try rw [show ((0 : Int)).toNat = 0 from rfl] at hx108_2)
                  (try rw [show 0 * 5 = 0 from rfl] at hx108_2)
                  (try rw [Addr.add_zero'] at hx108_2)
                  (try rw [show ((0 : Int)).toNat = 0 from rfl] at hx108_3)
                  (try rw [show 0 * 5 = 0 from rfl] at hx108_3)
                  (try rw [Addr.add_zero'] at hx108_3)
                  (try rw [show ((0 : Int)).toNat = 0 from rfl] at hx108_4)
                  (try rw [show 0 * 5 = 0 from rfl] at hx108_4)
                  (try rw [Addr.add_zero'] at hx108_4)
                  replace hx108_0 := (HB.out.cell (World.block_lt_of_cell? w _ hx108_0)).trans hx108_0
                  replace hx108_1 := (HB.out.cell (World.block_lt_of_cell? w _ hx108_1)).trans hx108_1
                  replace hx108_2 := (HB.out.cell (World.block_lt_of_cell? w _ hx108_2)).trans hx108_2
                  replace hx108_3 := (HB.out.cell (World.block_lt_of_cell? w _ hx108_3)).trans hx108_3
                  replace hx108_4 := (HB.out.cell (World.block_lt_of_cell? w _ hx108_4)).trans hx108_4
                  replace p108 := eq_true p108
                  replace q108 := eq_true q108
                  have p110 : 0 ≤ (0 : Int) := (by omega)
                  have q110 : 0 < (l0.length : Int) := of_decide_eq_true (by first | (with_reducible assumption) | assumption)
                  obtain ⟨ad110, e110, hx110_0, hx110_1, hx110_2, hx110_3, hx110_4⟩ := at_T27 HR0.out 0 p110 q110
                  have hw110_4 := hx110_4
                  (try rw [show ((0 : Int)).toNat = 0 from rfl] at hw110_4)
                  (try rw [show 0 * 5 = 0 from rfl] at hw110_4)
                  (try rw [Addr.add_zero'] at hw110_4)
                  have hw110_3 := hx110_3
                  (try rw [show ((0 : Int)).toNat = 0 from rfl] at hw110_3)
                  (try rw [show 0 * 5 = 0 from rfl] at hw110_3)
                  (try rw [Addr.add_zero'] at hw110_3)
                  have hw110_2 := hx110_2
                  (try rw [show ((0 : Int)).toNat = 0 from rfl] at hw110_2)
                  (try rw [show 0 * 5 = 0 from rfl] at hw110_2)
                  (try rw [Addr.add_zero'] at hw110_2)
                  have hw110_1 := hx110_1
                  (try rw [show ((0 : Int)).toNat = 0 from rfl] at hw110_1)
                  (try rw [show 0 * 5 = 0 from rfl] at hw110_1)
                  (try rw [Addr.add_zero'] at hw110_1)
                  have hw110_0 := hx110_0
                  (try rw [show ((0 : Int)).toNat = 0 from rfl] at hw110_0)
                  (try rw [show 0 * 5 = 0 from rfl] at hw110_0)
                  (try rw [Addr.add_zero'] at hw110_0)
                  obtain rfl : ad103 = ad110 := (by injection e110)
                  have qi110 : (0 < l0.length) = True := eq_true (by omega)
                  (try rw [show ((0 : Int)).toNat = 0 from rfl] at hx110_0)
                  (try rw [show 0 * 5 = 0 from rfl] at hx110_0)
                  (try rw [Addr.add_zero'] at hx110_0)
                  (try rw [show ((0 : Int)).toNat = 0 from rfl] at hx110_1)
                  (try rw [show 0 * 5 = 0 from rfl] at hx110_1)
                  (try rw [Addr.add_zero'] at hx110_1)
                  (try rw [show ((0 : Int)).toNat = 0 from rfl] at hx110_2)
                  (try rw [show 0 * 5 = 0 from rfl] at hx110_2)
                  (try rw [Addr.add_zero'] at hx110_2)
                  (try rw [show ((0 : Int)).toNat = 0 from rfl] at hx110_3)
                  (try rw [show 0 * 5 = 0 from rfl] at hx110_3)
                  (try rw [Addr.add_zero'] at hx110_3)
                  (try rw [show ((0 : Int)).toNat = 0 from rfl] at hx110_4)
                  (try rw [show 0 * 5 = 0 from rfl] at hx110_4)
                  (try rw [Addr.add_zero'] at hx110_4)
                  replace hx110_0 := (HB.out.cell (World.block_lt_of_cell? w _ hx110_0)).trans hx110_0
                  replace hx110_1 := (HB.out.cell (World.block_lt_of_cell? w _ hx110_1)).trans hx110_1
                  replace hx110_2 := (HB.out.cell (World.block_lt_of_cell? w _ hx110_2)).trans hx110_2
                  replace hx110_3 := (HB.out.cell (World.block_lt_of_cell? w _ hx110_3)).trans hx110_3
                  replace hx110_4 := (HB.out.cell (World.block_lt_of_cell? w _ hx110_4)).trans hx110_4
                  replace p110 := eq_true p110
                  replace q110 := eq_true q110
                  have p111 : 0 ≤ (0 : Int) := (by omega)
                  have q111 : 0 < (l0.length : Int) := of_decide_eq_true (by first | (with_reducible assumption) | assumption)
                  obtain ⟨ad111, e111, hx111_0, hx111_1, hx111_2, hx111_3, hx111_4⟩ := at_T27 HR0.out 0 p111 q111
                  have hw111_4 := hx111_4
                  (try rw [show ((0 : Int)).toNat = 0 from rfl] at hw111_4)
                  (try rw [show 0 * 5 = 0 from rfl] at hw111_4)
                  (try rw [Addr.add_zero'] at hw111_4)
                  have hw111_3 := hx111_3
                  (try rw [show ((0 : Int)).toNat = 0 from rfl] at hw111_3)
                  (try rw [show 0 * 5 = 0 from rfl] at hw111_3)
                  (try rw [Addr.add_zero'] at hw111_3)
                  have hw111_2 := hx111_2
                  (try rw [show ((0 : Int)).toNat = 0 from rfl] at hw111_2)
                  (try rw [show 0 * 5 = 0 from rfl] at hw111_2)
                  (try rw [Addr.add_zero'] at hw111_2)
                  have hw111_1 := hx111_1
                  (try rw [show ((0 : Int)).toNat = 0 from rfl] at hw111_1)
                  (try rw [show 0 * 5 = 0 from rfl] at hw111_1)
                  (try rw [Addr.add_zero'] at hw111_1)
                  have hw111_0 := hx111_0
                  (try rw [show ((0 : Int)).toNat = 0 from rfl] at hw111_0)
                  (try rw [show 0 * 5 = 0 from rfl] at hw111_0)
                  (try rw [Addr.add_zero'] at hw111_0)
                  obtain rfl : ad103 = ad111 := (by injection e111)
                  have qi111 : (0 < l0.length) = True := eq_true (by omega)
                  (try rw [show ((0 : Int)).toNat = 0 from rfl] at hx111_0)
                  (try rw [show 0 * 5 = 0 from rfl] at hx111_0)
                  (try rw [Addr.add_zero'] at hx111_0)
                  (try rw [show ((0 : Int)).toNat = 0 from rfl] at hx111_1)
                  (try rw [show 0 * 5 = 0 from rfl] at hx111_1)
                  (try rw [Addr.add_zero'] at hx111_1)
                  (try rw [show ((0 : Int)).toNat = 0 from rfl] at hx111_2)
                  (try rw [show 0 * 5 = 0 from rfl] at hx111_2)
                  (try rw [Addr.add_zero'] at hx111_2)
                  (try rw [show ((0 : Int)).toNat = 0 from rfl] at hx111_3)
                  (try rw [show 0 * 5 = 0 from rfl] at hx111_3)
                  (try rw [Addr.add_zero'] at hx111_3)
                  (try rw [show ((0 : Int)).toNat = 0 from rfl] at hx111_4)
                  (try rw [show 0 * 5 = 0 from rfl] at hx111_4)
                  (try rw [Addr.add_zero'] at hx111_4)
                  replace hx111_0 := (HB.out.cell (World.block_lt_of_cell? w _ hx111_0)).trans hx111_0
                  replace hx111_1 := (HB.out.cell (World.block_lt_of_cell? w _ hx111_1)).trans hx111_1
                  replace hx111_2 := (HB.out.cell (World.block_lt_of_cell? w _ hx111_2)).trans hx111_2
                  replace hx111_3 := (HB.out.cell (World.block_lt_of_cell? w _ hx111_3)).trans hx111_3
                  replace hx111_4 := (HB.out.cell (World.block_lt_of_cell? w _ hx111_4)).trans hx111_4
                  replace p111 := eq_true p111
                  replace q111 := eq_true q111
                  have p113 : 0 ≤ (0 : Int) := (by omega)
                  have q113 : 0 < (l0.length : Int) := of_decide_eq_true (by first | (with_reducible assumption) | assumption)
                  obtain ⟨ad113, e113, hx113_0, hx113_1, hx113_2, hx113_3, hx113_4⟩ := at_T27 HR0.out 0 p113 q113
                  have hw113_4 := hx113_4
                  (try rw [show ((0 : Int)).toNat = 0 from rfl] at hw113_4)
                  (try rw [show 0 * 5 = 0 from rfl] at hw113_4)
                  (try rw [Addr.add_zero'] at hw113_4)
                  have hw113_3 := hx113_3
                  (try rw [show ((0 : Int)).toNat = 0 from rfl] at hw113_3)
                  (try rw [show 0 * 5 = 0 from rfl] at hw113_3)
                  (try rw [Addr.add_zero'] at hw113_3)
                  have hw113_2 := hx113_2
                  (try rw [show ((0 : Int)).toNat = 0 from rfl] at hw113_2)
                  (try rw [show 0 * 5 = 0 from rfl] at hw113_2)
                  (try rw [Addr.add_zero'] at hw113_2)
                  have hw113_1 := hx113_1
                  (try rw [show ((0 : Int)).toNat = 0 from rfl] at hw113_1)
                  (try rw [show 0 * 5 = 0 from rfl] at hw113_1)
                  (try rw [Addr.add_zero'] at hw113_1)
                  have hw113_0 := hx113_0
                  (try rw [show ((0 : Int)).toNat = 0 from rfl] at hw113_0)
                  (try rw [show 0 * 5 = 0 from rfl] at hw113_0)
                  (try rw [Addr.add_zero'] at hw113_0)
                  obtain rfl : ad103 = ad113 := (by injection e113)
                  have qi113 : (0 < l0.length) = True := eq_true (by omega)
                  (try rw [show ((0 : Int)).toNat = 0 from rfl] at hx113_0)
                  (try rw [show 0 * 5 = 0 from rfl] at hx113_0)
                  (try rw [Addr.add_zero'] at hx113_0)
                  (try rw [show ((0 : Int)).toNat = 0 from rfl] at hx113_1)
                  (try rw [show 0 * 5 = 0 from rfl] at hx113_1)
                  (try rw [Addr.add_zero'] at hx113_1)
                  (try rw [show ((0 : Int)).toNat = 0 from rfl] at hx113_2)
                  (try rw [show 0 * 5 = 0 from rfl] at hx113_2)
                  (try rw [Addr.add_zero'] at hx113_2)
                  (try rw [show ((0 : Int)).toNat = 0 from rfl] at hx113_3)
                  (try rw [show 0 * 5 = 0 from rfl] at hx113_3)
                  (try rw [Addr.add_zero'] at hx113_3)
                  (try rw [show ((0 : Int)).toNat = 0 from rfl] at hx113_4)
                  (try rw [show 0 * 5 = 0 from rfl] at hx113_4)
                  (try rw [Addr.add_zero'] at hx113_4)
                  replace hx113_0 := (HB.out.cell (World.block_lt_of_cell? w _ hx113_0)).trans hx113_0
                  replace hx113_1 := (HB.out.cell (World.block_lt_of_cell? w _ hx113_1)).trans hx113_1
                  replace hx113_2 := (HB.out.cell (World.block_lt_of_cell? w _ hx113_2)).trans hx113_2
                  replace hx113_3 := (HB.out.cell (World.block_lt_of_cell? w _ hx113_3)).trans hx113_3
                  replace hx113_4 := (HB.out.cell (World.block_lt_of_cell? w _ hx113_4)).trans hx113_4
                  replace p113 := eq_true p113
                  replace q113 := eq_true q113
                  have p114 : 0 ≤ (0 : Int) := (by omega)
                  have q114 : 0 < (l0.length : Int) := of_decide_eq_true (by first | (with_reducible assumption) | assumption)
                  obtain ⟨ad114, e114, hx114_0, hx114_1, hx114_2, hx114_3, hx114_4⟩ := at_T27 HR0.out 0 p114 q114
                  have hw114_4 := hx114_4
                  (try rw [show ((0 : Int)).toNat = 0 from rfl] at hw114_4)
                  (try rw [show 0 * 5 = 0 from rfl] at hw114_4)
                  (try rw [Addr.add_zero'] at hw114_4)
                  have hw114_3 := hx114_3
                  (try rw [show ((0 : Int)).toNat = 0 from rfl] at hw114_3)
                  (try rw [show 0 * 5 = 0 from rfl] at hw114_3)
                  (try rw [Addr.add_zero'] at hw114_3)
                  have hw114_2 := hx114_2
                  (try rw [show ((0 : Int)).toNat = 0 from rfl] at hw114_2)
                  (try rw [show 0 * 5 = 0 from rfl] at hw114_2)
                  (try rw [Addr.add_zero'] at hw114_2)
                  have hw114_1 := hx114_1
                  (try rw [show ((0 : Int)).toNat = 0 from rfl] at hw114_1)
                  (try rw [show 0 * 5 = 0 from rfl] at hw114_1)
                  (try rw [Addr.add_zero'] at hw114_1)
                  have hw114_0 := hx114_0
                  (try rw [show ((0 : Int)).toNat = 0 from rfl] at hw114_0)
                  (try rw [show 0 * 5 = 0 from rfl] at hw114_0)
                  (try rw [Addr.add_zero'] at hw114_0)
                  obtain rfl : ad103 = ad114 := (by injection e114)
                  have qi114 : (0 < l0.length) = True := eq_true (by omega)
                  (try rw [show ((0 : Int)).toNat = 0 from rfl] at hx114_0)
                  (try rw [show 0 * 5 = 0 from rfl] at hx114_0)
                  (try rw [Addr.add_zero'] at hx114_0)
                  (try rw [show ((0 : Int)).toNat = 0 from rfl] at hx114_1)
                  (try rw [show 0 * 5 = 0 from rfl] at hx114_1)
                  (try rw [Addr.add_zero'] at hx114_1)
                  (try rw [show ((0 : Int)).toNat = 0 from rfl] at hx114_2)
                  (try rw [show 0 * 5 = 0 from rfl] at hx114_2)
                  (try rw [Addr.add_zero'] at hx114_2)
                  (try rw [show ((0 : Int)).toNat = 0 from rfl] at hx114_3)
                  (try rw [show 0 * 5 = 0 from rfl] at hx114_3)
                  (try rw [Addr.add_zero'] at hx114_3)
                  (try rw [show ((0 : Int)).toNat = 0 from rfl] at hx114_4)
                  (try rw [show 0 * 5 = 0 from rfl] at hx114_4)
                  (try rw [Addr.add_zero'] at hx114_4)
                  replace hx114_0 := (HB.out.cell (World.block_lt_of_cell? w _ hx114_0)).trans hx114_0
                  replace hx114_1 := (HB.out.cell (World.block_lt_of_cell? w _ hx114_1)).trans hx114_1
                  replace hx114_2 := (HB.out.cell (World.block_lt_of_cell? w _ hx114_2)).trans hx114_2
                  replace hx114_3 := (HB.out.cell (World.block_lt_of_cell? w _ hx114_3)).trans hx114_3
                  replace hx114_4 := (HB.out.cell (World.block_lt_of_cell? w _ hx114_4)).trans hx114_4
                  replace p114 := eq_true p114
                  replace q114 := eq_true q114
                  have p115 : 0 ≤ (0 : Int) := (by omega)
                  have q115 : 0 < (l0.length : Int) := of_decide_eq_true (by first | (with_reducible assumption) | assumption)
                  obtain ⟨ad115, e115, hx115_0, hx115_1, hx115_2, hx115_3, hx115_4⟩ := at_T27 HR0.out 0 p115 q115
                  have hw115_4 := hx115_4
                  (try rw [show ((0 : Int)).toNat = 0 from rfl] at hw115_4)
                  (try rw [show 0 * 5 = 0 from rfl] at hw115_4)
                  (try rw [Addr.add_zero'] at hw115_4)
                  have hw115_3 := hx115_3
                  (try rw [show ((0 : Int)).toNat = 0 from rfl] at hw115_3)
                  (try rw [show 0 * 5 = 0 from rfl] at hw115_3)
                  (try rw [Addr.add_zero'] at hw115_3)
                  have hw115_2 := hx115_2
                  (try rw [show ((0 : Int)).toNat = 0 from rfl] at hw115_2)
                  (try rw [show 0 * 5 = 0 from rfl] at hw115_2)
                  (try rw [Addr.add_zero'] at hw115_2)
                  have hw115_1 := hx115_1
                  (try rw [show ((0 : Int)).toNat = 0 from rfl] at hw115_1)
                  (try rw [show 0 * 5 = 0 from rfl] at hw115_1)
                  (try rw [Addr.add_zero'] at hw115_1)
                  have hw115_0 := hx115_0
                  (try rw [show ((0 : Int)).toNat = 0 from rfl] at hw115_0)
                  (try rw [show 0 * 5 = 0 from rfl] at hw115_0)
                  (try rw [Addr.add_zero'] at hw115_0)
                  obtain rfl : ad103 = ad115 := (by injection e115)
                  have qi115 : (0 < l0.length) = True := eq_true (by omega)
                  (try rw [show ((0 : Int)).toNat = 0 from rfl] at hx115_0)
                  (try rw [show 0 * 5 = 0 from rfl] at hx115_0)
                  (try rw [Addr.add_zero'] at hx115_0)
                  (try rw [show ((0 : Int)).toNat = 0 from rfl] at hx115_1)
                  (try rw [show 0 * 5 = 0 from rfl] at hx115_1)
                  (try rw [Addr.add_zero'] at hx115_1)
                  (try rw [show ((0 : Int)).toNat = 0 from rfl] at hx115_2)
                  (try rw [show 0 * 5 = 0 from rfl] at hx115_2)
                  (try rw [Addr.add_zero'] at hx115_2)
                  (try rw [show ((0 : Int)).toNat = 0 from rfl] at hx115_3)
                  (try rw [show 0 * 5 = 0 from rfl] at hx115_3)
                  (try rw [Addr.add_zero'] at hx115_3)
                  (try rw [show ((0 : Int)).toNat = 0 from rfl] at hx115_4)
                  (try rw [show 0 * 5 = 0 from rfl] at hx115_4)
                  (try rw [Addr.add_zero'] at hx115_4)
                  replace hx115_0 := (HB.out.cell (World.block_lt_of_cell? w _ hx115_0)).trans hx115_0
                  replace hx115_1 := (HB.out.cell (World.block_lt_of_cell? w _ hx115_1)).trans hx115_1
                  replace hx115_2 := (HB.out.cell (World.block_lt_of_cell? w _ hx115_2)).trans hx115_2
                  replace hx115_3 := (HB.out.cell (World.block_lt_of_cell? w _ hx115_3)).trans hx115_3
                  replace hx115_4 := (HB.out.cell (World.block_lt_of_cell? w _ hx115_4)).trans hx115_4
                  replace p115 := eq_true p115
                  replace q115 := eq_true q115
                  have p116 : 0 ≤ (0 : Int) := (by omega)
                  have q116 : 0 < (l0.length : Int) := of_decide_eq_true (by first | (with_reducible assumption) | assumption)
                  obtain ⟨ad116, e116, hx116_0, hx116_1, hx116_2, hx116_3, hx116_4⟩ := at_T27 HR0.out 0 p116 q116
                  have hw116_4 := hx116_4
                  (try rw [show ((0 : Int)).toNat = 0 from rfl] at hw116_4)
                  (try rw [show 0 * 5 = 0 from rfl] at hw116_4)
                  (try rw [Addr.add_zero'] at hw116_4)
                  have hw116_3 := hx116_3
                  (try rw [show ((0 : Int)).toNat = 0 from rfl] at hw116_3)
                  (try rw [show 0 * 5 = 0 from rfl] at hw116_3)
                  (try rw [Addr.add_zero'] at hw116_3)
                  have hw116_2 := hx116_2
                  (try rw [show ((0 : Int)).toNat = 0 from rfl] at hw116_2)
                  (try rw [show 0 * 5 = 0 from rfl] at hw116_2)
                  (try rw [Addr.add_zero'] at hw116_2)
                  have hw116_1 := hx116_1
                  (try rw [show ((0 : Int)).toNat = 0 from rfl] at hw116_1)
                  (try rw [show 0 * 5 = 0 from rfl] at hw116_1)
                  (try rw [Addr.add_zero'] at hw116_1)
                  have hw116_0 := hx116_0
                  (try rw [show ((0 : Int)).toNat = 0 from rfl] at hw116_0)
                  (try rw [show 0 * 5 = 0 from rfl] at hw116_0)
                  (try rw [Addr.add_zero'] at hw116_0)
                  obtain rfl : ad103 = ad116 := (by injection e116)
                  have qi116 : (0 < l0.length) = True := eq_true (by omega)
                  (try rw [show ((0 : Int)).toNat = 0 from rfl] at hx116_0)
                  (try rw [show 0 * 5 = 0 from rfl] at hx116_0)
                  (try rw [Addr.add_zero'] at hx116_0)
                  (try rw [show ((0 : Int)).toNat = 0 from rfl] at hx116_1)
                  (try rw [show 0 * 5 = 0 from rfl] at hx116_1)
                  (try rw [Addr.add_zero'] at hx116_1)
                  (try rw [show ((0 : Int)).toNat = 0 from rfl] at hx116_2)
                  (try rw [show 0 * 5 = 0 from rfl] at hx116_2)
                  (try rw [Addr.add_zero'] at hx116_2)
                  (try rw [show ((0 : Int)).toNat = 0 from rfl] at hx116_3)
                  (try rw [show 0 * 5 = 0 from rfl] at hx116_3)
                  (try rw [Addr.add_zero'] at hx116_3)
                  (try rw [show ((0 : Int)).toNat = 0 from rfl] at hx116_4)
                  (try rw [show 0 * 5 = 0 from rfl] at hx116_4)
                  (try rw [Addr.add_zero'] at hx116_4)
                  replace hx116_0 := (HB.out.cell (World.block_lt_of_cell? w _ hx116_0)).trans hx116_0
                  replace hx116_1 := (HB.out.cell (World.block_lt_of_cell? w _ hx116_1)).trans hx116_1
                  replace hx116_2 := (HB.out.cell (World.block_lt_of_cell? w _ hx116_2)).trans hx116_2
                  replace hx116_3 := (HB.out.cell (World.block_lt_of_cell? w _ hx116_3)).trans hx116_3
                  replace hx116_4 := (HB.out.cell (World.block_lt_of_cell? w _ hx116_4)).trans hx116_4
                  replace p116 := eq_true p116
                  replace q116 := eq_true q116
                  have p117 : 0 ≤ (0 : Int) := (by omega)
                  have q117 : 0 < (l0.length : Int) := of_decide_eq_true (by first | (with_reducible assumption) | assumption)
                  obtain ⟨ad117, e117, hx117_0, hx117_1, hx117_2, hx117_3, hx117_4⟩ := at_T27 HR0.out 0 p117 q117
                  have hw117_4 := hx117_4
                  (try rw [show ((0 : Int)).toNat = 0 from rfl] at hw117_4)
                  (try rw [show 0 * 5 = 0 from rfl] at hw117_4)
                  (try rw [Addr.add_zero'] at hw117_4)
                  have hw117_3 := hx117_3
                  (try rw [show ((0 : Int)).toNat = 0 from rfl] at hw117_3)
                  (try rw [show 0 * 5 = 0 from rfl] at hw117_3)
                  (try rw [Addr.add_zero'] at hw117_3)
                  have hw117_2 := hx117_2
                  (try rw [show ((0 : Int)).toNat = 0 from rfl] at hw117_2)
                  (try rw [show 0 * 5 = 0 from rfl] at hw117_2)
                  (try rw [Addr.add_zero'] at hw117_2)
                  have hw117_1 := hx117_1
                  (try rw [show ((0 : Int)).toNat = 0 from rfl] at hw117_1)
                  (try rw [show 0 * 5 = 0 from rfl] at hw117_1)
                  (try rw [Addr.add_zero'] at hw117_1)
                  have hw117_0 := hx117_0
                  (try rw [show ((0 : Int)).toNat = 0 from rfl] at hw117_0)
                  (try rw [show 0 * 5 = 0 from rfl] at hw117_0)
                  (try rw [Addr.add_zero'] at hw117_0)
                  obtain rfl : ad103 = ad117 := (by injection e117)
                  have qi117 : (0 < l0.length) = True := eq_true (by omega)
                  (try rw [show ((0 : Int)).toNat = 0 from rfl] at hx117_0)
                  (try rw [show 0 * 5 = 0 from rfl] at hx117_0)
                  (try rw [Addr.add_zero'] at hx117_0)
                  (try rw [show ((0 : Int)).toNat = 0 from rfl] at hx117_1)
                  (try rw [show 0 * 5 = 0 from rfl] at hx117_1)
                  (try rw [Addr.add_zero'] at hx117_1)
                  (try rw [show ((0 : Int)).toNat = 0 from rfl] at hx117_2)
                  (try rw [show 0 * 5 = 0 from rfl] at hx117_2)
                  (try rw [Addr.add_zero'] at hx117_2)
                  (try rw [show ((0 : Int)).toNat = 0 from rfl] at hx117_3)
                  (try rw [show 0 * 5 = 0 from rfl] at hx117_3)
                  (try rw [Addr.add_zero'] at hx117_3)
                  (try rw [show ((0 : Int)).toNat = 0 from rfl] at hx117_4)
                  (try rw [show 0 * 5 = 0 from rfl] at hx117_4)
                  (try rw [Addr.add_zero'] at hx117_4)
                  replace hx117_0 := (HB.out.cell (World.block_lt_of_cell? w _ hx117_0)).trans hx117_0
                  replace hx117_1 := (HB.out.cell (World.block_lt_of_cell? w _ hx117_1)).trans hx117_1
                  replace hx117_2 := (HB.out.cell (World.block_lt_of_cell? w _ hx117_2)).trans hx117_2
                  replace hx117_3 := (HB.out.cell (World.block_lt_of_cell? w _ hx117_3)).trans hx117_3
                  replace hx117_4 := (HB.out.cell (World.block_lt_of_cell? w _ hx117_4)).trans hx117_4
                  replace p117 := eq_true p117
                  replace q117 := eq_true q117
                  have p118 : 0 ≤ (0 : Int) := (by omega)
                  have q118 : 0 < (l0.length : Int) := of_decide_eq_true (by first | (with_reducible assumption) | assumption)
                  obtain ⟨ad118, e118, hx118_0, hx118_1, hx118_2, hx118_3, hx118_4⟩ := at_T27 HR0.out 0 p118 q118
                  have hw118_4 := hx118_4
                  (try rw [show ((0 : Int)).toNat = 0 from rfl] at hw118_4)
                  (try rw [show 0 * 5 = 0 from rfl] at hw118_4)
                  (try rw [Addr.add_zero'] at hw118_4)
                  have hw118_3 := hx118_3
                  (try rw [show ((0 : Int)).toNat = 0 from rfl] at hw118_3)
                  (try rw [show 0 * 5 = 0 from rfl] at hw118_3)
                  (try rw [Addr.add_zero'] at hw118_3)
                  have hw118_2 := hx118_2
                  (try rw [show ((0 : Int)).toNat = 0 from rfl] at hw118_2)
                  (try rw [show 0 * 5 = 0 from rfl] at hw118_2)
                  (try rw [Addr.add_zero'] at hw118_2)
                  have hw118_1 := hx118_1
                  (try rw [show ((0 : Int)).toNat = 0 from rfl] at hw118_1)
                  (try rw [show 0 * 5 = 0 from rfl] at hw118_1)
                  (try rw [Addr.add_zero'] at hw118_1)
                  have hw118_0 := hx118_0
                  (try rw [show ((0 : Int)).toNat = 0 from rfl] at hw118_0)
                  (try rw [show 0 * 5 = 0 from rfl] at hw118_0)
                  (try rw [Addr.add_zero'] at hw118_0)
                  obtain rfl : ad103 = ad118 := (by injection e118)
                  have qi118 : (0 < l0.length) = True := eq_true (by omega)
                  (try rw [show ((0 : Int)).toNat = 0 from rfl] at hx118_0)
                  (try rw [show 0 * 5 = 0 from rfl] at hx118_0)
                  (try rw [Addr.add_zero'] at hx118_0)
                  (try rw [show ((0 : Int)).toNat = 0 from rfl] at hx118_1)
                  (try rw [show 0 * 5 = 0 from rfl] at hx118_1)
                  (try rw [Addr.add_zero'] at hx118_1)
                  (try rw [show ((0 : Int)).toNat = 0 from rfl] at hx118_2)
                  (try rw [show 0 * 5 = 0 from rfl] at hx118_2)
                  (try rw [Addr.add_zero'] at hx118_2)
                  (try rw [show ((0 : Int)).toNat = 0 from rfl] at hx118_3)
                  (try rw [show 0 * 5 = 0 from rfl] at hx118_3)
                  (try rw [Addr.add_zero'] at hx118_3)
                  (try rw [show ((0 : Int)).toNat = 0 from rfl] at hx118_4)
                  (try rw [show 0 * 5 = 0 from rfl] at hx118_4)
                  (try rw [Addr.add_zero'] at hx118_4)
                  replace hx118_0 := (HB.out.cell (World.block_lt_of_cell? w _ hx118_0)).trans hx118_0
                  replace hx118_1 := (HB.out.cell (World.block_lt_of_cell? w _ hx118_1)).trans hx118_1
                  replace hx118_2 := (HB.out.cell (World.block_lt_of_cell? w _ hx118_2)).trans hx118_2
                  replace hx118_3 := (HB.out.cell (World.block_lt_of_cell? w _ hx118_3)).trans hx118_3
                  replace hx118_4 := (HB.out.cell (World.block_lt_of_cell? w _ hx118_4)).trans hx118_4
                  replace p118 := eq_true p118
                  replace q118 := eq_true q118
                  refine start_ (n := 60) (S := fun w' => w'.cell? ad103 = some (.float .f32 ((rd_T27 l0 0).f0)) ∧ w'.cell? ⟨ad103.block, ad103.off + 1, none⟩ = some (.float .f32 ((rd_T27 l0 0).f1)) ∧ w'.cell? ⟨ad103.block, ad103.off + 2, none⟩ = some (.float .f32 ((rd_T27 l0 0).f2)) ∧ w'.cell? ⟨ad103.block, ad103.off + 3, none⟩ = some (.float .f32 ((rd_T27 l0 0).f3)) ∧ w'.cell? ⟨ad103.block, ad103.off + 4, none⟩ = some (.float .f32 ((rd_T27 l0 0).f4)) ∧ w'.cell? ad103 = some (.float .f32 ((rd_T27 l0 0).f0)) ∧ w'.cell? ⟨ad103.block, ad103.off + 1, none⟩ = some (.float .f32 ((rd_T27 l0 0).f1)) ∧ w'.cell? ⟨ad103.block, ad103.off + 2, none⟩ = some (.float .f32 ((rd_T27 l0 0).f2)) ∧ w'.cell? ⟨ad103.block, ad103.off + 3, none⟩ = some (.float .f32 ((rd_T27 l0 0).f3)) ∧ w'.cell? ⟨ad103.block, ad103.off + 4, none⟩ = some (.float .f32 ((rd_T27 l0 0).f4)) ∧ w'.cell? ad103 = some (.float .f32 ((rd_T27 l0 0).f0)) ∧ w'.cell? ⟨ad103.block, ad103.off + 1, none⟩ = some (.float .f32 ((rd_T27 l0 0).f1)) ∧ w'.cell? ⟨ad103.block, ad103.off + 2, none⟩ = some (.float .f32 ((rd_T27 l0 0).f2)) ∧ w'.cell? ⟨ad103.block, ad103.off + 3, none⟩ = some (.float .f32 ((rd_T27 l0 0).f3)) ∧ w'.cell? ⟨ad103.block, ad103.off + 4, none⟩ = some (.float .f32 ((rd_T27 l0 0).f4)) ∧ w'.cell? ad103 = some (.float .f32 ((rd_T27 l0 0).f0)) ∧ w'.cell? ⟨ad103.block, ad103.off + 1, none⟩ = some (.float .f32 ((rd_T27 l0 0).f1)) ∧ w'.cell? ⟨ad103.block, ad103.off + 2, none⟩ = some (.float .f32 ((rd_T27 l0 0).f2)) ∧ w'.cell? ⟨ad103.block, ad103.off + 3, none⟩ = some (.float .f32 ((rd_T27 l0 0).f3)) ∧ w'.cell? ⟨ad103.block, ad103.off + 4, none⟩ = some (.float .f32 ((rd_T27 l0 0).f4)) ∧ w'.cell? ad103 = some (.float .f32 ((rd_T27 l0 0).f0)) ∧ w'.cell? ⟨ad103.block, ad103.off + 1, none⟩ = some (.float .f32 ((rd_T27 l0 0).f1)) ∧ w'.cell? ⟨ad103.block, ad103.off + 2, none⟩ = some (.float .f32 ((rd_T27 l0 0).f2)) ∧ w'.cell? ⟨ad103.block, ad103.off + 3, none⟩ = some (.float .f32 ((rd_T27 l0 0).f3)) ∧ w'.cell? ⟨ad103.block, ad103.off + 4, none⟩ = some (.float .f32 ((rd_T27 l0 0).f4)) ∧ w'.cell? ad103 = some (.float .f32 ((rd_T27 l0 0).f0)) ∧ w'.cell? ⟨ad103.block, ad103.off + 1, none⟩ = some (.float .f32 ((rd_T27 l0 0).f1)) ∧ w'.cell? ⟨ad103.block, ad103.off + 2, none⟩ = some (.float .f32 ((rd_T27 l0 0).f2)) ∧ w'.cell? ⟨ad103.block, ad103.off + 3, none⟩ = some (.float .f32 ((rd_T27 l0 0).f3)) ∧ w'.cell? ⟨ad103.block, ad103.off + 4, none⟩ = some (.float .f32 ((rd_T27 l0 0).f4)) ∧ w'.cell? ad103 = some (.float .f32 ((rd_T27 l0 0).f0)) ∧ w'.cell? ⟨ad103.block, ad103.off + 1, none⟩ = some (.float .f32 ((rd_T27 l0 0).f1)) ∧ w'.cell? ⟨ad103.block, ad103.off + 2, none⟩ = some (.float .f32 ((rd_T27 l0 0).f2)) ∧ w'.cell? ⟨ad103.block, ad103.off + 3, none⟩ = some (.float .f32 ((rd_T27 l0 0).f3)) ∧ w'.cell? ⟨ad103.block, ad103.off + 4, none⟩ = some (.float .f32 ((rd_T27 l0 0).f4)) ∧ w'.cell? ad103 = some (.float .f32 ((rd_T27 l0 0).f0)) ∧ w'.cell? ⟨ad103.block, ad103.off + 1, none⟩ = some (.float .f32 ((rd_T27 l0 0).f1)) ∧ w'.cell? ⟨ad103.block, ad103.off + 2, none⟩ = some (.float .f32 ((rd_T27 l0 0).f2)) ∧ w'.cell? ⟨ad103.block, ad103.off + 3, none⟩ = some (.float .f32 ((rd_T27 l0 0).f3)) ∧ w'.cell? ⟨ad103.block, ad103.off + 4, none⟩ = some (.float .f32 ((rd_T27 l0 0).f4)) ∧ w'.cell? ad103 = some (.float .f32 ((rd_T27 l0 0).f0)) ∧ w'.cell? ⟨ad103.block, ad103.off + 1, none⟩ = some (.float .f32 ((rd_T27 l0 0).f1)) ∧ w'.cell? ⟨ad103.block, ad103.off + 2, none⟩ = some (.float .f32 ((rd_T27 l0 0).f2)) ∧ w'.cell? ⟨ad103.block, ad103.off + 3, none⟩ = some (.float .f32 ((rd_T27 l0 0).f3)) ∧ w'.cell? ⟨ad103.block, ad103.off + 4, none⟩ = some (.float .f32 ((rd_T27 l0 0).f4)) ∧ w'.cell? ad103 = some (.float .f32 ((rd_T27 l0 0).f0)) ∧ w'.cell? ⟨ad103.block, ad103.off + 1, none⟩ = some (.float .f32 ((rd_T27 l0 0).f1)) ∧ w'.cell? ⟨ad103.block, ad103.off + 2, none⟩ = some (.float .f32 ((rd_T27 l0 0).f2)) ∧ w'.cell? ⟨ad103.block, ad103.off + 3, none⟩ = some (.float .f32 ((rd_T27 l0 0).f3)) ∧ w'.cell? ⟨ad103.block, ad103.off + 4, none⟩ = some (.float .f32 ((rd_T27 l0 0).f4)) ∧ w'.cell? ad103 = some (.float .f32 ((rd_T27 l0 0).f0)) ∧ w'.cell? ⟨ad103.block, ad103.off + 1, none⟩ = some (.float .f32 ((rd_T27 l0 0).f1)) ∧ w'.cell? ⟨ad103.block, ad103.off + 2, none⟩ = some (.float .f32 ((rd_T27 l0 0).f2)) ∧ w'.cell? ⟨ad103.block, ad103.off + 3, none⟩ = some (.float .f32 ((rd_T27 l0 0).f3)) ∧ w'.cell? ⟨ad103.block, ad103.off + 4, none⟩ = some (.float .f32 ((rd_T27 l0 0).f4)) ∧ w'.cell? ad103 = some (.float .f32 ((rd_T27 l0 0).f0)) ∧ w'.cell? ⟨ad103.block, ad103.off + 1, none⟩ = some (.float .f32 ((rd_T27 l0 0).f1)) ∧ w'.cell? ⟨ad103.block, ad103.off + 2, none⟩ = some (.float .f32 ((rd_T27 l0 0).f2)) ∧ w'.cell? ⟨ad103.block, ad103.off + 3, none⟩ = some (.float .f32 ((rd_T27 l0 0).f3)) ∧ w'.cell? ⟨ad103.block, ad103.off + 4, none⟩ = some (.float .f32 ((rd_T27 l0 0).f4)) ∧ w'.cell? ad103 = some (.float .f32 ((rd_T27 l0 0).f0)) ∧ w'.cell? ⟨ad103.block, ad103.off + 1, none⟩ = some (.float .f32 ((rd_T27 l0 0).f1)) ∧ w'.cell? ⟨ad103.block, ad103.off + 2, none⟩ = some (.float .f32 ((rd_T27 l0 0).f2)) ∧ w'.cell? ⟨ad103.block, ad103.off + 3, none⟩ = some (.float .f32 ((rd_T27 l0 0).f3)) ∧ w'.cell? ⟨ad103.block, ad103.off + 4, none⟩ = some (.float .f32 ((rd_T27 l0 0).f4)) ∧ w'.cell? ad103 = some (.float .f32 ((rd_T27 l0 0).f0)) ∧ w'.cell? ⟨ad103.block, ad103.off + 1, none⟩ = some (.float .f32 ((rd_T27 l0 0).f1)) ∧ w'.cell? ⟨ad103.block, ad103.off + 2, none⟩ = some (.float .f32 ((rd_T27 l0 0).f2)) ∧ w'.cell? ⟨ad103.block, ad103.off + 3, none⟩ = some (.float .f32 ((rd_T27 l0 0).f3)) ∧ w'.cell? ⟨ad103.block, ad103.off + 4, none⟩ = some (.float .f32 ((rd_T27 l0 0).f4))) (ds := []) spec_l03Throat.z0 (by kernel_rfl) rfl rfl ⟨(cu HB.out hw103_0), (cu HB.out hw103_1), (cu HB.out hw103_2), (cu HB.out hw103_3), (cu HB.out hw103_4), (cu HB.out hw104_0), (cu HB.out hw104_1), (cu HB.out hw104_2), (cu HB.out hw104_3), (cu HB.out hw104_4), (cu HB.out hw105_0), (cu HB.out hw105_1), (cu HB.out hw105_2), (cu HB.out hw105_3), (cu HB.out hw105_4), (cu HB.out hw106_0), (cu HB.out hw106_1), (cu HB.out hw106_2), (cu HB.out hw106_3), (cu HB.out hw106_4), (cu HB.out hw107_0), (cu HB.out hw107_1), (cu HB.out hw107_2), (cu HB.out hw107_3), (cu HB.out hw107_4), (cu HB.out hw108_0), (cu HB.out hw108_1), (cu HB.out hw108_2), (cu HB.out hw108_3), (cu HB.out hw108_4), (cu HB.out hw110_0), (cu HB.out hw110_1), (cu HB.out hw110_2), (cu HB.out hw110_3), (cu HB.out hw110_4), (cu HB.out hw111_0), (cu HB.out hw111_1), (cu HB.out hw111_2), (cu HB.out hw111_3), (cu HB.out hw111_4), (cu HB.out hw113_0), (cu HB.out hw113_1), (cu HB.out hw113_2), (cu HB.out hw113_3), (cu HB.out hw113_4), (cu HB.out hw114_0), (cu HB.out hw114_1), (cu HB.out hw114_2), (cu HB.out hw114_3), (cu HB.out hw114_4), (cu HB.out hw115_0), (cu HB.out hw115_1), (cu HB.out hw115_2), (cu HB.out hw115_3), (cu HB.out hw115_4), (cu HB.out hw116_0), (cu HB.out hw116_1), (cu HB.out hw116_2), (cu HB.out hw116_3), (cu HB.out hw116_4), (cu HB.out hw117_0), (cu HB.out hw117_1), (cu HB.out hw117_2), (cu HB.out hw117_3), (cu HB.out hw117_4), (cu HB.out hw118_0), (cu HB.out hw118_1), (cu HB.out hw118_2), (cu HB.out hw118_3), (cu HB.out hw118_4)⟩ (fun hHeld => ?_); refine with_tabW spec_l03Throat.tab1 spec_l03Throat.bits1 (fun HT_ HW_ => ?_)
                  generalize w.drew = w16 at HB hx103_0 hx103_1 hx103_2 hx103_3 hx103_4 hx104_0 hx104_1 hx104_2 hx104_3 hx104_4 hx105_0 hx105_1 hx105_2 hx105_3 hx105_4 hx106_0 hx106_1 hx106_2 hx106_3 hx106_4 hx107_0 hx107_1 hx107_2 hx107_3 hx107_4 hx108_0 hx108_1 hx108_2 hx108_3 hx108_4 hx110_0 hx110_1 hx110_2 hx110_3 hx110_4 hx111_0 hx111_1 hx111_2 hx111_3 hx111_4 hx113_0 hx113_1 hx113_2 hx113_3 hx113_4 hx114_0 hx114_1 hx114_2 hx114_3 hx114_4 hx115_0 hx115_1 hx115_2 hx115_3 hx115_4 hx116_0 hx116_1 hx116_2 hx116_3 hx116_4 hx117_0 hx117_1 hx117_2 hx117_3 hx117_4 hx118_0 hx118_1 hx118_2 hx118_3 hx118_4 hHeld ⊢
                  refine pure_ (i := 0) (N := some 3) (v := ?_) (a' := ?_) spec_l03Throat.z1 rfl rfl (any_of HT_.out (by kernel_rfl)) (fun _ _ _ h => h) (Or.inl ⟨by rfl, ?_⟩) ?_ ?_
                  rotate_left
                  · intro w'
                    go_simp
                    with_reducible rfl
                  rotate_left
                  · simp only [Act.put, List.setIfInBounds_toArray, List.set_cons_zero, List.set_cons_succ, i64_w, i32_w]
                    rfl
                  refine pure_ (i := 1) (N := some 4) (v := ?_) (a' := ?_) spec_l03Throat.z2 rfl rfl (any_of HT_.out (by kernel_rfl)) (fun _ _ _ h => h) (Or.inl ⟨by rfl, ?_⟩) ?_ ?_
                  rotate_left
                  · intro w'
                    go_simp
                    with_reducible rfl
                  rotate_left
                  · simp only [Act.put, List.setIfInBounds_toArray, List.set_cons_zero, List.set_cons_succ, i64_w, i32_w]
                    rfl
                  refine pure_ (i := 2) (N := some 5) (v := ?_) (a' := ?_) spec_l03Throat.z3 rfl rfl (any_of HT_.out (by kernel_rfl)) (fun _ _ _ h => h) (Or.inl ⟨by rfl, ?_⟩) ?_ ?_
                  rotate_left
                  · intro w'
                    go_simp
                    with_reducible rfl
                  rotate_left
                  · simp only [Act.put, List.setIfInBounds_toArray, List.set_cons_zero, List.set_cons_succ, i64_w, i32_w]
                    rfl
                  refine take_ (i := 3) (N := some 6) (v := ?_) (a' := ?_) spec_l03Throat.z4 rfl rfl (take_ofW HT_.out HW_.out (by kernel_rfl)) (fun _ _ _ h => h) (Or.inl ⟨by rfl, ?_⟩) hHeld ?_ ?_
                  rotate_left
                  · rintro w' ⟨s0, s1, s2, s3, s4, s5, s6, s7, s8, s9, s10, s11, s12, s13, s14, s15, s16, s17, s18, s19, s20, s21, s22, s23, s24, s25, s26, s27, s28, s29, s30, s31, s32, s33, s34, s35, s36, s37, s38, s39, s40, s41, s42, s43, s44, s45, s46, s47, s48, s49, s50, s51, s52, s53, s54, s55, s56, s57, s58, s59, s60, s61, s62, s63, s64, s65, s66, s67, s68, s69⟩
                    go_simp
                    with_reducible rfl
                  rotate_left
                  · simp only [Act.put, List.setIfInBounds_toArray, List.set_cons_zero, List.set_cons_succ, i64_w, i32_w]
                    rfl
                  refine pure_ (i := 4) (N := some 7) (v := ?_) (a' := ?_) spec_l03Throat.z5 rfl rfl (any_of HT_.out (by kernel_rfl)) (fun _ _ _ h => h) (Or.inl ⟨by rfl, ?_⟩) ?_ ?_
                  rotate_left
                  · intro w'
                    go_simp
                    with_reducible rfl
                  rotate_left
                  · simp only [Act.put, List.setIfInBounds_toArray, List.set_cons_zero, List.set_cons_succ, i64_w, i32_w]
                    rfl
                  refine pure_ (i := 5) (N := some 8) (v := ?_) (a' := ?_) spec_l03Throat.z6 rfl rfl (any_of HT_.out (by kernel_rfl)) (fun _ _ _ h => h) (Or.inl ⟨by rfl, ?_⟩) ?_ ?_
                  rotate_left
                  · intro w'
                    go_simp
                    with_reducible rfl
                  rotate_left
                  · simp only [Act.put, List.setIfInBounds_toArray, List.set_cons_zero, List.set_cons_succ, i64_w, i32_w]
                    rfl
                  refine pure_ (i := 6) (N := some 9) (v := ?_) (a' := ?_) spec_l03Throat.z7 rfl rfl (any_of HT_.out (by kernel_rfl)) (fun _ _ _ h => h) (Or.inl ⟨by rfl, ?_⟩) ?_ ?_
                  rotate_left
                  · intro w'
                    go_simp
                    with_reducible rfl
                  rotate_left
                  · simp only [Act.put, List.setIfInBounds_toArray, List.set_cons_zero, List.set_cons_succ, i64_w, i32_w]
                    rfl
                  refine pure_ (i := 7) (N := some 10) (v := ?_) (a' := ?_) spec_l03Throat.z8 rfl rfl (any_of HT_.out (by kernel_rfl)) (fun _ _ _ h => h) (Or.inl ⟨by rfl, ?_⟩) ?_ ?_
                  rotate_left
                  · intro w'
                    go_simp
                    with_reducible rfl
                  rotate_left
                  · simp only [Act.put, List.setIfInBounds_toArray, List.set_cons_zero, List.set_cons_succ, i64_w, i32_w]
                    rfl
                  refine pure_ (i := 8) (N := some 11) (v := ?_) (a' := ?_) spec_l03Throat.z9 rfl rfl (any_of HT_.out (by kernel_rfl)) (fun _ _ _ h => h) (Or.inl ⟨by rfl, ?_⟩) ?_ ?_
                  rotate_left
                  · intro w'
                    go_simp
                    with_reducible rfl
                  rotate_left
                  · simp only [Act.put, List.setIfInBounds_toArray, List.set_cons_zero, List.set_cons_succ, i64_w, i32_w]
                    rfl
                  refine take_ (i := 9) (N := some 12) (v := ?_) (a' := ?_) spec_l03Throat.z10 rfl rfl (take_ofW HT_.out HW_.out (by kernel_rfl)) (fun _ _ _ h => h) (Or.inl ⟨by rfl, ?_⟩) hHeld ?_ ?_
                  rotate_left
                  · rintro w' ⟨s0, s1, s2, s3, s4, s5, s6, s7, s8, s9, s10, s11, s12, s13, s14, s15, s16, s17, s18, s19, s20, s21, s22, s23, s24, s25, s26, s27, s28, s29, s30, s31, s32, s33, s34, s35, s36, s37, s38, s39, s40, s41, s42, s43, s44, s45, s46, s47, s48, s49, s50, s51, s52, s53, s54, s55, s56, s57, s58, s59, s60, s61, s62, s63, s64, s65, s66, s67, s68, s69⟩
                    go_simp
                    with_reducible rfl
                  rotate_left
                  · simp only [Act.put, List.setIfInBounds_toArray, List.set_cons_zero, List.set_cons_succ, i64_w, i32_w]
                    rfl
                  refine pure_ (i := 10) (N := some 13) (v := ?_) (a' := ?_) spec_l03Throat.z11 rfl rfl (any_of HT_.out (by kernel_rfl)) (fun _ _ _ h => h) (Or.inl ⟨by rfl, ?_⟩) ?_ ?_
                  rotate_left
                  · intro w'
                    go_simp
                    with_reducible rfl
                  rotate_left
                  · simp only [Act.put, List.setIfInBounds_toArray, List.set_cons_zero, List.set_cons_succ, i64_w, i32_w]
                    rfl
                  refine pure_ (i := 11) (N := some 14) (v := ?_) (a' := ?_) spec_l03Throat.z12 rfl rfl (any_of HT_.out (by kernel_rfl)) (fun _ _ _ h => h) (Or.inl ⟨by rfl, ?_⟩) ?_ ?_
                  rotate_left
                  · intro w'
                    go_simp
                    with_reducible rfl
                  rotate_left
                  · simp only [Act.put, List.setIfInBounds_toArray, List.set_cons_zero, List.set_cons_succ, i64_w, i32_w]
                    rfl
                  refine pure_ (i := 12) (N := some 15) (v := ?_) (a' := ?_) spec_l03Throat.z13 rfl rfl (any_of HT_.out (by kernel_rfl)) (fun _ _ _ h => h) (Or.inl ⟨by rfl, ?_⟩) ?_ ?_
                  rotate_left
                  · intro w'
                    go_simp
                    with_reducible rfl
                  rotate_left
                  · simp only [Act.put, List.setIfInBounds_toArray, List.set_cons_zero, List.set_cons_succ, i64_w, i32_w]
                    rfl
                  refine pure_ (i := 13) (N := some 16) (v := ?_) (a' := ?_) spec_l03Throat.z14 rfl rfl (any_of HT_.out (by kernel_rfl)) (fun _ _ _ h => h) (Or.inl ⟨by rfl, ?_⟩) ?_ ?_
                  rotate_left
                  · intro w'
                    go_simp
                    with_reducible rfl
                  rotate_left
                  · simp only [Act.put, List.setIfInBounds_toArray, List.set_cons_zero, List.set_cons_succ, i64_w, i32_w]
                    rfl
                  refine pure_ (i := 14) (N := some 17) (v := ?_) (a' := ?_) spec_l03Throat.z15 rfl rfl (any_of HT_.out (by kernel_rfl)) (fun _ _ _ h => h) (Or.inl ⟨by rfl, ?_⟩) ?_ ?_
                  rotate_left
                  · intro w'
                    go_simp
                    with_reducible rfl
                  rotate_left
                  · simp only [Act.put, List.setIfInBounds_toArray, List.set_cons_zero, List.set_cons_succ, i64_w, i32_w]
                    rfl
                  refine pure_ (i := 15) (N := some 18) (v := ?_) (a' := ?_) spec_l03Throat.z16 rfl rfl (any_of HT_.out (by kernel_rfl)) (fun _ _ _ h => h) (Or.inl ⟨by rfl, ?_⟩) ?_ ?_
                  rotate_left
                  · intro w'
                    go_simp
                    with_reducible rfl
                  rotate_left
                  · simp only [Act.put, List.setIfInBounds_toArray, List.set_cons_zero, List.set_cons_succ, i64_w, i32_w]
                    rfl
                  refine take_ (i := 16) (N := some 19) (v := ?_) (a' := ?_) spec_l03Throat.z17 rfl rfl (take_ofW HT_.out HW_.out (by kernel_rfl)) (fun _ _ _ h => h) (Or.inl ⟨by rfl, ?_⟩) hHeld ?_ ?_
                  rotate_left
                  · rintro w' ⟨s0, s1, s2, s3, s4, s5, s6, s7, s8, s9, s10, s11, s12, s13, s14, s15, s16, s17, s18, s19, s20, s21, s22, s23, s24, s25, s26, s27, s28, s29, s30, s31, s32, s33, s34, s35, s36, s37, s38, s39, s40, s41, s42, s43, s44, s45, s46, s47, s48, s49, s50, s51, s52, s53, s54, s55, s56, s57, s58, s59, s60, s61, s62, s63, s64, s65, s66, s67, s68, s69⟩
                    go_simp
                    with_reducible rfl
                  rotate_left
                  · simp only [Act.put, List.setIfInBounds_toArray, List.set_cons_zero, List.set_cons_succ, i64_w, i32_w]
                    rfl
                  refine one_ (i := 17) (N := some 20) spec_l03Throat.z18 rfl rfl (one_of HT_.out (by kernel_rfl)) (by decide) (fun K hK => ?_)
                  refine goes_ Tryd.func105 (by kernel_rfl) rfl #[.float .f32 ((rd_T27 l0 0).f1)] (by rfl) rfl rfl (by (try simp only [List.map_toArray, List.map_cons, List.map_nil]); first | done | rfl | (simp only [List.length_drop, List.length_take]; rfl)) ?_
                  with_reducible refine (spec_l02Above.calls ((rd_T27 l0 0).f1) true _ A5.out).mono ?_
                  rintro e w' ⟨rfl, ⟨nd, rfl⟩⟩
                  refine ⟨_, rfl, ?_⟩
                  refine hK.out _ _ ⟨(cv HB.out hw103_0), (cv HB.out hw103_1), (cv HB.out hw103_2), (cv HB.out hw103_3), (cv HB.out hw103_4), (cv HB.out hw104_0), (cv HB.out hw104_1), (cv HB.out hw104_2), (cv HB.out hw104_3), (cv HB.out hw104_4), (cv HB.out hw105_0), (cv HB.out hw105_1), (cv HB.out hw105_2), (cv HB.out hw105_3), (cv HB.out hw105_4), (cv HB.out hw106_0), (cv HB.out hw106_1), (cv HB.out hw106_2), (cv HB.out hw106_3), (cv HB.out hw106_4), (cv HB.out hw107_0), (cv HB.out hw107_1), (cv HB.out hw107_2), (cv HB.out hw107_3), (cv HB.out hw107_4), (cv HB.out hw108_0), (cv HB.out hw108_1), (cv HB.out hw108_2), (cv HB.out hw108_3), (cv HB.out hw108_4), (cv HB.out hw110_0), (cv HB.out hw110_1), (cv HB.out hw110_2), (cv HB.out hw110_3), (cv HB.out hw110_4), (cv HB.out hw111_0), (cv HB.out hw111_1), (cv HB.out hw111_2), (cv HB.out hw111_3), (cv HB.out hw111_4), (cv HB.out hw113_0), (cv HB.out hw113_1), (cv HB.out hw113_2), (cv HB.out hw113_3), (cv HB.out hw113_4), (cv HB.out hw114_0), (cv HB.out hw114_1), (cv HB.out hw114_2), (cv HB.out hw114_3), (cv HB.out hw114_4), (cv HB.out hw115_0), (cv HB.out hw115_1), (cv HB.out hw115_2), (cv HB.out hw115_3), (cv HB.out hw115_4), (cv HB.out hw116_0), (cv HB.out hw116_1), (cv HB.out hw116_2), (cv HB.out hw116_3), (cv HB.out hw116_4), (cv HB.out hw117_0), (cv HB.out hw117_1), (cv HB.out hw117_2), (cv HB.out hw117_3), (cv HB.out hw117_4), (cv HB.out hw118_0), (cv HB.out hw118_1), (cv HB.out hw118_2), (cv HB.out hw118_3), (cv HB.out hw118_4)⟩ (fun hHeld => ?_)
                  clear hK K
                  refine norm_ (a' := ?_) ?_ ?_
                  rotate_left
                  · show Act.put _ (some 20) _ = _
                    simp only [Act.put, List.setIfInBounds_toArray, List.set_cons_zero, List.set_cons_succ, i64_w, i32_w]
                    rfl
                  refine pure_ (i := 18) (N := some 21) (v := ?_) (a' := ?_) spec_l03Throat.z19 rfl rfl (any_of HT_.out (by kernel_rfl)) (fun _ _ _ h => h) (Or.inl ⟨by rfl, ?_⟩) ?_ ?_
                  rotate_left
                  · intro w'
                    go_simp
                    with_reducible rfl
                  rotate_left
                  · simp only [Act.put, List.setIfInBounds_toArray, List.set_cons_zero, List.set_cons_succ, i64_w, i32_w]
                    rfl
                  refine pure_ (i := 19) (N := some 22) (v := ?_) (a' := ?_) spec_l03Throat.z20 rfl rfl (any_of HT_.out (by kernel_rfl)) (fun _ _ _ h => h) (Or.inl ⟨by rfl, ?_⟩) ?_ ?_
                  rotate_left
                  · intro w'
                    go_simp
                    with_reducible rfl
                  rotate_left
                  · simp only [Act.put, List.setIfInBounds_toArray, List.set_cons_zero, List.set_cons_succ, i64_w, i32_w]
                    rfl
                  refine pure_ (i := 20) (N := some 23) (v := ?_) (a' := ?_) spec_l03Throat.z21 rfl rfl (any_of HT_.out (by kernel_rfl)) (fun _ _ _ h => h) (Or.inl ⟨by rfl, ?_⟩) ?_ ?_
                  rotate_left
                  · intro w'
                    go_simp
                    with_reducible rfl
                  rotate_left
                  · simp only [Act.put, List.setIfInBounds_toArray, List.set_cons_zero, List.set_cons_succ, i64_w, i32_w]
                    rfl
                  refine pure_ (i := 21) (N := some 24) (v := ?_) (a' := ?_) spec_l03Throat.z22 rfl rfl (any_of HT_.out (by kernel_rfl)) (fun _ _ _ h => h) (Or.inl ⟨by rfl, ?_⟩) ?_ ?_
                  rotate_left
                  · intro w'
                    go_simp
                    with_reducible rfl
                  rotate_left
                  · simp only [Act.put, List.setIfInBounds_toArray, List.set_cons_zero, List.set_cons_succ, i64_w, i32_w]
                    rfl
                  refine pure_ (i := 22) (N := some 25) (v := ?_) (a' := ?_) spec_l03Throat.z23 rfl rfl (any_of HT_.out (by kernel_rfl)) (fun _ _ _ h => h) (Or.inl ⟨by rfl, ?_⟩) ?_ ?_
                  rotate_left
                  · intro w'
                    go_simp
                    with_reducible rfl
                  rotate_left
                  · simp only [Act.put, List.setIfInBounds_toArray, List.set_cons_zero, List.set_cons_succ, i64_w, i32_w]
                    rfl
                  refine take_ (i := 23) (N := some 26) (v := ?_) (a' := ?_) spec_l03Throat.z24 rfl rfl (take_ofW HT_.out HW_.out (by kernel_rfl)) (fun _ _ _ h => h) (Or.inl ⟨by rfl, ?_⟩) hHeld ?_ ?_
                  rotate_left
                  · rintro w' ⟨s0, s1, s2, s3, s4, s5, s6, s7, s8, s9, s10, s11, s12, s13, s14, s15, s16, s17, s18, s19, s20, s21, s22, s23, s24, s25, s26, s27, s28, s29, s30, s31, s32, s33, s34, s35, s36, s37, s38, s39, s40, s41, s42, s43, s44, s45, s46, s47, s48, s49, s50, s51, s52, s53, s54, s55, s56, s57, s58, s59, s60, s61, s62, s63, s64, s65, s66, s67, s68, s69⟩
                    go_simp
                    with_reducible rfl
                  rotate_left
                  · simp only [Act.put, List.setIfInBounds_toArray, List.set_cons_zero, List.set_cons_succ, i64_w, i32_w]
                    rfl
                  refine one_ (i := 24) (N := some 27) spec_l03Throat.z25 rfl rfl (one_of HT_.out (by kernel_rfl)) (by decide) (fun K hK => ?_)
                  refine goes_ Tryd.func105 (by kernel_rfl) rfl #[.float .f32 ((rd_T27 l0 0).f2)] (by rfl) rfl rfl (by (try simp only [List.map_toArray, List.map_cons, List.map_nil]); first | done | rfl | (simp only [List.length_drop, List.length_take]; rfl)) ?_
                  with_reducible refine (spec_l02Above.calls ((rd_T27 l0 0).f2) true _ A7.out).mono ?_
                  rintro e w' ⟨rfl, ⟨nd, rfl⟩⟩
                  refine ⟨_, rfl, ?_⟩
                  refine hK.out _ _ ⟨(cw HB.out hw103_0), (cw HB.out hw103_1), (cw HB.out hw103_2), (cw HB.out hw103_3), (cw HB.out hw103_4), (cw HB.out hw104_0), (cw HB.out hw104_1), (cw HB.out hw104_2), (cw HB.out hw104_3), (cw HB.out hw104_4), (cw HB.out hw105_0), (cw HB.out hw105_1), (cw HB.out hw105_2), (cw HB.out hw105_3), (cw HB.out hw105_4), (cw HB.out hw106_0), (cw HB.out hw106_1), (cw HB.out hw106_2), (cw HB.out hw106_3), (cw HB.out hw106_4), (cw HB.out hw107_0), (cw HB.out hw107_1), (cw HB.out hw107_2), (cw HB.out hw107_3), (cw HB.out hw107_4), (cw HB.out hw108_0), (cw HB.out hw108_1), (cw HB.out hw108_2), (cw HB.out hw108_3), (cw HB.out hw108_4), (cw HB.out hw110_0), (cw HB.out hw110_1), (cw HB.out hw110_2), (cw HB.out hw110_3), (cw HB.out hw110_4), (cw HB.out hw111_0), (cw HB.out hw111_1), (cw HB.out hw111_2), (cw HB.out hw111_3), (cw HB.out hw111_4), (cw HB.out hw113_0), (cw HB.out hw113_1), (cw HB.out hw113_2), (cw HB.out hw113_3), (cw HB.out hw113_4), (cw HB.out hw114_0), (cw HB.out hw114_1), (cw HB.out hw114_2), (cw HB.out hw114_3), (cw HB.out hw114_4), (cw HB.out hw115_0), (cw HB.out hw115_1), (cw HB.out hw115_2), (cw HB.out hw115_3), (cw HB.out hw115_4), (cw HB.out hw116_0), (cw HB.out hw116_1), (cw HB.out hw116_2), (cw HB.out hw116_3), (cw HB.out hw116_4), (cw HB.out hw117_0), (cw HB.out hw117_1), (cw HB.out hw117_2), (cw HB.out hw117_3), (cw HB.out hw117_4), (cw HB.out hw118_0), (cw HB.out hw118_1), (cw HB.out hw118_2), (cw HB.out hw118_3), (cw HB.out hw118_4)⟩ (fun hHeld => ?_)
                  clear hK K
                  refine norm_ (a' := ?_) ?_ ?_
                  rotate_left
                  · show Act.put _ (some 27) _ = _
                    simp only [Act.put, List.setIfInBounds_toArray, List.set_cons_zero, List.set_cons_succ, i64_w, i32_w]
                    rfl
                  refine pure_ (i := 25) (N := some 28) (v := ?_) (a' := ?_) spec_l03Throat.z26 rfl rfl (any_of HT_.out (by kernel_rfl)) (fun _ _ _ h => h) (Or.inl ⟨by rfl, ?_⟩) ?_ ?_
                  rotate_left
                  · intro w'
                    go_simp
                    with_reducible rfl
                  rotate_left
                  · simp only [Act.put, List.setIfInBounds_toArray, List.set_cons_zero, List.set_cons_succ, i64_w, i32_w]
                    rfl
                  refine pure_ (i := 26) (N := some 29) (v := ?_) (a' := ?_) spec_l03Throat.z27 rfl rfl (any_of HT_.out (by kernel_rfl)) (fun _ _ _ h => h) (Or.inl ⟨by rfl, ?_⟩) ?_ ?_
                  rotate_left
                  · intro w'
                    go_simp
                    with_reducible rfl
                  rotate_left
                  · simp only [Act.put, List.setIfInBounds_toArray, List.set_cons_zero, List.set_cons_succ, i64_w, i32_w]
                    rfl
                  refine pure_ (i := 27) (N := some 30) (v := ?_) (a' := ?_) spec_l03Throat.z28 rfl rfl (any_of HT_.out (by kernel_rfl)) (fun _ _ _ h => h) (Or.inl ⟨by rfl, ?_⟩) ?_ ?_
                  rotate_left
                  · intro w'
                    go_simp
                    with_reducible rfl
                  rotate_left
                  · simp only [Act.put, List.setIfInBounds_toArray, List.set_cons_zero, List.set_cons_succ, i64_w, i32_w]
                    rfl
                  refine pure_ (i := 28) (N := some 31) (v := ?_) (a' := ?_) spec_l03Throat.z29 rfl rfl (any_of HT_.out (by kernel_rfl)) (fun _ _ _ h => h) (Or.inl ⟨by rfl, ?_⟩) ?_ ?_
                  rotate_left
                  · intro w'
                    go_simp
                    with_reducible rfl
                  rotate_left
                  · simp only [Act.put, List.setIfInBounds_toArray, List.set_cons_zero, List.set_cons_succ, i64_w, i32_w]
                    rfl
                  refine pure_ (i := 29) (N := some 32) (v := ?_) (a' := ?_) spec_l03Throat.z30 rfl rfl (any_of HT_.out (by kernel_rfl)) (fun _ _ _ h => h) (Or.inl ⟨by rfl, ?_⟩) ?_ ?_
                  rotate_left
                  · intro w'
                    go_simp
                    with_reducible rfl
                  rotate_left
                  · simp only [Act.put, List.setIfInBounds_toArray, List.set_cons_zero, List.set_cons_succ, i64_w, i32_w]
                    rfl
                  refine pure_ (i := 31) (N := some 34) (v := ?_) (a' := ?_) spec_l03Throat.z31 rfl rfl (any_of HT_.out (by kernel_rfl)) (fun _ _ _ h => h) (Or.inl ⟨by rfl, ?_⟩) ?_ ?_
                  rotate_left
                  · intro w'
                    go_simp
                    with_reducible rfl
                  rotate_left
                  · simp only [Act.put, List.setIfInBounds_toArray, List.set_cons_zero, List.set_cons_succ, i64_w, i32_w]
                    rfl
                  refine pure_ (i := 32) (N := some 35) (v := ?_) (a' := ?_) spec_l03Throat.z32 rfl rfl (any_of HT_.out (by kernel_rfl)) (fun _ _ _ h => h) (Or.inl ⟨by rfl, ?_⟩) ?_ ?_
                  rotate_left
                  · intro w'
                    go_simp
                    with_reducible rfl
                  rotate_left
                  · simp only [Act.put, List.setIfInBounds_toArray, List.set_cons_zero, List.set_cons_succ, i64_w, i32_w]
                    rfl
                  refine pure_ (i := 33) (N := some 36) (v := ?_) (a' := ?_) spec_l03Throat.z33 rfl rfl (any_of HT_.out (by kernel_rfl)) (fun _ _ _ h => h) (Or.inl ⟨by rfl, ?_⟩) ?_ ?_
                  rotate_left
                  · intro w'
                    go_simp
                    with_reducible rfl
                  rotate_left
                  · simp only [Act.put, List.setIfInBounds_toArray, List.set_cons_zero, List.set_cons_succ, i64_w, i32_w]
                    rfl
                  refine take_ (i := 30) (N := some 33) (v := ?_) (a' := ?_) spec_l03Throat.z34 rfl rfl (take_ofW HT_.out HW_.out (by kernel_rfl)) (fun _ _ _ h => h) (Or.inl ⟨by rfl, ?_⟩) hHeld ?_ ?_
                  rotate_left
                  · rintro w' ⟨s0, s1, s2, s3, s4, s5, s6, s7, s8, s9, s10, s11, s12, s13, s14, s15, s16, s17, s18, s19, s20, s21, s22, s23, s24, s25, s26, s27, s28, s29, s30, s31, s32, s33, s34, s35, s36, s37, s38, s39, s40, s41, s42, s43, s44, s45, s46, s47, s48, s49, s50, s51, s52, s53, s54, s55, s56, s57, s58, s59, s60, s61, s62, s63, s64, s65, s66, s67, s68, s69⟩
                    go_simp
                    with_reducible rfl
                  rotate_left
                  · simp only [Act.put, List.setIfInBounds_toArray, List.set_cons_zero, List.set_cons_succ, i64_w, i32_w]
                    rfl
                  refine take_ (i := 34) (N := some 37) (v := ?_) (a' := ?_) spec_l03Throat.z35 rfl rfl (take_ofW HT_.out HW_.out (by kernel_rfl)) (fun _ _ _ h => h) (Or.inl ⟨by rfl, ?_⟩) hHeld ?_ ?_
                  rotate_left
                  · rintro w' ⟨s0, s1, s2, s3, s4, s5, s6, s7, s8, s9, s10, s11, s12, s13, s14, s15, s16, s17, s18, s19, s20, s21, s22, s23, s24, s25, s26, s27, s28, s29, s30, s31, s32, s33, s34, s35, s36, s37, s38, s39, s40, s41, s42, s43, s44, s45, s46, s47, s48, s49, s50, s51, s52, s53, s54, s55, s56, s57, s58, s59, s60, s61, s62, s63, s64, s65, s66, s67, s68, s69⟩
                    go_simp
                    with_reducible rfl
                  rotate_left
                  · simp only [Act.put, List.setIfInBounds_toArray, List.set_cons_zero, List.set_cons_succ, i64_w, i32_w]
                    rfl
                  refine pure_ (i := 35) (N := some 38) (v := ?_) (a' := ?_) spec_l03Throat.z36 rfl rfl (any_of HT_.out (by kernel_rfl)) (fun _ _ _ h => h) (Or.inl ⟨by rfl, ?_⟩) ?_ ?_
                  rotate_left
                  · intro w'
                    go_simp
                    with_reducible rfl
                  rotate_left
                  · simp only [Act.put, List.setIfInBounds_toArray, List.set_cons_zero, List.set_cons_succ, i64_w, i32_w]
                    rfl
                  refine pure_ (i := 36) (N := some 39) (v := ?_) (a' := ?_) spec_l03Throat.z37 rfl rfl (any_of HT_.out (by kernel_rfl)) (fun _ _ _ h => h) (Or.inl ⟨by rfl, ?_⟩) ?_ ?_
                  rotate_left
                  · intro w'
                    go_simp
                    with_reducible rfl
                  rotate_left
                  · simp only [Act.put, List.setIfInBounds_toArray, List.set_cons_zero, List.set_cons_succ, i64_w, i32_w]
                    rfl
                  refine pure_ (i := 37) (N := some 40) (v := ?_) (a' := ?_) spec_l03Throat.z38 rfl rfl (any_of HT_.out (by kernel_rfl)) (fun _ _ _ h => h) (Or.inl ⟨by rfl, ?_⟩) ?_ ?_
                  rotate_left
                  · intro w'
                    go_simp
                    with_reducible rfl
                  rotate_left
                  · simp only [Act.put, List.setIfInBounds_toArray, List.set_cons_zero, List.set_cons_succ, i64_w, i32_w]
                    rfl
                  refine pure_ (i := 38) (N := some 41) (v := ?_) (a' := ?_) spec_l03Throat.z39 rfl rfl (any_of HT_.out (by kernel_rfl)) (fun _ _ _ h => h) (Or.inl ⟨by rfl, ?_⟩) ?_ ?_
                  rotate_left
                  · intro w'
                    go_simp
                    with_reducible rfl
                  rotate_left
                  · simp only [Act.put, List.setIfInBounds_toArray, List.set_cons_zero, List.set_cons_succ, i64_w, i32_w]
                    rfl
                  refine pure_ (i := 39) (N := some 42) (v := ?_) (a' := ?_) spec_l03Throat.z40 rfl rfl (any_of HT_.out (by kernel_rfl)) (fun _ _ _ h => h) (Or.inl ⟨by rfl, ?_⟩) ?_ ?_
                  rotate_left
                  · intro w'
                    go_simp
                    with_reducible rfl
                  rotate_left
                  · simp only [Act.put, List.setIfInBounds_toArray, List.set_cons_zero, List.set_cons_succ, i64_w, i32_w]
                    rfl
                  refine pure_ (i := 40) (N := some 43) (v := ?_) (a' := ?_) spec_l03Throat.z41 rfl rfl (any_of HT_.out (by kernel_rfl)) (fun _ _ _ h => h) (Or.inl ⟨by rfl, ?_⟩) ?_ ?_
                  rotate_left
                  · intro w'
                    go_simp
                    with_reducible rfl
                  rotate_left
                  · simp only [Act.put, List.setIfInBounds_toArray, List.set_cons_zero, List.set_cons_succ, i64_w, i32_w]
                    rfl
                  refine pure_ (i := 41) (N := some 44) (v := ?_) (a' := ?_) spec_l03Throat.z42 rfl rfl (any_of HT_.out (by kernel_rfl)) (fun _ _ _ h => h) (Or.inl ⟨by rfl, ?_⟩) ?_ ?_
                  rotate_left
                  · intro w'
                    go_simp
                    with_reducible rfl
                  rotate_left
                  · simp only [Act.put, List.setIfInBounds_toArray, List.set_cons_zero, List.set_cons_succ, i64_w, i32_w]
                    rfl
                  refine take_ (i := 42) (N := some 45) (v := ?_) (a' := ?_) spec_l03Throat.z43 rfl rfl (take_ofW HT_.out HW_.out (by kernel_rfl)) (fun _ _ _ h => h) (Or.inl ⟨by rfl, ?_⟩) hHeld ?_ ?_
                  rotate_left
                  · rintro w' ⟨s0, s1, s2, s3, s4, s5, s6, s7, s8, s9, s10, s11, s12, s13, s14, s15, s16, s17, s18, s19, s20, s21, s22, s23, s24, s25, s26, s27, s28, s29, s30, s31, s32, s33, s34, s35, s36, s37, s38, s39, s40, s41, s42, s43, s44, s45, s46, s47, s48, s49, s50, s51, s52, s53, s54, s55, s56, s57, s58, s59, s60, s61, s62, s63, s64, s65, s66, s67, s68, s69⟩
                    go_simp
                    with_reducible rfl
                  rotate_left
                  · simp only [Act.put, List.setIfInBounds_toArray, List.set_cons_zero, List.set_cons_succ, i64_w, i32_w]
                    rfl
                  refine one_ (i := 43) (N := some 46) spec_l03Throat.z44 rfl rfl (one_of HT_.out (by kernel_rfl)) (by decide) (fun K hK => ?_)
                  refine goes_ Tryd.func106 (by kernel_rfl) rfl #[.float .f32 ((rd_T27 l0 0).f3)] (by rfl) rfl rfl (by (try simp only [List.map_toArray, List.map_cons, List.map_nil]); first | done | rfl | (simp only [List.length_drop, List.length_take]; rfl)) ?_
                  with_reducible refine (spec_l02Least.calls ((rd_T27 l0 0).f3) false _ A11.out).mono ?_
                  rintro e w' ⟨rfl, ⟨nd, rfl⟩⟩
                  refine ⟨_, rfl, ?_⟩
                  refine hK.out _ _ ⟨(cx HB.out hw103_0), (cx HB.out hw103_1), (cx HB.out hw103_2), (cx HB.out hw103_3), (cx HB.out hw103_4), (cx HB.out hw104_0), (cx HB.out hw104_1), (cx HB.out hw104_2), (cx HB.out hw104_3), (cx HB.out hw104_4), (cx HB.out hw105_0), (cx HB.out hw105_1), (cx HB.out hw105_2), (cx HB.out hw105_3), (cx HB.out hw105_4), (cx HB.out hw106_0), (cx HB.out hw106_1), (cx HB.out hw106_2), (cx HB.out hw106_3), (cx HB.out hw106_4), (cx HB.out hw107_0), (cx HB.out hw107_1), (cx HB.out hw107_2), (cx HB.out hw107_3), (cx HB.out hw107_4), (cx HB.out hw108_0), (cx HB.out hw108_1), (cx HB.out hw108_2), (cx HB.out hw108_3), (cx HB.out hw108_4), (cx HB.out hw110_0), (cx HB.out hw110_1), (cx HB.out hw110_2), (cx HB.out hw110_3), (cx HB.out hw110_4), (cx HB.out hw111_0), (cx HB.out hw111_1), (cx HB.out hw111_2), (cx HB.out hw111_3), (cx HB.out hw111_4), (cx HB.out hw113_0), (cx HB.out hw113_1), (cx HB.out hw113_2), (cx HB.out hw113_3), (cx HB.out hw113_4), (cx HB.out hw114_0), (cx HB.out hw114_1), (cx HB.out hw114_2), (cx HB.out hw114_3), (cx HB.out hw114_4), (cx HB.out hw115_0), (cx HB.out hw115_1), (cx HB.out hw115_2), (cx HB.out hw115_3), (cx HB.out hw115_4), (cx HB.out hw116_0), (cx HB.out hw116_1), (cx HB.out hw116_2), (cx HB.out hw116_3), (cx HB.out hw116_4), (cx HB.out hw117_0), (cx HB.out hw117_1), (cx HB.out hw117_2), (cx HB.out hw117_3), (cx HB.out hw117_4), (cx HB.out hw118_0), (cx HB.out hw118_1), (cx HB.out hw118_2), (cx HB.out hw118_3), (cx HB.out hw118_4)⟩ (fun hHeld => ?_)
                  clear hK K
                  refine norm_ (a' := ?_) ?_ ?_
                  rotate_left
                  · show Act.put _ (some 46) _ = _
                    simp only [Act.put, List.setIfInBounds_toArray, List.set_cons_zero, List.set_cons_succ, i64_w, i32_w]
                    rfl
                  refine pure_ (i := 44) (N := some 47) (v := ?_) (a' := ?_) spec_l03Throat.z45 rfl rfl (any_of HT_.out (by kernel_rfl)) (fun _ _ _ h => h) (Or.inl ⟨by rfl, ?_⟩) ?_ ?_
                  rotate_left
                  · intro w'
                    go_simp
                    with_reducible rfl
                  rotate_left
                  · simp only [Act.put, List.setIfInBounds_toArray, List.set_cons_zero, List.set_cons_succ, i64_w, i32_w]
                    rfl
                  refine pure_ (i := 45) (N := some 48) (v := ?_) (a' := ?_) spec_l03Throat.z46 rfl rfl (any_of HT_.out (by kernel_rfl)) (fun _ _ _ h => h) (Or.inl ⟨by rfl, ?_⟩) ?_ ?_
                  rotate_left
                  · intro w'
                    go_simp
                    with_reducible rfl
                  rotate_left
                  · simp only [Act.put, List.setIfInBounds_toArray, List.set_cons_zero, List.set_cons_succ, i64_w, i32_w]
                    rfl
                  refine pure_ (i := 46) (N := some 49) (v := undef) (a' := ?_) spec_l03Throat.z47 rfl rfl (any_of HT_.out (by kernel_rfl)) (fun _ _ _ h => h) (Or.inr ⟨by rfl, rfl⟩) ?_ ?_
                  rotate_left
                  · simp only [Act.put, List.setIfInBounds_toArray, List.set_cons_zero, List.set_cons_succ, i64_w, i32_w]
                    rfl
                  refine pure_ (i := 47) (N := some 50) (v := undef) (a' := ?_) spec_l03Throat.z48 rfl rfl (any_of HT_.out (by kernel_rfl)) (fun _ _ _ h => h) (Or.inr ⟨by rfl, rfl⟩) ?_ ?_
                  rotate_left
                  · simp only [Act.put, List.setIfInBounds_toArray, List.set_cons_zero, List.set_cons_succ, i64_w, i32_w]
                    rfl
                  refine pure_ (i := 48) (N := some 51) (v := undef) (a' := ?_) spec_l03Throat.z49 rfl rfl (any_of HT_.out (by kernel_rfl)) (fun _ _ _ h => h) (Or.inr ⟨by rfl, rfl⟩) ?_ ?_
                  rotate_left
                  · simp only [Act.put, List.setIfInBounds_toArray, List.set_cons_zero, List.set_cons_succ, i64_w, i32_w]
                    rfl
                  refine pure_ (i := 49) (N := some 52) (v := undef) (a' := ?_) spec_l03Throat.z50 rfl rfl (any_of HT_.out (by kernel_rfl)) (fun _ _ _ h => h) (Or.inr ⟨by rfl, rfl⟩) ?_ ?_
                  rotate_left
                  · simp only [Act.put, List.setIfInBounds_toArray, List.set_cons_zero, List.set_cons_succ, i64_w, i32_w]
                    rfl
                  refine pure_ (i := 50) (N := some 53) (v := undef) (a' := ?_) spec_l03Throat.z51 rfl rfl (any_of HT_.out (by kernel_rfl)) (fun _ _ _ h => h) (Or.inr ⟨by rfl, rfl⟩) ?_ ?_
                  rotate_left
                  · simp only [Act.put, List.setIfInBounds_toArray, List.set_cons_zero, List.set_cons_succ, i64_w, i32_w]
                    rfl
                  refine pure_ (i := 51) (N := some 54) (v := ?_) (a' := ?_) spec_l03Throat.z52 rfl rfl (any_of HT_.out (by kernel_rfl)) (fun _ _ _ h => h) (Or.inl ⟨by rfl, ?_⟩) ?_ ?_
                  rotate_left
                  · intro w'
                    go_simp
                    with_reducible rfl
                  rotate_left
                  · simp only [Act.put, List.setIfInBounds_toArray, List.set_cons_zero, List.set_cons_succ, i64_w, i32_w]
                    rfl
                  refine pure_ (i := 52) (N := some 55) (v := ?_) (a' := ?_) spec_l03Throat.z53 rfl rfl (any_of HT_.out (by kernel_rfl)) (fun _ _ _ h => h) (Or.inl ⟨by rfl, ?_⟩) ?_ ?_
                  rotate_left
                  · intro w'
                    go_simp
                    with_reducible rfl
                  rotate_left
                  · simp only [Act.put, List.setIfInBounds_toArray, List.set_cons_zero, List.set_cons_succ, i64_w, i32_w]
                    rfl
                  refine pure_ (i := 53) (N := some 56) (v := undef) (a' := ?_) spec_l03Throat.z54 rfl rfl (any_of HT_.out (by kernel_rfl)) (fun _ _ _ h => h) (Or.inr ⟨by rfl, rfl⟩) ?_ ?_
                  rotate_left
                  · simp only [Act.put, List.setIfInBounds_toArray, List.set_cons_zero, List.set_cons_succ, i64_w, i32_w]
                    rfl
                  refine pure_ (i := 54) (N := some 57) (v := undef) (a' := ?_) spec_l03Throat.z55 rfl rfl (any_of HT_.out (by kernel_rfl)) (fun _ _ _ h => h) (Or.inr ⟨by rfl, rfl⟩) ?_ ?_
                  rotate_left
                  · simp only [Act.put, List.setIfInBounds_toArray, List.set_cons_zero, List.set_cons_succ, i64_w, i32_w]
                    rfl
                  refine pure_ (i := 55) (N := some 58) (v := undef) (a' := ?_) spec_l03Throat.z56 rfl rfl (any_of HT_.out (by kernel_rfl)) (fun _ _ _ h => h) (Or.inr ⟨by rfl, rfl⟩) ?_ ?_
                  rotate_left
                  · simp only [Act.put, List.setIfInBounds_toArray, List.set_cons_zero, List.set_cons_succ, i64_w, i32_w]
                    rfl
                  refine pure_ (i := 56) (N := some 59) (v := undef) (a' := ?_) spec_l03Throat.z57 rfl rfl (any_of HT_.out (by kernel_rfl)) (fun _ _ _ h => h) (Or.inr ⟨by rfl, rfl⟩) ?_ ?_
                  rotate_left
                  · simp only [Act.put, List.setIfInBounds_toArray, List.set_cons_zero, List.set_cons_succ, i64_w, i32_w]
                    rfl
                  refine pure_ (i := 57) (N := some 60) (v := undef) (a' := ?_) spec_l03Throat.z58 rfl rfl (any_of HT_.out (by kernel_rfl)) (fun _ _ _ h => h) (Or.inr ⟨by rfl, rfl⟩) ?_ ?_
                  rotate_left
                  · simp only [Act.put, List.setIfInBounds_toArray, List.set_cons_zero, List.set_cons_succ, i64_w, i32_w]
                    rfl
                  refine pure_ (i := 58) (N := some 61) (v := ?_) (a' := ?_) spec_l03Throat.z59 rfl rfl (any_of HT_.out (by kernel_rfl)) (fun _ _ _ h => h) (Or.inl ⟨by rfl, ?_⟩) ?_ ?_
                  rotate_left
                  · intro w'
                    go_simp
                    with_reducible rfl
                  rotate_left
                  · simp only [Act.put, List.setIfInBounds_toArray, List.set_cons_zero, List.set_cons_succ, i64_w, i32_w]
                    rfl
                  refine pure_ (i := 59) (N := some 2) (v := ?_) (a' := ?_) spec_l03Throat.z60 rfl rfl (any_of HT_.out (by kernel_rfl)) (fun _ _ _ h => h) (Or.inl ⟨by rfl, ?_⟩) ?_ ?_
                  rotate_left
                  · intro w'
                    go_simp
                    with_reducible rfl
                  rotate_left
                  · simp only [Act.put, List.setIfInBounds_toArray, List.set_cons_zero, List.set_cons_succ, i64_w, i32_w]
                    rfl
                  refine done_ (done_of HT_.out (by kernel_rfl)) ?_
                  try go_wp2
                  go_ret
                  exact ⟨by first | rfl | (simp [errW_none, errW_some] <;> rfl) | (simp [*, errW_none, errW_some] <;> rfl), by repeat (first | (with_reducible first | exact HB.out | apply below_alloc | apply pw_below_drewN | apply below_drew1) | exact HB.out)⟩
              · rw [if_neg c10] at H
                have c10b0 : (fle .f32 (fopr .add .f32 ((rd_T27 l0 0).f1) ((rd_T27 l0 0).f2)) 1065353216) = false := by simpa using c10
                clear c10
                obtain rfl := Option.some.inj H
                go_enter Tryd.func58, Tryd.ntmps58
                try go_wp2
                have n0_ := Aside0.mk (below_drew1 HB.out)
                clear HB
                have HB := n0_
                clear n0_
                have p103 : 0 ≤ (0 : Int) := (by omega)
                have q103 : 0 < (l0.length : Int) := of_decide_eq_true (by first | (with_reducible assumption) | assumption)
                obtain ⟨ad103, e103, hx103_0, hx103_1, hx103_2, hx103_3, hx103_4⟩ := at_T27 HR0.out 0 p103 q103
                have hw103_4 := hx103_4
                (try rw [show ((0 : Int)).toNat = 0 from rfl] at hw103_4)
                (try rw [show 0 * 5 = 0 from rfl] at hw103_4)
                (try rw [Addr.add_zero'] at hw103_4)
                have hw103_3 := hx103_3
                (try rw [show ((0 : Int)).toNat = 0 from rfl] at hw103_3)
                (try rw [show 0 * 5 = 0 from rfl] at hw103_3)
                (try rw [Addr.add_zero'] at hw103_3)
                have hw103_2 := hx103_2
                (try rw [show ((0 : Int)).toNat = 0 from rfl] at hw103_2)
                (try rw [show 0 * 5 = 0 from rfl] at hw103_2)
                (try rw [Addr.add_zero'] at hw103_2)
                have hw103_1 := hx103_1
                (try rw [show ((0 : Int)).toNat = 0 from rfl] at hw103_1)
                (try rw [show 0 * 5 = 0 from rfl] at hw103_1)
                (try rw [Addr.add_zero'] at hw103_1)
                have hw103_0 := hx103_0
                (try rw [show ((0 : Int)).toNat = 0 from rfl] at hw103_0)
                (try rw [show 0 * 5 = 0 from rfl] at hw103_0)
                (try rw [Addr.add_zero'] at hw103_0)
                cases e103
                have qi103 : (0 < l0.length) = True := eq_true (by omega)
                (try rw [show ((0 : Int)).toNat = 0 from rfl] at hx103_0)
                (try rw [show 0 * 5 = 0 from rfl] at hx103_0)
                (try rw [Addr.add_zero'] at hx103_0)
                (try rw [show ((0 : Int)).toNat = 0 from rfl] at hx103_1)
                (try rw [show 0 * 5 = 0 from rfl] at hx103_1)
                (try rw [Addr.add_zero'] at hx103_1)
                (try rw [show ((0 : Int)).toNat = 0 from rfl] at hx103_2)
                (try rw [show 0 * 5 = 0 from rfl] at hx103_2)
                (try rw [Addr.add_zero'] at hx103_2)
                (try rw [show ((0 : Int)).toNat = 0 from rfl] at hx103_3)
                (try rw [show 0 * 5 = 0 from rfl] at hx103_3)
                (try rw [Addr.add_zero'] at hx103_3)
                (try rw [show ((0 : Int)).toNat = 0 from rfl] at hx103_4)
                (try rw [show 0 * 5 = 0 from rfl] at hx103_4)
                (try rw [Addr.add_zero'] at hx103_4)
                replace hx103_0 := (HB.out.cell (World.block_lt_of_cell? w _ hx103_0)).trans hx103_0
                replace hx103_1 := (HB.out.cell (World.block_lt_of_cell? w _ hx103_1)).trans hx103_1
                replace hx103_2 := (HB.out.cell (World.block_lt_of_cell? w _ hx103_2)).trans hx103_2
                replace hx103_3 := (HB.out.cell (World.block_lt_of_cell? w _ hx103_3)).trans hx103_3
                replace hx103_4 := (HB.out.cell (World.block_lt_of_cell? w _ hx103_4)).trans hx103_4
                replace p103 := eq_true p103
                replace q103 := eq_true q103
                have p104 : 0 ≤ (0 : Int) := (by omega)
                have q104 : 0 < (l0.length : Int) := of_decide_eq_true (by first | (with_reducible assumption) | assumption)
                obtain ⟨ad104, e104, hx104_0, hx104_1, hx104_2, hx104_3, hx104_4⟩ := at_T27 HR0.out 0 p104 q104
                have hw104_4 := hx104_4
                (try rw [show ((0 : Int)).toNat = 0 from rfl] at hw104_4)
                (try rw [show 0 * 5 = 0 from rfl] at hw104_4)
                (try rw [Addr.add_zero'] at hw104_4)
                have hw104_3 := hx104_3
                (try rw [show ((0 : Int)).toNat = 0 from rfl] at hw104_3)
                (try rw [show 0 * 5 = 0 from rfl] at hw104_3)
                (try rw [Addr.add_zero'] at hw104_3)
                have hw104_2 := hx104_2
                (try rw [show ((0 : Int)).toNat = 0 from rfl] at hw104_2)
                (try rw [show 0 * 5 = 0 from rfl] at hw104_2)
                (try rw [Addr.add_zero'] at hw104_2)
                have hw104_1 := hx104_1
                (try rw [show ((0 : Int)).toNat = 0 from rfl] at hw104_1)
                (try rw [show 0 * 5 = 0 from rfl] at hw104_1)
                (try rw [Addr.add_zero'] at hw104_1)
                have hw104_0 := hx104_0
                (try rw [show ((0 : Int)).toNat = 0 from rfl] at hw104_0)
                (try rw [show 0 * 5 = 0 from rfl] at hw104_0)
                (try rw [Addr.add_zero'] at hw104_0)
                obtain rfl : ad103 = ad104 := (by injection e104)
                have qi104 : (0 < l0.length) = True := eq_true (by omega)
                (try rw [show ((0 : Int)).toNat = 0 from rfl] at hx104_0)
                (try rw [show 0 * 5 = 0 from rfl] at hx104_0)
                (try rw [Addr.add_zero'] at hx104_0)
                (try rw [show ((0 : Int)).toNat = 0 from rfl] at hx104_1)
                (try rw [show 0 * 5 = 0 from rfl] at hx104_1)
                (try rw [Addr.add_zero'] at hx104_1)
                (try rw [show ((0 : Int)).toNat = 0 from rfl] at hx104_2)
                (try rw [show 0 * 5 = 0 from rfl] at hx104_2)
                (try rw [Addr.add_zero'] at hx104_2)
                (try rw [show ((0 : Int)).toNat = 0 from rfl] at hx104_3)
                (try rw [show 0 * 5 = 0 from rfl] at hx104_3)
                (try rw [Addr.add_zero'] at hx104_3)
                (try rw [show ((0 : Int)).toNat = 0 from rfl] at hx104_4)
                (try rw [show 0 * 5 = 0 from rfl] at hx104_4)
                (try rw [Addr.add_zero'] at hx104_4)
                replace hx104_0 := (HB.out.cell (World.block_lt_of_cell? w _ hx104_0)).trans hx104_0
                replace hx104_1 := (HB.out.cell (World.block_lt_of_cell? w _ hx104_1)).trans hx104_1
                replace hx104_2 := (HB.out.cell (World.block_lt_of_cell? w _ hx104_2)).trans hx104_2
                replace hx104_3 := (HB.out.cell (World.block_lt_of_cell? w _ hx104_3)).trans hx104_3
                replace hx104_4 := (HB.out.cell (World.block_lt_of_cell? w _ hx104_4)).trans hx104_4
                replace p104 := eq_true p104
                replace q104 := eq_true q104
                have p105 : 0 ≤ (0 : Int) := (by omega)
                have q105 : 0 < (l0.length : Int) := of_decide_eq_true (by first | (with_reducible assumption) | assumption)
                obtain ⟨ad105, e105, hx105_0, hx105_1, hx105_2, hx105_3, hx105_4⟩ := at_T27 HR0.out 0 p105 q105
                have hw105_4 := hx105_4
                (try rw [show ((0 : Int)).toNat = 0 from rfl] at hw105_4)
                (try rw [show 0 * 5 = 0 from rfl] at hw105_4)
                (try rw [Addr.add_zero'] at hw105_4)
                have hw105_3 := hx105_3
                (try rw [show ((0 : Int)).toNat = 0 from rfl] at hw105_3)
                (try rw [show 0 * 5 = 0 from rfl] at hw105_3)
                (try rw [Addr.add_zero'] at hw105_3)
                have hw105_2 := hx105_2
                (try rw [show ((0 : Int)).toNat = 0 from rfl] at hw105_2)
                (try rw [show 0 * 5 = 0 from rfl] at hw105_2)
                (try rw [Addr.add_zero'] at hw105_2)
                have hw105_1 := hx105_1
                (try rw [show ((0 : Int)).toNat = 0 from rfl] at hw105_1)
                (try rw [show 0 * 5 = 0 from rfl] at hw105_1)
                (try rw [Addr.add_zero'] at hw105_1)
                have hw105_0 := hx105_0
                (try rw [show ((0 : Int)).toNat = 0 from rfl] at hw105_0)
                (try rw [show 0 * 5 = 0 from rfl] at hw105_0)
                (try rw [Addr.add_zero'] at hw105_0)
                obtain rfl : ad103 = ad105 := (by injection e105)
                have qi105 : (0 < l0.length) = True := eq_true (by omega)
                (try rw [show ((0 : Int)).toNat = 0 from rfl] at hx105_0)
                (try rw [show 0 * 5 = 0 from rfl] at hx105_0)
                (try rw [Addr.add_zero'] at hx105_0)
                (try rw [show ((0 : Int)).toNat = 0 from rfl] at hx105_1)
                (try rw [show 0 * 5 = 0 from rfl] at hx105_1)
                (try rw [Addr.add_zero'] at hx105_1)
                (try rw [show ((0 : Int)).toNat = 0 from rfl] at hx105_2)
                (try rw [show 0 * 5 = 0 from rfl] at hx105_2)
                (try rw [Addr.add_zero'] at hx105_2)
                (try rw [show ((0 : Int)).toNat = 0 from rfl] at hx105_3)
                (try rw [show 0 * 5 = 0 from rfl] at hx105_3)
                (try rw [Addr.add_zero'] at hx105_3)
                (try rw [show ((0 : Int)).toNat = 0 from rfl] at hx105_4)
                (try rw [show 0 * 5 = 0 from rfl] at hx105_4)
                (try rw [Addr.add_zero'] at hx105_4)
                replace hx105_0 := (HB.out.cell (World.block_lt_of_cell? w _ hx105_0)).trans hx105_0
                replace hx105_1 := (HB.out.cell (World.block_lt_of_cell? w _ hx105_1)).trans hx105_1
                replace hx105_2 := (HB.out.cell (World.block_lt_of_cell? w _ hx105_2)).trans hx105_2
                replace hx105_3 := (HB.out.cell (World.block_lt_of_cell? w _ hx105_3)).trans hx105_3
                replace hx105_4 := (HB.out.cell (World.block_lt_of_cell? w _ hx105_4)).trans hx105_4
                replace p105 := eq_true p105
                replace q105 := eq_true q105
                have p106 : 0 ≤ (0 : Int) := (by omega)
                have q106 : 0 < (l0.length : Int) := of_decide_eq_true (by first | (with_reducible assumption) | assumption)
                obtain ⟨ad106, e106, hx106_0, hx106_1, hx106_2, hx106_3, hx106_4⟩ := at_T27 HR0.out 0 p106 q106
                have hw106_4 := hx106_4
                (try rw [show ((0 : Int)).toNat = 0 from rfl] at hw106_4)
                (try rw [show 0 * 5 = 0 from rfl] at hw106_4)
                (try rw [Addr.add_zero'] at hw106_4)
                have hw106_3 := hx106_3
                (try rw [show ((0 : Int)).toNat = 0 from rfl] at hw106_3)
                (try rw [show 0 * 5 = 0 from rfl] at hw106_3)
                (try rw [Addr.add_zero'] at hw106_3)
                have hw106_2 := hx106_2
                (try rw [show ((0 : Int)).toNat = 0 from rfl] at hw106_2)
                (try rw [show 0 * 5 = 0 from rfl] at hw106_2)
                (try rw [Addr.add_zero'] at hw106_2)
                have hw106_1 := hx106_1
                (try rw [show ((0 : Int)).toNat = 0 from rfl] at hw106_1)
                (try rw [show 0 * 5 = 0 from rfl] at hw106_1)
                (try rw [Addr.add_zero'] at hw106_1)
                have hw106_0 := hx106_0
                (try rw [show ((0 : Int)).toNat = 0 from rfl] at hw106_0)
                (try rw [show 0 * 5 = 0 from rfl] at hw106_0)
                (try rw [Addr.add_zero'] at hw106_0)
                obtain rfl : ad103 = ad106 := (by injection e106)
                have qi106 : (0 < l0.length) = True := eq_true (by omega)
                (try rw [show ((0 : Int)).toNat = 0 from rfl] at hx106_0)
                (try rw [show 0 * 5 = 0 from rfl] at hx106_0)
                (try rw [Addr.add_zero'] at hx106_0)
                (try rw [show ((0 : Int)).toNat = 0 from rfl] at hx106_1)
                (try rw [show 0 * 5 = 0 from rfl] at hx106_1)
                (try rw [Addr.add_zero'] at hx106_1)
                (try rw [show ((0 : Int)).toNat = 0 from rfl] at hx106_2)
                (try rw [show 0 * 5 = 0 from rfl] at hx106_2)
                (try rw [Addr.add_zero'] at hx106_2)
                (try rw [show ((0 : Int)).toNat = 0 from rfl] at hx106_3)
                (try rw [show 0 * 5 = 0 from rfl] at hx106_3)
                (try rw [Addr.add_zero'] at hx106_3)
                (try rw [show ((0 : Int)).toNat = 0 from rfl] at hx106_4)
                (try rw [show 0 * 5 = 0 from rfl] at hx106_4)
                (try rw [Addr.add_zero'] at hx106_4)
                replace hx106_0 := (HB.out.cell (World.block_lt_of_cell? w _ hx106_0)).trans hx106_0
                replace hx106_1 := (HB.out.cell (World.block_lt_of_cell? w _ hx106_1)).trans hx106_1
                replace hx106_2 := (HB.out.cell (World.block_lt_of_cell? w _ hx106_2)).trans hx106_2
                replace hx106_3 := (HB.out.cell (World.block_lt_of_cell? w _ hx106_3)).trans hx106_3
                replace hx106_4 := (HB.out.cell (World.block_lt_of_cell? w _ hx106_4)).trans hx106_4
                replace p106 := eq_true p106
                replace q106 := eq_true q106
                have p107 : 0 ≤ (0 : Int) := (by omega)
                have q107 : 0 < (l0.length : Int) := of_decide_eq_true (by first | (with_reducible assumption) | assumption)
                obtain ⟨ad107, e107, hx107_0, hx107_1, hx107_2, hx107_3, hx107_4⟩ := at_T27 HR0.out 0 p107 q107
                have hw107_4 := hx107_4
                (try rw [show ((0 : Int)).toNat = 0 from rfl] at hw107_4)
                (try rw [show 0 * 5 = 0 from rfl] at hw107_4)
                (try rw [Addr.add_zero'] at hw107_4)
                have hw107_3 := hx107_3
                (try rw [show ((0 : Int)).toNat = 0 from rfl] at hw107_3)
                (try rw [show 0 * 5 = 0 from rfl] at hw107_3)
                (try rw [Addr.add_zero'] at hw107_3)
                have hw107_2 := hx107_2
                (try rw [show ((0 : Int)).toNat = 0 from rfl] at hw107_2)
                (try rw [show 0 * 5 = 0 from rfl] at hw107_2)
                (try rw [Addr.add_zero'] at hw107_2)
                have hw107_1 := hx107_1
                (try rw [show ((0 : Int)).toNat = 0 from rfl] at hw107_1)
                (try rw [show 0 * 5 = 0 from rfl] at hw107_1)
                (try rw [Addr.add_zero'] at hw107_1)
                have hw107_0 := hx107_0
                (try rw [show ((0 : Int)).toNat = 0 from rfl] at hw107_0)
                (try rw [show 0 * 5 = 0 from rfl] at hw107_0)
                (try rw [Addr.add_zero'] at hw107_0)
                obtain rfl : ad103 = ad107 := (by injection e107)
                have qi107 : (0 < l0.length) = True := eq_true (by omega)
                (try rw [show ((0 : Int)).toNat = 0 from rfl] at hx107_0)
                (try rw [show 0 * 5 = 0 from rfl] at hx107_0)
                (try rw [Addr.add_zero'] at hx107_0)
                (try rw [show ((0 : Int)).toNat = 0 from rfl] at hx107_1)
                (try rw [show 0 * 5 = 0 from rfl] at hx107_1)
                (try rw [Addr.add_zero'] at hx107_1)
                (try rw [show ((0 : Int)).toNat = 0 from rfl] at hx107_2)
                (try rw [show 0 * 5 = 0 from rfl] at hx107_2)
                (try rw [Addr.add_zero'] at hx107_2)
                (try rw [show ((0 : Int)).toNat = 0 from rfl] at hx107_3)
                (try rw [show 0 * 5 = 0 from rfl] at hx107_3)
                (try rw [Addr.add_zero'] at hx107_3)
                (try rw [show ((0 : Int)).toNat = 0 from rfl] at hx107_4)
                (try rw [show 0 * 5 = 0 from rfl] at hx107_4)
                (try rw [Addr.add_zero'] at hx107_4)
                replace hx107_0 := (HB.out.cell (World.block_lt_of_cell? w _ hx107_0)).trans hx107_0
                replace hx107_1 := (HB.out.cell (World.block_lt_of_cell? w _ hx107_1)).trans hx107_1
                replace hx107_2 := (HB.out.cell (World.block_lt_of_cell? w _ hx107_2)).trans hx107_2
                replace hx107_3 := (HB.out.cell (World.block_lt_of_cell? w _ hx107_3)).trans hx107_3
                replace hx107_4 := (HB.out.cell (World.block_lt_of_cell? w _ hx107_4)).trans hx107_4
                replace p107 := eq_true p107
                replace q107 := eq_true q107
                have p108 : 0 ≤ (0 : Int) := (by omega)
                have q108 : 0 < (l0.length : Int) := of_decide_eq_true (by first | (with_reducible assumption) | assumption)
                obtain ⟨ad108, e108, hx108_0, hx108_1, hx108_2, hx108_3, hx108_4⟩ := at_T27 HR0.out 0 p108 q108
                have hw108_4 := hx108_4
                (try rw [show ((0 : Int)).toNat = 0 from rfl] at hw108_4)
                (try rw [show 0 * 5 = 0 from rfl] at hw108_4)
                (try rw [Addr.add_zero'] at hw108_4)
                have hw108_3 := hx108_3
                (try rw [show ((0 : Int)).toNat = 0 from rfl] at hw108_3)
                (try rw [show 0 * 5 = 0 from rfl] at hw108_3)
                (try rw [Addr.add_zero'] at hw108_3)
                have hw108_2 := hx108_2
                (try rw [show ((0 : Int)).toNat = 0 from rfl] at hw108_2)
                (try rw [show 0 * 5 = 0 from rfl] at hw108_2)
                (try rw [Addr.add_zero'] at hw108_2)
                have hw108_1 := hx108_1
                (try rw [show ((0 : Int)).toNat = 0 from rfl] at hw108_1)
                (try rw [show 0 * 5 = 0 from rfl] at hw108_1)
                (try rw [Addr.add_zero'] at hw108_1)
                have hw108_0 := hx108_0
                (try rw [show ((0 : Int)).toNat = 0 from rfl] at hw108_0)
                (try rw [show 0 * 5 = 0 from rfl] at hw108_0)
                (try rw [Addr.add_zero'] at hw108_0)
                obtain rfl : ad103 = ad108 := (by injection e108)
                have qi108 : (0 < l0.length) = True := eq_true (by omega)
                (try rw [show ((0 : Int)).toNat = 0 from rfl] at hx108_0)
                (try rw [show 0 * 5 = 0 from rfl] at hx108_0)
                (try rw [Addr.add_zero'] at hx108_0)
                (try rw [show ((0 : Int)).toNat = 0 from rfl] at hx108_1)
                (try rw [show 0 * 5 = 0 from rfl] at hx108_1)
                (try rw [Addr.add_zero'] at hx108_1)
                (try rw [show ((0 : Int)).toNat = 0 from rfl] at hx108_2)
                (try rw [show 0 * 5 = 0 from rfl] at hx108_2)
                (try rw [Addr.add_zero'] at hx108_2)
                (try rw [show ((0 : Int)).toNat = 0 from rfl] at hx108_3)
                (try rw [show 0 * 5 = 0 from rfl] at hx108_3)
                (try rw [Addr.add_zero'] at hx108_3)
                (try rw [show ((0 : Int)).toNat = 0 from rfl] at hx108_4)
                (try rw [show 0 * 5 = 0 from rfl] at hx108_4)
                (try rw [Addr.add_zero'] at hx108_4)
                replace hx108_0 := (HB.out.cell (World.block_lt_of_cell? w _ hx108_0)).trans hx108_0
                replace hx108_1 := (HB.out.cell (World.block_lt_of_cell? w _ hx108_1)).trans hx108_1
                replace hx108_2 := (HB.out.cell (World.block_lt_of_cell? w _ hx108_2)).trans hx108_2
                replace hx108_3 := (HB.out.cell (World.block_lt_of_cell? w _ hx108_3)).trans hx108_3
                replace hx108_4 := (HB.out.cell (World.block_lt_of_cell? w _ hx108_4)).trans hx108_4
                replace p108 := eq_true p108
                replace q108 := eq_true q108
                have p110 : 0 ≤ (0 : Int) := (by omega)
                have q110 : 0 < (l0.length : Int) := of_decide_eq_true (by first | (with_reducible assumption) | assumption)
                obtain ⟨ad110, e110, hx110_0, hx110_1, hx110_2, hx110_3, hx110_4⟩ := at_T27 HR0.out 0 p110 q110
                have hw110_4 := hx110_4
                (try rw [show ((0 : Int)).toNat = 0 from rfl] at hw110_4)
                (try rw [show 0 * 5 = 0 from rfl] at hw110_4)
                (try rw [Addr.add_zero'] at hw110_4)
                have hw110_3 := hx110_3
                (try rw [show ((0 : Int)).toNat = 0 from rfl] at hw110_3)
                (try rw [show 0 * 5 = 0 from rfl] at hw110_3)
                (try rw [Addr.add_zero'] at hw110_3)
                have hw110_2 := hx110_2
                (try rw [show ((0 : Int)).toNat = 0 from rfl] at hw110_2)
                (try rw [show 0 * 5 = 0 from rfl] at hw110_2)
                (try rw [Addr.add_zero'] at hw110_2)
                have hw110_1 := hx110_1
                (try rw [show ((0 : Int)).toNat = 0 from rfl] at hw110_1)
                (try rw [show 0 * 5 = 0 from rfl] at hw110_1)
                (try rw [Addr.add_zero'] at hw110_1)
                have hw110_0 := hx110_0
                (try rw [show ((0 : Int)).toNat = 0 from rfl] at hw110_0)
                (try rw [show 0 * 5 = 0 from rfl] at hw110_0)
                (try rw [Addr.add_zero'] at hw110_0)
                obtain rfl : ad103 = ad110 := (by injection e110)
                have qi110 : (0 < l0.length) = True := eq_true (by omega)
                (try rw [show ((0 : Int)).toNat = 0 from rfl] at hx110_0)
                (try rw [show 0 * 5 = 0 from rfl] at hx110_0)
                (try rw [Addr.add_zero'] at hx110_0)
                (try rw [show ((0 : Int)).toNat = 0 from rfl] at hx110_1)
                (try rw [show 0 * 5 = 0 from rfl] at hx110_1)
                (try rw [Addr.add_zero'] at hx110_1)
                (try rw [show ((0 : Int)).toNat = 0 from rfl] at hx110_2)
                (try rw [show 0 * 5 = 0 from rfl] at hx110_2)
                (try rw [Addr.add_zero'] at hx110_2)
                (try rw [show ((0 : Int)).toNat = 0 from rfl] at hx110_3)
                (try rw [show 0 * 5 = 0 from rfl] at hx110_3)
                (try rw [Addr.add_zero'] at hx110_3)
                (try rw [show ((0 : Int)).toNat = 0 from rfl] at hx110_4)
                (try rw [show 0 * 5 = 0 from rfl] at hx110_4)
                (try rw [Addr.add_zero'] at hx110_4)
                replace hx110_0 := (HB.out.cell (World.block_lt_of_cell? w _ hx110_0)).trans hx110_0
                replace hx110_1 := (HB.out.cell (World.block_lt_of_cell? w _ hx110_1)).trans hx110_1
                replace hx110_2 := (HB.out.cell (World.block_lt_of_cell? w _ hx110_2)).trans hx110_2
                replace hx110_3 := (HB.out.cell (World.block_lt_of_cell? w _ hx110_3)).trans hx110_3
                replace hx110_4 := (HB.out.cell (World.block_lt_of_cell? w _ hx110_4)).trans hx110_4
                replace p110 := eq_true p110
                replace q110 := eq_true q110
                have p111 : 0 ≤ (0 : Int) := (by omega)
                have q111 : 0 < (l0.length : Int) := of_decide_eq_true (by first | (with_reducible assumption) | assumption)
                obtain ⟨ad111, e111, hx111_0, hx111_1, hx111_2, hx111_3, hx111_4⟩ := at_T27 HR0.out 0 p111 q111
                have hw111_4 := hx111_4
                (try rw [show ((0 : Int)).toNat = 0 from rfl] at hw111_4)
                (try rw [show 0 * 5 = 0 from rfl] at hw111_4)
                (try rw [Addr.add_zero'] at hw111_4)
                have hw111_3 := hx111_3
                (try rw [show ((0 : Int)).toNat = 0 from rfl] at hw111_3)
                (try rw [show 0 * 5 = 0 from rfl] at hw111_3)
                (try rw [Addr.add_zero'] at hw111_3)
                have hw111_2 := hx111_2
                (try rw [show ((0 : Int)).toNat = 0 from rfl] at hw111_2)
                (try rw [show 0 * 5 = 0 from rfl] at hw111_2)
                (try rw [Addr.add_zero'] at hw111_2)
                have hw111_1 := hx111_1
                (try rw [show ((0 : Int)).toNat = 0 from rfl] at hw111_1)
                (try rw [show 0 * 5 = 0 from rfl] at hw111_1)
                (try rw [Addr.add_zero'] at hw111_1)
                have hw111_0 := hx111_0
                (try rw [show ((0 : Int)).toNat = 0 from rfl] at hw111_0)
                (try rw [show 0 * 5 = 0 from rfl] at hw111_0)
                (try rw [Addr.add_zero'] at hw111_0)
                obtain rfl : ad103 = ad111 := (by injection e111)
                have qi111 : (0 < l0.length) = True := eq_true (by omega)
                (try rw [show ((0 : Int)).toNat = 0 from rfl] at hx111_0)
                (try rw [show 0 * 5 = 0 from rfl] at hx111_0)
                (try rw [Addr.add_zero'] at hx111_0)
                (try rw [show ((0 : Int)).toNat = 0 from rfl] at hx111_1)
                (try rw [show 0 * 5 = 0 from rfl] at hx111_1)
                (try rw [Addr.add_zero'] at hx111_1)
                (try rw [show ((0 : Int)).toNat = 0 from rfl] at hx111_2)
                (try rw [show 0 * 5 = 0 from rfl] at hx111_2)
                (try rw [Addr.add_zero'] at hx111_2)
                (try rw [show ((0 : Int)).toNat = 0 from rfl] at hx111_3)
                (try rw [show 0 * 5 = 0 from rfl] at hx111_3)
                (try rw [Addr.add_zero'] at hx111_3)
                (try rw [show ((0 : Int)).toNat = 0 from rfl] at hx111_4)
                (try rw [show 0 * 5 = 0 from rfl] at hx111_4)
                (try rw [Addr.add_zero'] at hx111_4)
                replace hx111_0 := (HB.out.cell (World.block_lt_of_cell? w _ hx111_0)).trans hx111_0
                replace hx111_1 := (HB.out.cell (World.block_lt_of_cell? w _ hx111_1)).trans hx111_1
                replace hx111_2 := (HB.out.cell (World.block_lt_of_cell? w _ hx111_2)).trans hx111_2
                replace hx111_3 := (HB.out.cell (World.block_lt_of_cell? w _ hx111_3)).trans hx111_3
                replace hx111_4 := (HB.out.cell (World.block_lt_of_cell? w _ hx111_4)).trans hx111_4
                replace p111 := eq_true p111
                replace q111 := eq_true q111
                have p113 : 0 ≤ (0 : Int) := (by omega)
                have q113 : 0 < (l0.length : Int) := of_decide_eq_true (by first | (with_reducible assumption) | assumption)
                obtain ⟨ad113, e113, hx113_0, hx113_1, hx113_2, hx113_3, hx113_4⟩ := at_T27 HR0.out 0 p113 q113
                have hw113_4 := hx113_4
                (try rw [show ((0 : Int)).toNat = 0 from rfl] at hw113_4)
                (try rw [show 0 * 5 = 0 from rfl] at hw113_4)
                (try rw [Addr.add_zero'] at hw113_4)
                have hw113_3 := hx113_3
                (try rw [show ((0 : Int)).toNat = 0 from rfl] at hw113_3)
                (try rw [show 0 * 5 = 0 from rfl] at hw113_3)
                (try rw [Addr.add_zero'] at hw113_3)
                have hw113_2 := hx113_2
                (try rw [show ((0 : Int)).toNat = 0 from rfl] at hw113_2)
                (try rw [show 0 * 5 = 0 from rfl] at hw113_2)
                (try rw [Addr.add_zero'] at hw113_2)
                have hw113_1 := hx113_1
                (try rw [show ((0 : Int)).toNat = 0 from rfl] at hw113_1)
                (try rw [show 0 * 5 = 0 from rfl] at hw113_1)
                (try rw [Addr.add_zero'] at hw113_1)
                have hw113_0 := hx113_0
                (try rw [show ((0 : Int)).toNat = 0 from rfl] at hw113_0)
                (try rw [show 0 * 5 = 0 from rfl] at hw113_0)
                (try rw [Addr.add_zero'] at hw113_0)
                obtain rfl : ad103 = ad113 := (by injection e113)
                have qi113 : (0 < l0.length) = True := eq_true (by omega)
                (try rw [show ((0 : Int)).toNat = 0 from rfl] at hx113_0)
                (try rw [show 0 * 5 = 0 from rfl] at hx113_0)
                (try rw [Addr.add_zero'] at hx113_0)
                (try rw [show ((0 : Int)).toNat = 0 from rfl] at hx113_1)
                (try rw [show 0 * 5 = 0 from rfl] at hx113_1)
                (try rw [Addr.add_zero'] at hx113_1)
                (try rw [show ((0 : Int)).toNat = 0 from rfl] at hx113_2)
                (try rw [show 0 * 5 = 0 from rfl] at hx113_2)
                (try rw [Addr.add_zero'] at hx113_2)
                (try rw [show ((0 : Int)).toNat = 0 from rfl] at hx113_3)
                (try rw [show 0 * 5 = 0 from rfl] at hx113_3)
                (try rw [Addr.add_zero'] at hx113_3)
                (try rw [show ((0 : Int)).toNat = 0 from rfl] at hx113_4)
                (try rw [show 0 * 5 = 0 from rfl] at hx113_4)
                (try rw [Addr.add_zero'] at hx113_4)
                replace hx113_0 := (HB.out.cell (World.block_lt_of_cell? w _ hx113_0)).trans hx113_0
                replace hx113_1 := (HB.out.cell (World.block_lt_of_cell? w _ hx113_1)).trans hx113_1
                replace hx113_2 := (HB.out.cell (World.block_lt_of_cell? w _ hx113_2)).trans hx113_2
                replace hx113_3 := (HB.out.cell (World.block_lt_of_cell? w _ hx113_3)).trans hx113_3
                replace hx113_4 := (HB.out.cell (World.block_lt_of_cell? w _ hx113_4)).trans hx113_4
                replace p113 := eq_true p113
                replace q113 := eq_true q113
                have p114 : 0 ≤ (0 : Int) := (by omega)
                have q114 : 0 < (l0.length : Int) := of_decide_eq_true (by first | (with_reducible assumption) | assumption)
                obtain ⟨ad114, e114, hx114_0, hx114_1, hx114_2, hx114_3, hx114_4⟩ := at_T27 HR0.out 0 p114 q114
                have hw114_4 := hx114_4
                (try rw [show ((0 : Int)).toNat = 0 from rfl] at hw114_4)
                (try rw [show 0 * 5 = 0 from rfl] at hw114_4)
                (try rw [Addr.add_zero'] at hw114_4)
                have hw114_3 := hx114_3
                (try rw [show ((0 : Int)).toNat = 0 from rfl] at hw114_3)
                (try rw [show 0 * 5 = 0 from rfl] at hw114_3)
                (try rw [Addr.add_zero'] at hw114_3)
                have hw114_2 := hx114_2
                (try rw [show ((0 : Int)).toNat = 0 from rfl] at hw114_2)
                (try rw [show 0 * 5 = 0 from rfl] at hw114_2)
                (try rw [Addr.add_zero'] at hw114_2)
                have hw114_1 := hx114_1
                (try rw [show ((0 : Int)).toNat = 0 from rfl] at hw114_1)
                (try rw [show 0 * 5 = 0 from rfl] at hw114_1)
                (try rw [Addr.add_zero'] at hw114_1)
                have hw114_0 := hx114_0
                (try rw [show ((0 : Int)).toNat = 0 from rfl] at hw114_0)
                (try rw [show 0 * 5 = 0 from rfl] at hw114_0)
                (try rw [Addr.add_zero'] at hw114_0)
                obtain rfl : ad103 = ad114 := (by injection e114)
                have qi114 : (0 < l0.length) = True := eq_true (by omega)
                (try rw [show ((0 : Int)).toNat = 0 from rfl] at hx114_0)
                (try rw [show 0 * 5 = 0 from rfl] at hx114_0)
                (try rw [Addr.add_zero'] at hx114_0)
                (try rw [show ((0 : Int)).toNat = 0 from rfl] at hx114_1)
                (try rw [show 0 * 5 = 0 from rfl] at hx114_1)
                (try rw [Addr.add_zero'] at hx114_1)
                (try rw [show ((0 : Int)).toNat = 0 from rfl] at hx114_2)
                (try rw [show 0 * 5 = 0 from rfl] at hx114_2)
                (try rw [Addr.add_zero'] at hx114_2)
                (try rw [show ((0 : Int)).toNat = 0 from rfl] at hx114_3)
                (try rw [show 0 * 5 = 0 from rfl] at hx114_3)
                (try rw [Addr.add_zero'] at hx114_3)
                (try rw [show ((0 : Int)).toNat = 0 from rfl] at hx114_4)
                (try rw [show 0 * 5 = 0 from rfl] at hx114_4)
                (try rw [Addr.add_zero'] at hx114_4)
                replace hx114_0 := (HB.out.cell (World.block_lt_of_cell? w _ hx114_0)).trans hx114_0
                replace hx114_1 := (HB.out.cell (World.block_lt_of_cell? w _ hx114_1)).trans hx114_1
                replace hx114_2 := (HB.out.cell (World.block_lt_of_cell? w _ hx114_2)).trans hx114_2
                replace hx114_3 := (HB.out.cell (World.block_lt_of_cell? w _ hx114_3)).trans hx114_3
                replace hx114_4 := (HB.out.cell (World.block_lt_of_cell? w _ hx114_4)).trans hx114_4
                replace p114 := eq_true p114
                replace q114 := eq_true q114
                have p115 : 0 ≤ (0 : Int) := (by omega)
                have q115 : 0 < (l0.length : Int) := of_decide_eq_true (by first | (with_reducible assumption) | assumption)
                obtain ⟨ad115, e115, hx115_0, hx115_1, hx115_2, hx115_3, hx115_4⟩ := at_T27 HR0.out 0 p115 q115
                have hw115_4 := hx115_4
                (try rw [show ((0 : Int)).toNat = 0 from rfl] at hw115_4)
                (try rw [show 0 * 5 = 0 from rfl] at hw115_4)
                (try rw [Addr.add_zero'] at hw115_4)
                have hw115_3 := hx115_3
                (try rw [show ((0 : Int)).toNat = 0 from rfl] at hw115_3)
                (try rw [show 0 * 5 = 0 from rfl] at hw115_3)
                (try rw [Addr.add_zero'] at hw115_3)
                have hw115_2 := hx115_2
                (try rw [show ((0 : Int)).toNat = 0 from rfl] at hw115_2)
                (try rw [show 0 * 5 = 0 from rfl] at hw115_2)
                (try rw [Addr.add_zero'] at hw115_2)
                have hw115_1 := hx115_1
                (try rw [show ((0 : Int)).toNat = 0 from rfl] at hw115_1)
                (try rw [show 0 * 5 = 0 from rfl] at hw115_1)
                (try rw [Addr.add_zero'] at hw115_1)
                have hw115_0 := hx115_0
                (try rw [show ((0 : Int)).toNat = 0 from rfl] at hw115_0)
                (try rw [show 0 * 5 = 0 from rfl] at hw115_0)
                (try rw [Addr.add_zero'] at hw115_0)
                obtain rfl : ad103 = ad115 := (by injection e115)
                have qi115 : (0 < l0.length) = True := eq_true (by omega)
                (try rw [show ((0 : Int)).toNat = 0 from rfl] at hx115_0)
                (try rw [show 0 * 5 = 0 from rfl] at hx115_0)
                (try rw [Addr.add_zero'] at hx115_0)
                (try rw [show ((0 : Int)).toNat = 0 from rfl] at hx115_1)
                (try rw [show 0 * 5 = 0 from rfl] at hx115_1)
                (try rw [Addr.add_zero'] at hx115_1)
                (try rw [show ((0 : Int)).toNat = 0 from rfl] at hx115_2)
                (try rw [show 0 * 5 = 0 from rfl] at hx115_2)
                (try rw [Addr.add_zero'] at hx115_2)
                (try rw [show ((0 : Int)).toNat = 0 from rfl] at hx115_3)
                (try rw [show 0 * 5 = 0 from rfl] at hx115_3)
                (try rw [Addr.add_zero'] at hx115_3)
                (try rw [show ((0 : Int)).toNat = 0 from rfl] at hx115_4)
                (try rw [show 0 * 5 = 0 from rfl] at hx115_4)
                (try rw [Addr.add_zero'] at hx115_4)
                replace hx115_0 := (HB.out.cell (World.block_lt_of_cell? w _ hx115_0)).trans hx115_0
                replace hx115_1 := (HB.out.cell (World.block_lt_of_cell? w _ hx115_1)).trans hx115_1
                replace hx115_2 := (HB.out.cell (World.block_lt_of_cell? w _ hx115_2)).trans hx115_2
                replace hx115_3 := (HB.out.cell (World.block_lt_of_cell? w _ hx115_3)).trans hx115_3
                replace hx115_4 := (HB.out.cell (World.block_lt_of_cell? w _ hx115_4)).trans hx115_4
                replace p115 := eq_true p115
                replace q115 := eq_true q115
                have p116 : 0 ≤ (0 : Int) := (by omega)
                have q116 : 0 < (l0.length : Int) := of_decide_eq_true (by first | (with_reducible assumption) | assumption)
                obtain ⟨ad116, e116, hx116_0, hx116_1, hx116_2, hx116_3, hx116_4⟩ := at_T27 HR0.out 0 p116 q116
                have hw116_4 := hx116_4
                (try rw [show ((0 : Int)).toNat = 0 from rfl] at hw116_4)
                (try rw [show 0 * 5 = 0 from rfl] at hw116_4)
                (try rw [Addr.add_zero'] at hw116_4)
                have hw116_3 := hx116_3
                (try rw [show ((0 : Int)).toNat = 0 from rfl] at hw116_3)
                (try rw [show 0 * 5 = 0 from rfl] at hw116_3)
                (try rw [Addr.add_zero'] at hw116_3)
                have hw116_2 := hx116_2
                (try rw [show ((0 : Int)).toNat = 0 from rfl] at hw116_2)
                (try rw [show 0 * 5 = 0 from rfl] at hw116_2)
                (try rw [Addr.add_zero'] at hw116_2)
                have hw116_1 := hx116_1
                (try rw [show ((0 : Int)).toNat = 0 from rfl] at hw116_1)
                (try rw [show 0 * 5 = 0 from rfl] at hw116_1)
                (try rw [Addr.add_zero'] at hw116_1)
                have hw116_0 := hx116_0
                (try rw [show ((0 : Int)).toNat = 0 from rfl] at hw116_0)
                (try rw [show 0 * 5 = 0 from rfl] at hw116_0)
                (try rw [Addr.add_zero'] at hw116_0)
                obtain rfl : ad103 = ad116 := (by injection e116)
                have qi116 : (0 < l0.length) = True := eq_true (by omega)
                (try rw [show ((0 : Int)).toNat = 0 from rfl] at hx116_0)
                (try rw [show 0 * 5 = 0 from rfl] at hx116_0)
                (try rw [Addr.add_zero'] at hx116_0)
                (try rw [show ((0 : Int)).toNat = 0 from rfl] at hx116_1)
                (try rw [show 0 * 5 = 0 from rfl] at hx116_1)
                (try rw [Addr.add_zero'] at hx116_1)
                (try rw [show ((0 : Int)).toNat = 0 from rfl] at hx116_2)
                (try rw [show 0 * 5 = 0 from rfl] at hx116_2)
                (try rw [Addr.add_zero'] at hx116_2)
                (try rw [show ((0 : Int)).toNat = 0 from rfl] at hx116_3)
                (try rw [show 0 * 5 = 0 from rfl] at hx116_3)
                (try rw [Addr.add_zero'] at hx116_3)
                (try rw [show ((0 : Int)).toNat = 0 from rfl] at hx116_4)
                (try rw [show 0 * 5 = 0 from rfl] at hx116_4)
                (try rw [Addr.add_zero'] at hx116_4)
                replace hx116_0 := (HB.out.cell (World.block_lt_of_cell? w _ hx116_0)).trans hx116_0
                replace hx116_1 := (HB.out.cell (World.block_lt_of_cell? w _ hx116_1)).trans hx116_1
                replace hx116_2 := (HB.out.cell (World.block_lt_of_cell? w _ hx116_2)).trans hx116_2
                replace hx116_3 := (HB.out.cell (World.block_lt_of_cell? w _ hx116_3)).trans hx116_3
                replace hx116_4 := (HB.out.cell (World.block_lt_of_cell? w _ hx116_4)).trans hx116_4
                replace p116 := eq_true p116
                replace q116 := eq_true q116
                refine start_ (n := 60) (S := fun w' => w'.cell? ad103 = some (.float .f32 ((rd_T27 l0 0).f0)) ∧ w'.cell? ⟨ad103.block, ad103.off + 1, none⟩ = some (.float .f32 ((rd_T27 l0 0).f1)) ∧ w'.cell? ⟨ad103.block, ad103.off + 2, none⟩ = some (.float .f32 ((rd_T27 l0 0).f2)) ∧ w'.cell? ⟨ad103.block, ad103.off + 3, none⟩ = some (.float .f32 ((rd_T27 l0 0).f3)) ∧ w'.cell? ⟨ad103.block, ad103.off + 4, none⟩ = some (.float .f32 ((rd_T27 l0 0).f4)) ∧ w'.cell? ad103 = some (.float .f32 ((rd_T27 l0 0).f0)) ∧ w'.cell? ⟨ad103.block, ad103.off + 1, none⟩ = some (.float .f32 ((rd_T27 l0 0).f1)) ∧ w'.cell? ⟨ad103.block, ad103.off + 2, none⟩ = some (.float .f32 ((rd_T27 l0 0).f2)) ∧ w'.cell? ⟨ad103.block, ad103.off + 3, none⟩ = some (.float .f32 ((rd_T27 l0 0).f3)) ∧ w'.cell? ⟨ad103.block, ad103.off + 4, none⟩ = some (.float .f32 ((rd_T27 l0 0).f4)) ∧ w'.cell? ad103 = some (.float .f32 ((rd_T27 l0 0).f0)) ∧ w'.cell? ⟨ad103.block, ad103.off + 1, none⟩ = some (.float .f32 ((rd_T27 l0 0).f1)) ∧ w'.cell? ⟨ad103.block, ad103.off + 2, none⟩ = some (.float .f32 ((rd_T27 l0 0).f2)) ∧ w'.cell? ⟨ad103.block, ad103.off + 3, none⟩ = some (.float .f32 ((rd_T27 l0 0).f3)) ∧ w'.cell? ⟨ad103.block, ad103.off + 4, none⟩ = some (.float .f32 ((rd_T27 l0 0).f4)) ∧ w'.cell? ad103 = some (.float .f32 ((rd_T27 l0 0).f0)) ∧ w'.cell? ⟨ad103.block, ad103.off + 1, none⟩ = some (.float .f32 ((rd_T27 l0 0).f1)) ∧ w'.cell? ⟨ad103.block, ad103.off + 2, none⟩ = some (.float .f32 ((rd_T27 l0 0).f2)) ∧ w'.cell? ⟨ad103.block, ad103.off + 3, none⟩ = some (.float .f32 ((rd_T27 l0 0).f3)) ∧ w'.cell? ⟨ad103.block, ad103.off + 4, none⟩ = some (.float .f32 ((rd_T27 l0 0).f4)) ∧ w'.cell? ad103 = some (.float .f32 ((rd_T27 l0 0).f0)) ∧ w'.cell? ⟨ad103.block, ad103.off + 1, none⟩ = some (.float .f32 ((rd_T27 l0 0).f1)) ∧ w'.cell? ⟨ad103.block, ad103.off + 2, none⟩ = some (.float .f32 ((rd_T27 l0 0).f2)) ∧ w'.cell? ⟨ad103.block, ad103.off + 3, none⟩ = some (.float .f32 ((rd_T27 l0 0).f3)) ∧ w'.cell? ⟨ad103.block, ad103.off + 4, none⟩ = some (.float .f32 ((rd_T27 l0 0).f4)) ∧ w'.cell? ad103 = some (.float .f32 ((rd_T27 l0 0).f0)) ∧ w'.cell? ⟨ad103.block, ad103.off + 1, none⟩ = some (.float .f32 ((rd_T27 l0 0).f1)) ∧ w'.cell? ⟨ad103.block, ad103.off + 2, none⟩ = some (.float .f32 ((rd_T27 l0 0).f2)) ∧ w'.cell? ⟨ad103.block, ad103.off + 3, none⟩ = some (.float .f32 ((rd_T27 l0 0).f3)) ∧ w'.cell? ⟨ad103.block, ad103.off + 4, none⟩ = some (.float .f32 ((rd_T27 l0 0).f4)) ∧ w'.cell? ad103 = some (.float .f32 ((rd_T27 l0 0).f0)) ∧ w'.cell? ⟨ad103.block, ad103.off + 1, none⟩ = some (.float .f32 ((rd_T27 l0 0).f1)) ∧ w'.cell? ⟨ad103.block, ad103.off + 2, none⟩ = some (.float .f32 ((rd_T27 l0 0).f2)) ∧ w'.cell? ⟨ad103.block, ad103.off + 3, none⟩ = some (.float .f32 ((rd_T27 l0 0).f3)) ∧ w'.cell? ⟨ad103.block, ad103.off + 4, none⟩ = some (.float .f32 ((rd_T27 l0 0).f4)) ∧ w'.cell? ad103 = some (.float .f32 ((rd_T27 l0 0).f0)) ∧ w'.cell? ⟨ad103.block, ad103.off + 1, none⟩ = some (.float .f32 ((rd_T27 l0 0).f1)) ∧ w'.cell? ⟨ad103.block, ad103.off + 2, none⟩ = some (.float .f32 ((rd_T27 l0 0).f2)) ∧ w'.cell? ⟨ad103.block, ad103.off + 3, none⟩ = some (.float .f32 ((rd_T27 l0 0).f3)) ∧ w'.cell? ⟨ad103.block, ad103.off + 4, none⟩ = some (.float .f32 ((rd_T27 l0 0).f4)) ∧ w'.cell? ad103 = some (.float .f32 ((rd_T27 l0 0).f0)) ∧ w'.cell? ⟨ad103.block, ad103.off + 1, none⟩ = some (.float .f32 ((rd_T27 l0 0).f1)) ∧ w'.cell? ⟨ad103.block, ad103.off + 2, none⟩ = some (.float .f32 ((rd_T27 l0 0).f2)) ∧ w'.cell? ⟨ad103.block, ad103.off + 3, none⟩ = some (.float .f32 ((rd_T27 l0 0).f3)) ∧ w'.cell? ⟨ad103.block, ad103.off + 4, none⟩ = some (.float .f32 ((rd_T27 l0 0).f4)) ∧ w'.cell? ad103 = some (.float .f32 ((rd_T27 l0 0).f0)) ∧ w'.cell? ⟨ad103.block, ad103.off + 1, none⟩ = some (.float .f32 ((rd_T27 l0 0).f1)) ∧ w'.cell? ⟨ad103.block, ad103.off + 2, none⟩ = some (.float .f32 ((rd_T27 l0 0).f2)) ∧ w'.cell? ⟨ad103.block, ad103.off + 3, none⟩ = some (.float .f32 ((rd_T27 l0 0).f3)) ∧ w'.cell? ⟨ad103.block, ad103.off + 4, none⟩ = some (.float .f32 ((rd_T27 l0 0).f4)) ∧ w'.cell? ad103 = some (.float .f32 ((rd_T27 l0 0).f0)) ∧ w'.cell? ⟨ad103.block, ad103.off + 1, none⟩ = some (.float .f32 ((rd_T27 l0 0).f1)) ∧ w'.cell? ⟨ad103.block, ad103.off + 2, none⟩ = some (.float .f32 ((rd_T27 l0 0).f2)) ∧ w'.cell? ⟨ad103.block, ad103.off + 3, none⟩ = some (.float .f32 ((rd_T27 l0 0).f3)) ∧ w'.cell? ⟨ad103.block, ad103.off + 4, none⟩ = some (.float .f32 ((rd_T27 l0 0).f4)) ∧ w'.cell? ad103 = some (.float .f32 ((rd_T27 l0 0).f0)) ∧ w'.cell? ⟨ad103.block, ad103.off + 1, none⟩ = some (.float .f32 ((rd_T27 l0 0).f1)) ∧ w'.cell? ⟨ad103.block, ad103.off + 2, none⟩ = some (.float .f32 ((rd_T27 l0 0).f2)) ∧ w'.cell? ⟨ad103.block, ad103.off + 3, none⟩ = some (.float .f32 ((rd_T27 l0 0).f3)) ∧ w'.cell? ⟨ad103.block, ad103.off + 4, none⟩ = some (.float .f32 ((rd_T27 l0 0).f4))) (ds := []) spec_l03Throat.z0 (by kernel_rfl) rfl rfl ⟨(cu HB.out hw103_0), (cu HB.out hw103_1), (cu HB.out hw103_2), (cu HB.out hw103_3), (cu HB.out hw103_4), (cu HB.out hw104_0), (cu HB.out hw104_1), (cu HB.out hw104_2), (cu HB.out hw104_3), (cu HB.out hw104_4), (cu HB.out hw105_0), (cu HB.out hw105_1), (cu HB.out hw105_2), (cu HB.out hw105_3), (cu HB.out hw105_4), (cu HB.out hw106_0), (cu HB.out hw106_1), (cu HB.out hw106_2), (cu HB.out hw106_3), (cu HB.out hw106_4), (cu HB.out hw107_0), (cu HB.out hw107_1), (cu HB.out hw107_2), (cu HB.out hw107_3), (cu HB.out hw107_4), (cu HB.out hw108_0), (cu HB.out hw108_1), (cu HB.out hw108_2), (cu HB.out hw108_3), (cu HB.out hw108_4), (cu HB.out hw110_0), (cu HB.out hw110_1), (cu HB.out hw110_2), (cu HB.out hw110_3), (cu HB.out hw110_4), (cu HB.out hw111_0), (cu HB.out hw111_1), (cu HB.out hw111_2), (cu HB.out hw111_3), (cu HB.out hw111_4), (cu HB.out hw113_0), (cu HB.out hw113_1), (cu HB.out hw113_2), (cu HB.out hw113_3), (cu HB.out hw113_4), (cu HB.out hw114_0), (cu HB.out hw114_1), (cu HB.out hw114_2), (cu HB.out hw114_3), (cu HB.out hw114_4), (cu HB.out hw115_0), (cu HB.out hw115_1), (cu HB.out hw115_2), (cu HB.out hw115_3), (cu HB.out hw115_4), (cu HB.out hw116_0), (cu HB.out hw116_1), (cu HB.out hw116_2), (cu HB.out hw116_3), (cu HB.out hw116_4)⟩ (fun hHeld => ?_); refine with_tabW spec_l03Throat.tab1 spec_l03Throat.bits1 (fun HT_ HW_ => ?_)
                generalize w.drew = w17 at HB hx103_0 hx103_1 hx103_2 hx103_3 hx103_4 hx104_0 hx104_1 hx104_2 hx104_3 hx104_4 hx105_0 hx105_1 hx105_2 hx105_3 hx105_4 hx106_0 hx106_1 hx106_2 hx106_3 hx106_4 hx107_0 hx107_1 hx107_2 hx107_3 hx107_4 hx108_0 hx108_1 hx108_2 hx108_3 hx108_4 hx110_0 hx110_1 hx110_2 hx110_3 hx110_4 hx111_0 hx111_1 hx111_2 hx111_3 hx111_4 hx113_0 hx113_1 hx113_2 hx113_3 hx113_4 hx114_0 hx114_1 hx114_2 hx114_3 hx114_4 hx115_0 hx115_1 hx115_2 hx115_3 hx115_4 hx116_0 hx116_1 hx116_2 hx116_3 hx116_4 hHeld ⊢
                refine pure_ (i := 0) (N := some 3) (v := ?_) (a' := ?_) spec_l03Throat.z1 rfl rfl (any_of HT_.out (by kernel_rfl)) (fun _ _ _ h => h) (Or.inl ⟨by rfl, ?_⟩) ?_ ?_
                rotate_left
                · intro w'
                  go_simp
                  with_reducible rfl
                rotate_left
                · simp only [Act.put, List.setIfInBounds_toArray, List.set_cons_zero, List.set_cons_succ, i64_w, i32_w]
                  rfl
                refine pure_ (i := 1) (N := some 4) (v := ?_) (a' := ?_) spec_l03Throat.z2 rfl rfl (any_of HT_.out (by kernel_rfl)) (fun _ _ _ h => h) (Or.inl ⟨by rfl, ?_⟩) ?_ ?_
                rotate_left
                · intro w'
                  go_simp
                  with_reducible rfl
                rotate_left
                · simp only [Act.put, List.setIfInBounds_toArray, List.set_cons_zero, List.set_cons_succ, i64_w, i32_w]
                  rfl
                refine pure_ (i := 2) (N := some 5) (v := ?_) (a' := ?_) spec_l03Throat.z3 rfl rfl (any_of HT_.out (by kernel_rfl)) (fun _ _ _ h => h) (Or.inl ⟨by rfl, ?_⟩) ?_ ?_
                rotate_left
                · intro w'
                  go_simp
                  with_reducible rfl
                rotate_left
                · simp only [Act.put, List.setIfInBounds_toArray, List.set_cons_zero, List.set_cons_succ, i64_w, i32_w]
                  rfl
                refine take_ (i := 3) (N := some 6) (v := ?_) (a' := ?_) spec_l03Throat.z4 rfl rfl (take_ofW HT_.out HW_.out (by kernel_rfl)) (fun _ _ _ h => h) (Or.inl ⟨by rfl, ?_⟩) hHeld ?_ ?_
                rotate_left
                · rintro w' ⟨s0, s1, s2, s3, s4, s5, s6, s7, s8, s9, s10, s11, s12, s13, s14, s15, s16, s17, s18, s19, s20, s21, s22, s23, s24, s25, s26, s27, s28, s29, s30, s31, s32, s33, s34, s35, s36, s37, s38, s39, s40, s41, s42, s43, s44, s45, s46, s47, s48, s49, s50, s51, s52, s53, s54, s55, s56, s57, s58, s59⟩
                  go_simp
                  with_reducible rfl
                rotate_left
                · simp only [Act.put, List.setIfInBounds_toArray, List.set_cons_zero, List.set_cons_succ, i64_w, i32_w]
                  rfl
                refine pure_ (i := 4) (N := some 7) (v := ?_) (a' := ?_) spec_l03Throat.z5 rfl rfl (any_of HT_.out (by kernel_rfl)) (fun _ _ _ h => h) (Or.inl ⟨by rfl, ?_⟩) ?_ ?_
                rotate_left
                · intro w'
                  go_simp
                  with_reducible rfl
                rotate_left
                · simp only [Act.put, List.setIfInBounds_toArray, List.set_cons_zero, List.set_cons_succ, i64_w, i32_w]
                  rfl
                refine pure_ (i := 5) (N := some 8) (v := ?_) (a' := ?_) spec_l03Throat.z6 rfl rfl (any_of HT_.out (by kernel_rfl)) (fun _ _ _ h => h) (Or.inl ⟨by rfl, ?_⟩) ?_ ?_
                rotate_left
                · intro w'
                  go_simp
                  with_reducible rfl
                rotate_left
                · simp only [Act.put, List.setIfInBounds_toArray, List.set_cons_zero, List.set_cons_succ, i64_w, i32_w]
                  rfl
                refine pure_ (i := 6) (N := some 9) (v := ?_) (a' := ?_) spec_l03Throat.z7 rfl rfl (any_of HT_.out (by kernel_rfl)) (fun _ _ _ h => h) (Or.inl ⟨by rfl, ?_⟩) ?_ ?_
                rotate_left
                · intro w'
                  go_simp
                  with_reducible rfl
                rotate_left
                · simp only [Act.put, List.setIfInBounds_toArray, List.set_cons_zero, List.set_cons_succ, i64_w, i32_w]
                  rfl
                refine pure_ (i := 7) (N := some 10) (v := ?_) (a' := ?_) spec_l03Throat.z8 rfl rfl (any_of HT_.out (by kernel_rfl)) (fun _ _ _ h => h) (Or.inl ⟨by rfl, ?_⟩) ?_ ?_
                rotate_left
                · intro w'
                  go_simp
                  with_reducible rfl
                rotate_left
                · simp only [Act.put, List.setIfInBounds_toArray, List.set_cons_zero, List.set_cons_succ, i64_w, i32_w]
                  rfl
                refine pure_ (i := 8) (N := some 11) (v := ?_) (a' := ?_) spec_l03Throat.z9 rfl rfl (any_of HT_.out (by kernel_rfl)) (fun _ _ _ h => h) (Or.inl ⟨by rfl, ?_⟩) ?_ ?_
                rotate_left
                · intro w'
                  go_simp
                  with_reducible rfl
                rotate_left
                · simp only [Act.put, List.setIfInBounds_toArray, List.set_cons_zero, List.set_cons_succ, i64_w, i32_w]
                  rfl
                refine take_ (i := 9) (N := some 12) (v := ?_) (a' := ?_) spec_l03Throat.z10 rfl rfl (take_ofW HT_.out HW_.out (by kernel_rfl)) (fun _ _ _ h => h) (Or.inl ⟨by rfl, ?_⟩) hHeld ?_ ?_
                rotate_left
                · rintro w' ⟨s0, s1, s2, s3, s4, s5, s6, s7, s8, s9, s10, s11, s12, s13, s14, s15, s16, s17, s18, s19, s20, s21, s22, s23, s24, s25, s26, s27, s28, s29, s30, s31, s32, s33, s34, s35, s36, s37, s38, s39, s40, s41, s42, s43, s44, s45, s46, s47, s48, s49, s50, s51, s52, s53, s54, s55, s56, s57, s58, s59⟩
                  go_simp
                  with_reducible rfl
                rotate_left
                · simp only [Act.put, List.setIfInBounds_toArray, List.set_cons_zero, List.set_cons_succ, i64_w, i32_w]
                  rfl
                refine pure_ (i := 10) (N := some 13) (v := ?_) (a' := ?_) spec_l03Throat.z11 rfl rfl (any_of HT_.out (by kernel_rfl)) (fun _ _ _ h => h) (Or.inl ⟨by rfl, ?_⟩) ?_ ?_
                rotate_left
                · intro w'
                  go_simp
                  with_reducible rfl
                rotate_left
                · simp only [Act.put, List.setIfInBounds_toArray, List.set_cons_zero, List.set_cons_succ, i64_w, i32_w]
                  rfl
                refine pure_ (i := 11) (N := some 14) (v := ?_) (a' := ?_) spec_l03Throat.z12 rfl rfl (any_of HT_.out (by kernel_rfl)) (fun _ _ _ h => h) (Or.inl ⟨by rfl, ?_⟩) ?_ ?_
                rotate_left
                · intro w'
                  go_simp
                  with_reducible rfl
                rotate_left
                · simp only [Act.put, List.setIfInBounds_toArray, List.set_cons_zero, List.set_cons_succ, i64_w, i32_w]
                  rfl
                refine pure_ (i := 12) (N := some 15) (v := ?_) (a' := ?_) spec_l03Throat.z13 rfl rfl (any_of HT_.out (by kernel_rfl)) (fun _ _ _ h => h) (Or.inl ⟨by rfl, ?_⟩) ?_ ?_
                rotate_left
                · intro w'
                  go_simp
                  with_reducible rfl
                rotate_left
                · simp only [Act.put, List.setIfInBounds_toArray, List.set_cons_zero, List.set_cons_succ, i64_w, i32_w]
                  rfl
                refine pure_ (i := 13) (N := some 16) (v := ?_) (a' := ?_) spec_l03Throat.z14 rfl rfl (any_of HT_.out (by kernel_rfl)) (fun _ _ _ h => h) (Or.inl ⟨by rfl, ?_⟩) ?_ ?_
                rotate_left
                · intro w'
                  go_simp
                  with_reducible rfl
                rotate_left
                · simp only [Act.put, List.setIfInBounds_toArray, List.set_cons_zero, List.set_cons_succ, i64_w, i32_w]
                  rfl
                refine pure_ (i := 14) (N := some 17) (v := ?_) (a' := ?_) spec_l03Throat.z15 rfl rfl (any_of HT_.out (by kernel_rfl)) (fun _ _ _ h => h) (Or.inl ⟨by rfl, ?_⟩) ?_ ?_
                rotate_left
                · intro w'
                  go_simp
                  with_reducible rfl
                rotate_left
                · simp only [Act.put, List.setIfInBounds_toArray, List.set_cons_zero, List.set_cons_succ, i64_w, i32_w]
                  rfl
                refine pure_ (i := 15) (N := some 18) (v := ?_) (a' := ?_) spec_l03Throat.z16 rfl rfl (any_of HT_.out (by kernel_rfl)) (fun _ _ _ h => h) (Or.inl ⟨by rfl, ?_⟩) ?_ ?_
                rotate_left
                · intro w'
                  go_simp
                  with_reducible rfl
                rotate_left
                · simp only [Act.put, List.setIfInBounds_toArray, List.set_cons_zero, List.set_cons_succ, i64_w, i32_w]
                  rfl
                refine take_ (i := 16) (N := some 19) (v := ?_) (a' := ?_) spec_l03Throat.z17 rfl rfl (take_ofW HT_.out HW_.out (by kernel_rfl)) (fun _ _ _ h => h) (Or.inl ⟨by rfl, ?_⟩) hHeld ?_ ?_
                rotate_left
                · rintro w' ⟨s0, s1, s2, s3, s4, s5, s6, s7, s8, s9, s10, s11, s12, s13, s14, s15, s16, s17, s18, s19, s20, s21, s22, s23, s24, s25, s26, s27, s28, s29, s30, s31, s32, s33, s34, s35, s36, s37, s38, s39, s40, s41, s42, s43, s44, s45, s46, s47, s48, s49, s50, s51, s52, s53, s54, s55, s56, s57, s58, s59⟩
                  go_simp
                  with_reducible rfl
                rotate_left
                · simp only [Act.put, List.setIfInBounds_toArray, List.set_cons_zero, List.set_cons_succ, i64_w, i32_w]
                  rfl
                refine one_ (i := 17) (N := some 20) spec_l03Throat.z18 rfl rfl (one_of HT_.out (by kernel_rfl)) (by decide) (fun K hK => ?_)
                refine goes_ Tryd.func105 (by kernel_rfl) rfl #[.float .f32 ((rd_T27 l0 0).f1)] (by rfl) rfl rfl (by (try simp only [List.map_toArray, List.map_cons, List.map_nil]); first | done | rfl | (simp only [List.length_drop, List.length_take]; rfl)) ?_
                with_reducible refine (spec_l02Above.calls ((rd_T27 l0 0).f1) true _ A5.out).mono ?_
                rintro e w' ⟨rfl, ⟨nd, rfl⟩⟩
                refine ⟨_, rfl, ?_⟩
                refine hK.out _ _ ⟨(cv HB.out hw103_0), (cv HB.out hw103_1), (cv HB.out hw103_2), (cv HB.out hw103_3), (cv HB.out hw103_4), (cv HB.out hw104_0), (cv HB.out hw104_1), (cv HB.out hw104_2), (cv HB.out hw104_3), (cv HB.out hw104_4), (cv HB.out hw105_0), (cv HB.out hw105_1), (cv HB.out hw105_2), (cv HB.out hw105_3), (cv HB.out hw105_4), (cv HB.out hw106_0), (cv HB.out hw106_1), (cv HB.out hw106_2), (cv HB.out hw106_3), (cv HB.out hw106_4), (cv HB.out hw107_0), (cv HB.out hw107_1), (cv HB.out hw107_2), (cv HB.out hw107_3), (cv HB.out hw107_4), (cv HB.out hw108_0), (cv HB.out hw108_1), (cv HB.out hw108_2), (cv HB.out hw108_3), (cv HB.out hw108_4), (cv HB.out hw110_0), (cv HB.out hw110_1), (cv HB.out hw110_2), (cv HB.out hw110_3), (cv HB.out hw110_4), (cv HB.out hw111_0), (cv HB.out hw111_1), (cv HB.out hw111_2), (cv HB.out hw111_3), (cv HB.out hw111_4), (cv HB.out hw113_0), (cv HB.out hw113_1), (cv HB.out hw113_2), (cv HB.out hw113_3), (cv HB.out hw113_4), (cv HB.out hw114_0), (cv HB.out hw114_1), (cv HB.out hw114_2), (cv HB.out hw114_3), (cv HB.out hw114_4), (cv HB.out hw115_0), (cv HB.out hw115_1), (cv HB.out hw115_2), (cv HB.out hw115_3), (cv HB.out hw115_4), (cv HB.out hw116_0), (cv HB.out hw116_1), (cv HB.out hw116_2), (cv HB.out hw116_3), (cv HB.out hw116_4)⟩ (fun hHeld => ?_)
                clear hK K
                refine norm_ (a' := ?_) ?_ ?_
                rotate_left
                · show Act.put _ (some 20) _ = _
                  simp only [Act.put, List.setIfInBounds_toArray, List.set_cons_zero, List.set_cons_succ, i64_w, i32_w]
                  rfl
                refine pure_ (i := 18) (N := some 21) (v := ?_) (a' := ?_) spec_l03Throat.z19 rfl rfl (any_of HT_.out (by kernel_rfl)) (fun _ _ _ h => h) (Or.inl ⟨by rfl, ?_⟩) ?_ ?_
                rotate_left
                · intro w'
                  go_simp
                  with_reducible rfl
                rotate_left
                · simp only [Act.put, List.setIfInBounds_toArray, List.set_cons_zero, List.set_cons_succ, i64_w, i32_w]
                  rfl
                refine pure_ (i := 19) (N := some 22) (v := ?_) (a' := ?_) spec_l03Throat.z20 rfl rfl (any_of HT_.out (by kernel_rfl)) (fun _ _ _ h => h) (Or.inl ⟨by rfl, ?_⟩) ?_ ?_
                rotate_left
                · intro w'
                  go_simp
                  with_reducible rfl
                rotate_left
                · simp only [Act.put, List.setIfInBounds_toArray, List.set_cons_zero, List.set_cons_succ, i64_w, i32_w]
                  rfl
                refine pure_ (i := 20) (N := some 23) (v := ?_) (a' := ?_) spec_l03Throat.z21 rfl rfl (any_of HT_.out (by kernel_rfl)) (fun _ _ _ h => h) (Or.inl ⟨by rfl, ?_⟩) ?_ ?_
                rotate_left
                · intro w'
                  go_simp
                  with_reducible rfl
                rotate_left
                · simp only [Act.put, List.setIfInBounds_toArray, List.set_cons_zero, List.set_cons_succ, i64_w, i32_w]
                  rfl
                refine pure_ (i := 21) (N := some 24) (v := ?_) (a' := ?_) spec_l03Throat.z22 rfl rfl (any_of HT_.out (by kernel_rfl)) (fun _ _ _ h => h) (Or.inl ⟨by rfl, ?_⟩) ?_ ?_
                rotate_left
                · intro w'
                  go_simp
                  with_reducible rfl
                rotate_left
                · simp only [Act.put, List.setIfInBounds_toArray, List.set_cons_zero, List.set_cons_succ, i64_w, i32_w]
                  rfl
                refine pure_ (i := 22) (N := some 25) (v := ?_) (a' := ?_) spec_l03Throat.z23 rfl rfl (any_of HT_.out (by kernel_rfl)) (fun _ _ _ h => h) (Or.inl ⟨by rfl, ?_⟩) ?_ ?_
                rotate_left
                · intro w'
                  go_simp
                  with_reducible rfl
                rotate_left
                · simp only [Act.put, List.setIfInBounds_toArray, List.set_cons_zero, List.set_cons_succ, i64_w, i32_w]
                  rfl
                refine take_ (i := 23) (N := some 26) (v := ?_) (a' := ?_) spec_l03Throat.z24 rfl rfl (take_ofW HT_.out HW_.out (by kernel_rfl)) (fun _ _ _ h => h) (Or.inl ⟨by rfl, ?_⟩) hHeld ?_ ?_
                rotate_left
                · rintro w' ⟨s0, s1, s2, s3, s4, s5, s6, s7, s8, s9, s10, s11, s12, s13, s14, s15, s16, s17, s18, s19, s20, s21, s22, s23, s24, s25, s26, s27, s28, s29, s30, s31, s32, s33, s34, s35, s36, s37, s38, s39, s40, s41, s42, s43, s44, s45, s46, s47, s48, s49, s50, s51, s52, s53, s54, s55, s56, s57, s58, s59⟩
                  go_simp
                  with_reducible rfl
                rotate_left
                · simp only [Act.put, List.setIfInBounds_toArray, List.set_cons_zero, List.set_cons_succ, i64_w, i32_w]
                  rfl
                refine one_ (i := 24) (N := some 27) spec_l03Throat.z25 rfl rfl (one_of HT_.out (by kernel_rfl)) (by decide) (fun K hK => ?_)
                refine goes_ Tryd.func105 (by kernel_rfl) rfl #[.float .f32 ((rd_T27 l0 0).f2)] (by rfl) rfl rfl (by (try simp only [List.map_toArray, List.map_cons, List.map_nil]); first | done | rfl | (simp only [List.length_drop, List.length_take]; rfl)) ?_
                with_reducible refine (spec_l02Above.calls ((rd_T27 l0 0).f2) true _ A7.out).mono ?_
                rintro e w' ⟨rfl, ⟨nd, rfl⟩⟩
                refine ⟨_, rfl, ?_⟩
                refine hK.out _ _ ⟨(cw HB.out hw103_0), (cw HB.out hw103_1), (cw HB.out hw103_2), (cw HB.out hw103_3), (cw HB.out hw103_4), (cw HB.out hw104_0), (cw HB.out hw104_1), (cw HB.out hw104_2), (cw HB.out hw104_3), (cw HB.out hw104_4), (cw HB.out hw105_0), (cw HB.out hw105_1), (cw HB.out hw105_2), (cw HB.out hw105_3), (cw HB.out hw105_4), (cw HB.out hw106_0), (cw HB.out hw106_1), (cw HB.out hw106_2), (cw HB.out hw106_3), (cw HB.out hw106_4), (cw HB.out hw107_0), (cw HB.out hw107_1), (cw HB.out hw107_2), (cw HB.out hw107_3), (cw HB.out hw107_4), (cw HB.out hw108_0), (cw HB.out hw108_1), (cw HB.out hw108_2), (cw HB.out hw108_3), (cw HB.out hw108_4), (cw HB.out hw110_0), (cw HB.out hw110_1), (cw HB.out hw110_2), (cw HB.out hw110_3), (cw HB.out hw110_4), (cw HB.out hw111_0), (cw HB.out hw111_1), (cw HB.out hw111_2), (cw HB.out hw111_3), (cw HB.out hw111_4), (cw HB.out hw113_0), (cw HB.out hw113_1), (cw HB.out hw113_2), (cw HB.out hw113_3), (cw HB.out hw113_4), (cw HB.out hw114_0), (cw HB.out hw114_1), (cw HB.out hw114_2), (cw HB.out hw114_3), (cw HB.out hw114_4), (cw HB.out hw115_0), (cw HB.out hw115_1), (cw HB.out hw115_2), (cw HB.out hw115_3), (cw HB.out hw115_4), (cw HB.out hw116_0), (cw HB.out hw116_1), (cw HB.out hw116_2), (cw HB.out hw116_3), (cw HB.out hw116_4)⟩ (fun hHeld => ?_)
                clear hK K
                refine norm_ (a' := ?_) ?_ ?_
                rotate_left
                · show Act.put _ (some 27) _ = _
                  simp only [Act.put, List.setIfInBounds_toArray, List.set_cons_zero, List.set_cons_succ, i64_w, i32_w]
                  rfl
                refine pure_ (i := 25) (N := some 28) (v := ?_) (a' := ?_) spec_l03Throat.z26 rfl rfl (any_of HT_.out (by kernel_rfl)) (fun _ _ _ h => h) (Or.inl ⟨by rfl, ?_⟩) ?_ ?_
                rotate_left
                · intro w'
                  go_simp
                  with_reducible rfl
                rotate_left
                · simp only [Act.put, List.setIfInBounds_toArray, List.set_cons_zero, List.set_cons_succ, i64_w, i32_w]
                  rfl
                refine pure_ (i := 26) (N := some 29) (v := ?_) (a' := ?_) spec_l03Throat.z27 rfl rfl (any_of HT_.out (by kernel_rfl)) (fun _ _ _ h => h) (Or.inl ⟨by rfl, ?_⟩) ?_ ?_
                rotate_left
                · intro w'
                  go_simp
                  with_reducible rfl
                rotate_left
                · simp only [Act.put, List.setIfInBounds_toArray, List.set_cons_zero, List.set_cons_succ, i64_w, i32_w]
                  rfl
                refine pure_ (i := 27) (N := some 30) (v := ?_) (a' := ?_) spec_l03Throat.z28 rfl rfl (any_of HT_.out (by kernel_rfl)) (fun _ _ _ h => h) (Or.inl ⟨by rfl, ?_⟩) ?_ ?_
                rotate_left
                · intro w'
                  go_simp
                  with_reducible rfl
                rotate_left
                · simp only [Act.put, List.setIfInBounds_toArray, List.set_cons_zero, List.set_cons_succ, i64_w, i32_w]
                  rfl
                refine pure_ (i := 28) (N := some 31) (v := ?_) (a' := ?_) spec_l03Throat.z29 rfl rfl (any_of HT_.out (by kernel_rfl)) (fun _ _ _ h => h) (Or.inl ⟨by rfl, ?_⟩) ?_ ?_
                rotate_left
                · intro w'
                  go_simp
                  with_reducible rfl
                rotate_left
                · simp only [Act.put, List.setIfInBounds_toArray, List.set_cons_zero, List.set_cons_succ, i64_w, i32_w]
                  rfl
                refine pure_ (i := 29) (N := some 32) (v := ?_) (a' := ?_) spec_l03Throat.z30 rfl rfl (any_of HT_.out (by kernel_rfl)) (fun _ _ _ h => h) (Or.inl ⟨by rfl, ?_⟩) ?_ ?_
                rotate_left
                · intro w'
                  go_simp
                  with_reducible rfl
                rotate_left
                · simp only [Act.put, List.setIfInBounds_toArray, List.set_cons_zero, List.set_cons_succ, i64_w, i32_w]
                  rfl
                refine pure_ (i := 31) (N := some 34) (v := ?_) (a' := ?_) spec_l03Throat.z31 rfl rfl (any_of HT_.out (by kernel_rfl)) (fun _ _ _ h => h) (Or.inl ⟨by rfl, ?_⟩) ?_ ?_
                rotate_left
                · intro w'
                  go_simp
                  with_reducible rfl
                rotate_left
                · simp only [Act.put, List.setIfInBounds_toArray, List.set_cons_zero, List.set_cons_succ, i64_w, i32_w]
                  rfl
                refine pure_ (i := 32) (N := some 35) (v := ?_) (a' := ?_) spec_l03Throat.z32 rfl rfl (any_of HT_.out (by kernel_rfl)) (fun _ _ _ h => h) (Or.inl ⟨by rfl, ?_⟩) ?_ ?_
                rotate_left
                · intro w'
                  go_simp
                  with_reducible rfl
                rotate_left
                · simp only [Act.put, List.setIfInBounds_toArray, List.set_cons_zero, List.set_cons_succ, i64_w, i32_w]
                  rfl
                refine pure_ (i := 33) (N := some 36) (v := ?_) (a' := ?_) spec_l03Throat.z33 rfl rfl (any_of HT_.out (by kernel_rfl)) (fun _ _ _ h => h) (Or.inl ⟨by rfl, ?_⟩) ?_ ?_
                rotate_left
                · intro w'
                  go_simp
                  with_reducible rfl
                rotate_left
                · simp only [Act.put, List.setIfInBounds_toArray, List.set_cons_zero, List.set_cons_succ, i64_w, i32_w]
                  rfl
                refine take_ (i := 30) (N := some 33) (v := ?_) (a' := ?_) spec_l03Throat.z34 rfl rfl (take_ofW HT_.out HW_.out (by kernel_rfl)) (fun _ _ _ h => h) (Or.inl ⟨by rfl, ?_⟩) hHeld ?_ ?_
                rotate_left
                · rintro w' ⟨s0, s1, s2, s3, s4, s5, s6, s7, s8, s9, s10, s11, s12, s13, s14, s15, s16, s17, s18, s19, s20, s21, s22, s23, s24, s25, s26, s27, s28, s29, s30, s31, s32, s33, s34, s35, s36, s37, s38, s39, s40, s41, s42, s43, s44, s45, s46, s47, s48, s49, s50, s51, s52, s53, s54, s55, s56, s57, s58, s59⟩
                  go_simp
                  with_reducible rfl
                rotate_left
                · simp only [Act.put, List.setIfInBounds_toArray, List.set_cons_zero, List.set_cons_succ, i64_w, i32_w]
                  rfl
                refine take_ (i := 34) (N := some 37) (v := ?_) (a' := ?_) spec_l03Throat.z35 rfl rfl (take_ofW HT_.out HW_.out (by kernel_rfl)) (fun _ _ _ h => h) (Or.inl ⟨by rfl, ?_⟩) hHeld ?_ ?_
                rotate_left
                · rintro w' ⟨s0, s1, s2, s3, s4, s5, s6, s7, s8, s9, s10, s11, s12, s13, s14, s15, s16, s17, s18, s19, s20, s21, s22, s23, s24, s25, s26, s27, s28, s29, s30, s31, s32, s33, s34, s35, s36, s37, s38, s39, s40, s41, s42, s43, s44, s45, s46, s47, s48, s49, s50, s51, s52, s53, s54, s55, s56, s57, s58, s59⟩
                  go_simp
                  with_reducible rfl
                rotate_left
                · simp only [Act.put, List.setIfInBounds_toArray, List.set_cons_zero, List.set_cons_succ, i64_w, i32_w]
                  rfl
                refine pure_ (i := 35) (N := some 38) (v := ?_) (a' := ?_) spec_l03Throat.z36 rfl rfl (any_of HT_.out (by kernel_rfl)) (fun _ _ _ h => h) (Or.inl ⟨by rfl, ?_⟩) ?_ ?_
                rotate_left
                · intro w'
                  go_simp
                  with_reducible rfl
                rotate_left
                · simp only [Act.put, List.setIfInBounds_toArray, List.set_cons_zero, List.set_cons_succ, i64_w, i32_w]
                  rfl
                refine pure_ (i := 36) (N := some 39) (v := ?_) (a' := ?_) spec_l03Throat.z37 rfl rfl (any_of HT_.out (by kernel_rfl)) (fun _ _ _ h => h) (Or.inl ⟨by rfl, ?_⟩) ?_ ?_
                rotate_left
                · intro w'
                  go_simp
                  with_reducible rfl
                rotate_left
                · simp only [Act.put, List.setIfInBounds_toArray, List.set_cons_zero, List.set_cons_succ, i64_w, i32_w]
                  rfl
                refine pure_ (i := 37) (N := some 40) (v := ?_) (a' := ?_) spec_l03Throat.z38 rfl rfl (any_of HT_.out (by kernel_rfl)) (fun _ _ _ h => h) (Or.inl ⟨by rfl, ?_⟩) ?_ ?_
                rotate_left
                · intro w'
                  go_simp
                  with_reducible rfl
                rotate_left
                · simp only [Act.put, List.setIfInBounds_toArray, List.set_cons_zero, List.set_cons_succ, i64_w, i32_w]
                  rfl
                refine pure_ (i := 38) (N := some 41) (v := ?_) (a' := ?_) spec_l03Throat.z39 rfl rfl (any_of HT_.out (by kernel_rfl)) (fun _ _ _ h => h) (Or.inl ⟨by rfl, ?_⟩) ?_ ?_
                rotate_left
                · intro w'
                  go_simp
                  with_reducible rfl
                rotate_left
                · simp only [Act.put, List.setIfInBounds_toArray, List.set_cons_zero, List.set_cons_succ, i64_w, i32_w]
                  rfl
                refine pure_ (i := 39) (N := some 42) (v := undef) (a' := ?_) spec_l03Throat.z40 rfl rfl (any_of HT_.out (by kernel_rfl)) (fun _ _ _ h => h) (Or.inr ⟨by rfl, rfl⟩) ?_ ?_
                rotate_left
                · simp only [Act.put, List.setIfInBounds_toArray, List.set_cons_zero, List.set_cons_succ, i64_w, i32_w]
                  rfl
                refine pure_ (i := 40) (N := some 43) (v := undef) (a' := ?_) spec_l03Throat.z41 rfl rfl (any_of HT_.out (by kernel_rfl)) (fun _ _ _ h => h) (Or.inr ⟨by rfl, rfl⟩) ?_ ?_
                rotate_left
                · simp only [Act.put, List.setIfInBounds_toArray, List.set_cons_zero, List.set_cons_succ, i64_w, i32_w]
                  rfl
                refine pure_ (i := 41) (N := some 44) (v := undef) (a' := ?_) spec_l03Throat.z42 rfl rfl (any_of HT_.out (by kernel_rfl)) (fun _ _ _ h => h) (Or.inr ⟨by rfl, rfl⟩) ?_ ?_
                rotate_left
                · simp only [Act.put, List.setIfInBounds_toArray, List.set_cons_zero, List.set_cons_succ, i64_w, i32_w]
                  rfl
                refine pure_ (i := 42) (N := some 45) (v := undef) (a' := ?_) spec_l03Throat.z43 rfl rfl (any_of HT_.out (by kernel_rfl)) (fun _ _ _ h => h) (Or.inr ⟨by rfl, rfl⟩) ?_ ?_
                rotate_left
                · simp only [Act.put, List.setIfInBounds_toArray, List.set_cons_zero, List.set_cons_succ, i64_w, i32_w]
                  rfl
                refine pure_ (i := 43) (N := some 46) (v := undef) (a' := ?_) spec_l03Throat.z44 rfl rfl (any_of HT_.out (by kernel_rfl)) (fun _ _ _ h => h) (Or.inr ⟨by rfl, rfl⟩) ?_ ?_
                rotate_left
                · simp only [Act.put, List.setIfInBounds_toArray, List.set_cons_zero, List.set_cons_succ, i64_w, i32_w]
                  rfl
                refine pure_ (i := 44) (N := some 47) (v := ?_) (a' := ?_) spec_l03Throat.z45 rfl rfl (any_of HT_.out (by kernel_rfl)) (fun _ _ _ h => h) (Or.inl ⟨by rfl, ?_⟩) ?_ ?_
                rotate_left
                · intro w'
                  go_simp
                  with_reducible rfl
                rotate_left
                · simp only [Act.put, List.setIfInBounds_toArray, List.set_cons_zero, List.set_cons_succ, i64_w, i32_w]
                  rfl
                refine pure_ (i := 45) (N := some 48) (v := ?_) (a' := ?_) spec_l03Throat.z46 rfl rfl (any_of HT_.out (by kernel_rfl)) (fun _ _ _ h => h) (Or.inl ⟨by rfl, ?_⟩) ?_ ?_
                rotate_left
                · intro w'
                  go_simp
                  with_reducible rfl
                rotate_left
                · simp only [Act.put, List.setIfInBounds_toArray, List.set_cons_zero, List.set_cons_succ, i64_w, i32_w]
                  rfl
                refine pure_ (i := 46) (N := some 49) (v := undef) (a' := ?_) spec_l03Throat.z47 rfl rfl (any_of HT_.out (by kernel_rfl)) (fun _ _ _ h => h) (Or.inr ⟨by rfl, rfl⟩) ?_ ?_
                rotate_left
                · simp only [Act.put, List.setIfInBounds_toArray, List.set_cons_zero, List.set_cons_succ, i64_w, i32_w]
                  rfl
                refine pure_ (i := 47) (N := some 50) (v := undef) (a' := ?_) spec_l03Throat.z48 rfl rfl (any_of HT_.out (by kernel_rfl)) (fun _ _ _ h => h) (Or.inr ⟨by rfl, rfl⟩) ?_ ?_
                rotate_left
                · simp only [Act.put, List.setIfInBounds_toArray, List.set_cons_zero, List.set_cons_succ, i64_w, i32_w]
                  rfl
                refine pure_ (i := 48) (N := some 51) (v := undef) (a' := ?_) spec_l03Throat.z49 rfl rfl (any_of HT_.out (by kernel_rfl)) (fun _ _ _ h => h) (Or.inr ⟨by rfl, rfl⟩) ?_ ?_
                rotate_left
                · simp only [Act.put, List.setIfInBounds_toArray, List.set_cons_zero, List.set_cons_succ, i64_w, i32_w]
                  rfl
                refine pure_ (i := 49) (N := some 52) (v := undef) (a' := ?_) spec_l03Throat.z50 rfl rfl (any_of HT_.out (by kernel_rfl)) (fun _ _ _ h => h) (Or.inr ⟨by rfl, rfl⟩) ?_ ?_
                rotate_left
                · simp only [Act.put, List.setIfInBounds_toArray, List.set_cons_zero, List.set_cons_succ, i64_w, i32_w]
                  rfl
                refine pure_ (i := 50) (N := some 53) (v := undef) (a' := ?_) spec_l03Throat.z51 rfl rfl (any_of HT_.out (by kernel_rfl)) (fun _ _ _ h => h) (Or.inr ⟨by rfl, rfl⟩) ?_ ?_
                rotate_left
                · simp only [Act.put, List.setIfInBounds_toArray, List.set_cons_zero, List.set_cons_succ, i64_w, i32_w]
                  rfl
                refine pure_ (i := 51) (N := some 54) (v := ?_) (a' := ?_) spec_l03Throat.z52 rfl rfl (any_of HT_.out (by kernel_rfl)) (fun _ _ _ h => h) (Or.inl ⟨by rfl, ?_⟩) ?_ ?_
                rotate_left
                · intro w'
                  go_simp
                  with_reducible rfl
                rotate_left
                · simp only [Act.put, List.setIfInBounds_toArray, List.set_cons_zero, List.set_cons_succ, i64_w, i32_w]
                  rfl
                refine pure_ (i := 52) (N := some 55) (v := ?_) (a' := ?_) spec_l03Throat.z53 rfl rfl (any_of HT_.out (by kernel_rfl)) (fun _ _ _ h => h) (Or.inl ⟨by rfl, ?_⟩) ?_ ?_
                rotate_left
                · intro w'
                  go_simp
                  with_reducible rfl
                rotate_left
                · simp only [Act.put, List.setIfInBounds_toArray, List.set_cons_zero, List.set_cons_succ, i64_w, i32_w]
                  rfl
                refine pure_ (i := 53) (N := some 56) (v := undef) (a' := ?_) spec_l03Throat.z54 rfl rfl (any_of HT_.out (by kernel_rfl)) (fun _ _ _ h => h) (Or.inr ⟨by rfl, rfl⟩) ?_ ?_
                rotate_left
                · simp only [Act.put, List.setIfInBounds_toArray, List.set_cons_zero, List.set_cons_succ, i64_w, i32_w]
                  rfl
                refine pure_ (i := 54) (N := some 57) (v := undef) (a' := ?_) spec_l03Throat.z55 rfl rfl (any_of HT_.out (by kernel_rfl)) (fun _ _ _ h => h) (Or.inr ⟨by rfl, rfl⟩) ?_ ?_
                rotate_left
                · simp only [Act.put, List.setIfInBounds_toArray, List.set_cons_zero, List.set_cons_succ, i64_w, i32_w]
                  rfl
                refine pure_ (i := 55) (N := some 58) (v := undef) (a' := ?_) spec_l03Throat.z56 rfl rfl (any_of HT_.out (by kernel_rfl)) (fun _ _ _ h => h) (Or.inr ⟨by rfl, rfl⟩) ?_ ?_
                rotate_left
                · simp only [Act.put, List.setIfInBounds_toArray, List.set_cons_zero, List.set_cons_succ, i64_w, i32_w]
                  rfl
                refine pure_ (i := 56) (N := some 59) (v := undef) (a' := ?_) spec_l03Throat.z57 rfl rfl (any_of HT_.out (by kernel_rfl)) (fun _ _ _ h => h) (Or.inr ⟨by rfl, rfl⟩) ?_ ?_
                rotate_left
                · simp only [Act.put, List.setIfInBounds_toArray, List.set_cons_zero, List.set_cons_succ, i64_w, i32_w]
                  rfl
                refine pure_ (i := 57) (N := some 60) (v := undef) (a' := ?_) spec_l03Throat.z58 rfl rfl (any_of HT_.out (by kernel_rfl)) (fun _ _ _ h => h) (Or.inr ⟨by rfl, rfl⟩) ?_ ?_
                rotate_left
                · simp only [Act.put, List.setIfInBounds_toArray, List.set_cons_zero, List.set_cons_succ, i64_w, i32_w]
                  rfl
                refine pure_ (i := 58) (N := some 61) (v := ?_) (a' := ?_) spec_l03Throat.z59 rfl rfl (any_of HT_.out (by kernel_rfl)) (fun _ _ _ h => h) (Or.inl ⟨by rfl, ?_⟩) ?_ ?_
                rotate_left
                · intro w'
                  go_simp
                  with_reducible rfl
                rotate_left
                · simp only [Act.put, List.setIfInBounds_toArray, List.set_cons_zero, List.set_cons_succ, i64_w, i32_w]
                  rfl
                refine pure_ (i := 59) (N := some 2) (v := ?_) (a' := ?_) spec_l03Throat.z60 rfl rfl (any_of HT_.out (by kernel_rfl)) (fun _ _ _ h => h) (Or.inl ⟨by rfl, ?_⟩) ?_ ?_
                rotate_left
                · intro w'
                  go_simp
                  with_reducible rfl
                rotate_left
                · simp only [Act.put, List.setIfInBounds_toArray, List.set_cons_zero, List.set_cons_succ, i64_w, i32_w]
                  rfl
                refine done_ (done_of HT_.out (by kernel_rfl)) ?_
                try go_wp2
                go_ret
                exact ⟨by first | rfl | (simp [errW_none, errW_some] <;> rfl) | (simp [*, errW_none, errW_some] <;> rfl), by repeat (first | (with_reducible first | exact HB.out | apply below_alloc | apply pw_below_drewN | apply below_drew1) | exact HB.out)⟩
            · rw [if_neg c9] at H
              exact absurd H (by simp)
          · replace c8 := Bool.eq_false_iff.mpr c8
            subst c8
            have H1 : (some false) = some r := by rw [if_neg (show ¬ (false = true) by decide)] at H; exact H
            clear H
            have H := H1
            clear H1
            obtain rfl := Option.some.inj H
            go_enter Tryd.func58, Tryd.ntmps58
            try go_wp2
            have n0_ := Aside0.mk (below_drew1 HB.out)
            clear HB
            have HB := n0_
            clear n0_
            have p103 : 0 ≤ (0 : Int) := (by omega)
            have q103 : 0 < (l0.length : Int) := of_decide_eq_true (by first | (with_reducible assumption) | assumption)
            obtain ⟨ad103, e103, hx103_0, hx103_1, hx103_2, hx103_3, hx103_4⟩ := at_T27 HR0.out 0 p103 q103
            have hw103_4 := hx103_4
            (try rw [show ((0 : Int)).toNat = 0 from rfl] at hw103_4)
            (try rw [show 0 * 5 = 0 from rfl] at hw103_4)
            (try rw [Addr.add_zero'] at hw103_4)
            have hw103_3 := hx103_3
            (try rw [show ((0 : Int)).toNat = 0 from rfl] at hw103_3)
            (try rw [show 0 * 5 = 0 from rfl] at hw103_3)
            (try rw [Addr.add_zero'] at hw103_3)
            have hw103_2 := hx103_2
            (try rw [show ((0 : Int)).toNat = 0 from rfl] at hw103_2)
            (try rw [show 0 * 5 = 0 from rfl] at hw103_2)
            (try rw [Addr.add_zero'] at hw103_2)
            have hw103_1 := hx103_1
            (try rw [show ((0 : Int)).toNat = 0 from rfl] at hw103_1)
            (try rw [show 0 * 5 = 0 from rfl] at hw103_1)
            (try rw [Addr.add_zero'] at hw103_1)
            have hw103_0 := hx103_0
            (try rw [show ((0 : Int)).toNat = 0 from rfl] at hw103_0)
            (try rw [show 0 * 5 = 0 from rfl] at hw103_0)
            (try rw [Addr.add_zero'] at hw103_0)
            cases e103
            have qi103 : (0 < l0.length) = True := eq_true (by omega)
            (try rw [show ((0 : Int)).toNat = 0 from rfl] at hx103_0)
            (try rw [show 0 * 5 = 0 from rfl] at hx103_0)
            (try rw [Addr.add_zero'] at hx103_0)
            (try rw [show ((0 : Int)).toNat = 0 from rfl] at hx103_1)
            (try rw [show 0 * 5 = 0 from rfl] at hx103_1)
            (try rw [Addr.add_zero'] at hx103_1)
            (try rw [show ((0 : Int)).toNat = 0 from rfl] at hx103_2)
            (try rw [show 0 * 5 = 0 from rfl] at hx103_2)
            (try rw [Addr.add_zero'] at hx103_2)
            (try rw [show ((0 : Int)).toNat = 0 from rfl] at hx103_3)
            (try rw [show 0 * 5 = 0 from rfl] at hx103_3)
            (try rw [Addr.add_zero'] at hx103_3)
            (try rw [show ((0 : Int)).toNat = 0 from rfl] at hx103_4)
            (try rw [show 0 * 5 = 0 from rfl] at hx103_4)
            (try rw [Addr.add_zero'] at hx103_4)
            replace hx103_0 := (HB.out.cell (World.block_lt_of_cell? w _ hx103_0)).trans hx103_0
            replace hx103_1 := (HB.out.cell (World.block_lt_of_cell? w _ hx103_1)).trans hx103_1
            replace hx103_2 := (HB.out.cell (World.block_lt_of_cell? w _ hx103_2)).trans hx103_2
            replace hx103_3 := (HB.out.cell (World.block_lt_of_cell? w _ hx103_3)).trans hx103_3
            replace hx103_4 := (HB.out.cell (World.block_lt_of_cell? w _ hx103_4)).trans hx103_4
            replace p103 := eq_true p103
            replace q103 := eq_true q103
            have p104 : 0 ≤ (0 : Int) := (by omega)
            have q104 : 0 < (l0.length : Int) := of_decide_eq_true (by first | (with_reducible assumption) | assumption)
            obtain ⟨ad104, e104, hx104_0, hx104_1, hx104_2, hx104_3, hx104_4⟩ := at_T27 HR0.out 0 p104 q104
            have hw104_4 := hx104_4
            (try rw [show ((0 : Int)).toNat = 0 from rfl] at hw104_4)
            (try rw [show 0 * 5 = 0 from rfl] at hw104_4)
            (try rw [Addr.add_zero'] at hw104_4)
            have hw104_3 := hx104_3
            (try rw [show ((0 : Int)).toNat = 0 from rfl] at hw104_3)
            (try rw [show 0 * 5 = 0 from rfl] at hw104_3)
            (try rw [Addr.add_zero'] at hw104_3)
            have hw104_2 := hx104_2
            (try rw [show ((0 : Int)).toNat = 0 from rfl] at hw104_2)
            (try rw [show 0 * 5 = 0 from rfl] at hw104_2)
            (try rw [Addr.add_zero'] at hw104_2)
            have hw104_1 := hx104_1
            (try rw [show ((0 : Int)).toNat = 0 from rfl] at hw104_1)
            (try rw [show 0 * 5 = 0 from rfl] at hw104_1)
            (try rw [Addr.add_zero'] at hw104_1)
            have hw104_0 := hx104_0
            (try rw [show ((0 : Int)).toNat = 0 from rfl] at hw104_0)
            (try rw [show 0 * 5 = 0 from rfl] at hw104_0)
            (try rw [Addr.add_zero'] at hw104_0)
            obtain rfl : ad103 = ad104 := (by injection e104)
            have qi104 : (0 < l0.length) = True := eq_true (by omega)
            (try rw [show ((0 : Int)).toNat = 0 from rfl] at hx104_0)
            (try rw [show 0 * 5 = 0 from rfl] at hx104_0)
            (try rw [Addr.add_zero'] at hx104_0)
            (try rw [show ((0 : Int)).toNat = 0 from rfl] at hx104_1)
            (try rw [show 0 * 5 = 0 from rfl] at hx104_1)
            (try rw [Addr.add_zero'] at hx104_1)
            (try rw [show ((0 : Int)).toNat = 0 from rfl] at hx104_2)
            (try rw [show 0 * 5 = 0 from rfl] at hx104_2)
            (try rw [Addr.add_zero'] at hx104_2)
            (try rw [show ((0 : Int)).toNat = 0 from rfl] at hx104_3)
            (try rw [show 0 * 5 = 0 from rfl] at hx104_3)
            (try rw [Addr.add_zero'] at hx104_3)
            (try rw [show ((0 : Int)).toNat = 0 from rfl] at hx104_4)
            (try rw [show 0 * 5 = 0 from rfl] at hx104_4)
            (try rw [Addr.add_zero'] at hx104_4)
            replace hx104_0 := (HB.out.cell (World.block_lt_of_cell? w _ hx104_0)).trans hx104_0
            replace hx104_1 := (HB.out.cell (World.block_lt_of_cell? w _ hx104_1)).trans hx104_1
            replace hx104_2 := (HB.out.cell (World.block_lt_of_cell? w _ hx104_2)).trans hx104_2
            replace hx104_3 := (HB.out.cell (World.block_lt_of_cell? w _ hx104_3)).trans hx104_3
            replace hx104_4 := (HB.out.cell (World.block_lt_of_cell? w _ hx104_4)).trans hx104_4
            replace p104 := eq_true p104
            replace q104 := eq_true q104
            have p105 : 0 ≤ (0 : Int) := (by omega)
            have q105 : 0 < (l0.length : Int) := of_decide_eq_true (by first | (with_reducible assumption) | assumption)
            obtain ⟨ad105, e105, hx105_0, hx105_1, hx105_2, hx105_3, hx105_4⟩ := at_T27 HR0.out 0 p105 q105
            have hw105_4 := hx105_4
            (try rw [show ((0 : Int)).toNat = 0 from rfl] at hw105_4)
            (try rw [show 0 * 5 = 0 from rfl] at hw105_4)
            (try rw [Addr.add_zero'] at hw105_4)
            have hw105_3 := hx105_3
            (try rw [show ((0 : Int)).toNat = 0 from rfl] at hw105_3)
            (try rw [show 0 * 5 = 0 from rfl] at hw105_3)
            (try rw [Addr.add_zero'] at hw105_3)
            have hw105_2 := hx105_2
            (try rw [show ((0 : Int)).toNat = 0 from rfl] at hw105_2)
            (try rw [show 0 * 5 = 0 from rfl] at hw105_2)
            (try rw [Addr.add_zero'] at hw105_2)
            have hw105_1 := hx105_1
            (try rw [show ((0 : Int)).toNat = 0 from rfl] at hw105_1)
            (try rw [show 0 * 5 = 0 from rfl] at hw105_1)
            (try rw [Addr.add_zero'] at hw105_1)
            have hw105_0 := hx105_0
            (try rw [show ((0 : Int)).toNat = 0 from rfl] at hw105_0)
            (try rw [show 0 * 5 = 0 from rfl] at hw105_0)
            (try rw [Addr.add_zero'] at hw105_0)
            obtain rfl : ad103 = ad105 := (by injection e105)
            have qi105 : (0 < l0.length) = True := eq_true (by omega)
            (try rw [show ((0 : Int)).toNat = 0 from rfl] at hx105_0)
            (try rw [show 0 * 5 = 0 from rfl] at hx105_0)
            (try rw [Addr.add_zero'] at hx105_0)
            (try rw [show ((0 : Int)).toNat = 0 from rfl] at hx105_1)
            (try rw [show 0 * 5 = 0 from rfl] at hx105_1)
            (try rw [Addr.add_zero'] at hx105_1)
            (try rw [show ((0 : Int)).toNat = 0 from rfl] at hx105_2)
            (try rw [show 0 * 5 = 0 from rfl] at hx105_2)
            (try rw [Addr.add_zero'] at hx105_2)
            (try rw [show ((0 : Int)).toNat = 0 from rfl] at hx105_3)
            (try rw [show 0 * 5 = 0 from rfl] at hx105_3)
            (try rw [Addr.add_zero'] at hx105_3)
            (try rw [show ((0 : Int)).toNat = 0 from rfl] at hx105_4)
            (try rw [show 0 * 5 = 0 from rfl] at hx105_4)
            (try rw [Addr.add_zero'] at hx105_4)
            replace hx105_0 := (HB.out.cell (World.block_lt_of_cell? w _ hx105_0)).trans hx105_0
            replace hx105_1 := (HB.out.cell (World.block_lt_of_cell? w _ hx105_1)).trans hx105_1
            replace hx105_2 := (HB.out.cell (World.block_lt_of_cell? w _ hx105_2)).trans hx105_2
            replace hx105_3 := (HB.out.cell (World.block_lt_of_cell? w _ hx105_3)).trans hx105_3
            replace hx105_4 := (HB.out.cell (World.block_lt_of_cell? w _ hx105_4)).trans hx105_4
            replace p105 := eq_true p105
            replace q105 := eq_true q105
            have p106 : 0 ≤ (0 : Int) := (by omega)
            have q106 : 0 < (l0.length : Int) := of_decide_eq_true (by first | (with_reducible assumption) | assumption)
            obtain ⟨ad106, e106, hx106_0, hx106_1, hx106_2, hx106_3, hx106_4⟩ := at_T27 HR0.out 0 p106 q106
            have hw106_4 := hx106_4
            (try rw [show ((0 : Int)).toNat = 0 from rfl] at hw106_4)
            (try rw [show 0 * 5 = 0 from rfl] at hw106_4)
            (try rw [Addr.add_zero'] at hw106_4)
            have hw106_3 := hx106_3
            (try rw [show ((0 : Int)).toNat = 0 from rfl] at hw106_3)
            (try rw [show 0 * 5 = 0 from rfl] at hw106_3)
            (try rw [Addr.add_zero'] at hw106_3)
            have hw106_2 := hx106_2
            (try rw [show ((0 : Int)).toNat = 0 from rfl] at hw106_2)
            (try rw [show 0 * 5 = 0 from rfl] at hw106_2)
            (try rw [Addr.add_zero'] at hw106_2)
            have hw106_1 := hx106_1
            (try rw [show ((0 : Int)).toNat = 0 from rfl] at hw106_1)
            (try rw [show 0 * 5 = 0 from rfl] at hw106_1)
            (try rw [Addr.add_zero'] at hw106_1)
            have hw106_0 := hx106_0
            (try rw [show ((0 : Int)).toNat = 0 from rfl] at hw106_0)
            (try rw [show 0 * 5 = 0 from rfl] at hw106_0)
            (try rw [Addr.add_zero'] at hw106_0)
            obtain rfl : ad103 = ad106 := (by injection e106)
            have qi106 : (0 < l0.length) = True := eq_true (by omega)
            (try rw [show ((0 : Int)).toNat = 0 from rfl] at hx106_0)
            (try rw [show 0 * 5 = 0 from rfl] at hx106_0)
            (try rw [Addr.add_zero'] at hx106_0)
            (try rw [show ((0 : Int)).toNat = 0 from rfl] at hx106_1)
            (try rw [show 0 * 5 = 0 from rfl] at hx106_1)
            (try rw [Addr.add_zero'] at hx106_1)
            (try rw [show ((0 : Int)).toNat = 0 from rfl] at hx106_2)
            (try rw [show 0 * 5 = 0 from rfl] at hx106_2)
            (try rw [Addr.add_zero'] at hx106_2)
            (try rw [show ((0 : Int)).toNat = 0 from rfl] at hx106_3)
            (try rw [show 0 * 5 = 0 from rfl] at hx106_3)
            (try rw [Addr.add_zero'] at hx106_3)
            (try rw [show ((0 : Int)).toNat = 0 from rfl] at hx106_4)
            (try rw [show 0 * 5 = 0 from rfl] at hx106_4)
            (try rw [Addr.add_zero'] at hx106_4)
            replace hx106_0 := (HB.out.cell (World.block_lt_of_cell? w _ hx106_0)).trans hx106_0
            replace hx106_1 := (HB.out.cell (World.block_lt_of_cell? w _ hx106_1)).trans hx106_1
            replace hx106_2 := (HB.out.cell (World.block_lt_of_cell? w _ hx106_2)).trans hx106_2
            replace hx106_3 := (HB.out.cell (World.block_lt_of_cell? w _ hx106_3)).trans hx106_3
            replace hx106_4 := (HB.out.cell (World.block_lt_of_cell? w _ hx106_4)).trans hx106_4
            replace p106 := eq_true p106
            replace q106 := eq_true q106
            have p107 : 0 ≤ (0 : Int) := (by omega)
            have q107 : 0 < (l0.length : Int) := of_decide_eq_true (by first | (with_reducible assumption) | assumption)
            obtain ⟨ad107, e107, hx107_0, hx107_1, hx107_2, hx107_3, hx107_4⟩ := at_T27 HR0.out 0 p107 q107
            have hw107_4 := hx107_4
            (try rw [show ((0 : Int)).toNat = 0 from rfl] at hw107_4)
            (try rw [show 0 * 5 = 0 from rfl] at hw107_4)
            (try rw [Addr.add_zero'] at hw107_4)
            have hw107_3 := hx107_3
            (try rw [show ((0 : Int)).toNat = 0 from rfl] at hw107_3)
            (try rw [show 0 * 5 = 0 from rfl] at hw107_3)
            (try rw [Addr.add_zero'] at hw107_3)
            have hw107_2 := hx107_2
            (try rw [show ((0 : Int)).toNat = 0 from rfl] at hw107_2)
            (try rw [show 0 * 5 = 0 from rfl] at hw107_2)
            (try rw [Addr.add_zero'] at hw107_2)
            have hw107_1 := hx107_1
            (try rw [show ((0 : Int)).toNat = 0 from rfl] at hw107_1)
            (try rw [show 0 * 5 = 0 from rfl] at hw107_1)
            (try rw [Addr.add_zero'] at hw107_1)
            have hw107_0 := hx107_0
            (try rw [show ((0 : Int)).toNat = 0 from rfl] at hw107_0)
            (try rw [show 0 * 5 = 0 from rfl] at hw107_0)
            (try rw [Addr.add_zero'] at hw107_0)
            obtain rfl : ad103 = ad107 := (by injection e107)
            have qi107 : (0 < l0.length) = True := eq_true (by omega)
            (try rw [show ((0 : Int)).toNat = 0 from rfl] at hx107_0)
            (try rw [show 0 * 5 = 0 from rfl] at hx107_0)
            (try rw [Addr.add_zero'] at hx107_0)
            (try rw [show ((0 : Int)).toNat = 0 from rfl] at hx107_1)
            (try rw [show 0 * 5 = 0 from rfl] at hx107_1)
            (try rw [Addr.add_zero'] at hx107_1)
            (try rw [show ((0 : Int)).toNat = 0 from rfl] at hx107_2)
            (try rw [show 0 * 5 = 0 from rfl] at hx107_2)
            (try rw [Addr.add_zero'] at hx107_2)
            (try rw [show ((0 : Int)).toNat = 0 from rfl] at hx107_3)
            (try rw [show 0 * 5 = 0 from rfl] at hx107_3)
            (try rw [Addr.add_zero'] at hx107_3)
            (try rw [show ((0 : Int)).toNat = 0 from rfl] at hx107_4)
            (try rw [show 0 * 5 = 0 from rfl] at hx107_4)
            (try rw [Addr.add_zero'] at hx107_4)
            replace hx107_0 := (HB.out.cell (World.block_lt_of_cell? w _ hx107_0)).trans hx107_0
            replace hx107_1 := (HB.out.cell (World.block_lt_of_cell? w _ hx107_1)).trans hx107_1
            replace hx107_2 := (HB.out.cell (World.block_lt_of_cell? w _ hx107_2)).trans hx107_2
            replace hx107_3 := (HB.out.cell (World.block_lt_of_cell? w _ hx107_3)).trans hx107_3
            replace hx107_4 := (HB.out.cell (World.block_lt_of_cell? w _ hx107_4)).trans hx107_4
            replace p107 := eq_true p107
            replace q107 := eq_true q107
            have p108 : 0 ≤ (0 : Int) := (by omega)
            have q108 : 0 < (l0.length : Int) := of_decide_eq_true (by first | (with_reducible assumption) | assumption)
            obtain ⟨ad108, e108, hx108_0, hx108_1, hx108_2, hx108_3, hx108_4⟩ := at_T27 HR0.out 0 p108 q108
            have hw108_4 := hx108_4
            (try rw [show ((0 : Int)).toNat = 0 from rfl] at hw108_4)
            (try rw [show 0 * 5 = 0 from rfl] at hw108_4)
            (try rw [Addr.add_zero'] at hw108_4)
            have hw108_3 := hx108_3
            (try rw [show ((0 : Int)).toNat = 0 from rfl] at hw108_3)
            (try rw [show 0 * 5 = 0 from rfl] at hw108_3)
            (try rw [Addr.add_zero'] at hw108_3)
            have hw108_2 := hx108_2
            (try rw [show ((0 : Int)).toNat = 0 from rfl] at hw108_2)
            (try rw [show 0 * 5 = 0 from rfl] at hw108_2)
            (try rw [Addr.add_zero'] at hw108_2)
            have hw108_1 := hx108_1
            (try rw [show ((0 : Int)).toNat = 0 from rfl] at hw108_1)
            (try rw [show 0 * 5 = 0 from rfl] at hw108_1)
            (try rw [Addr.add_zero'] at hw108_1)
            have hw108_0 := hx108_0
            (try rw [show ((0 : Int)).toNat = 0 from rfl] at hw108_0)
            (try rw [show 0 * 5 = 0 from rfl] at hw108_0)
            (try rw [Addr.add_zero'] at hw108_0)
            obtain rfl : ad103 = ad108 := (by injection e108)
            have qi108 : (0 < l0.length) = True := eq_true (by omega)
            (try rw [show ((0 : Int)).toNat = 0 from rfl] at hx108_0)
            (try rw [show 0 * 5 = 0 from rfl] at hx108_0)
            (try rw [Addr.add_zero'] at hx108_0)
            (try rw [show ((0 : Int)).toNat = 0 from rfl] at hx108_1)
            (try rw [show 0 * 5 = 0 from rfl] at hx108_1)
            (try rw [Addr.add_zero'] at hx108_1)
            (try rw [show ((0 : Int)).toNat = 0 from rfl] at hx108_2)
            (try rw [show 0 * 5 = 0 from rfl] at hx108_2)
            (try rw [Addr.add_zero'] at hx108_2)
            (try rw [show ((0 : Int)).toNat = 0 from rfl] at hx108_3)
            (try rw [show 0 * 5 = 0 from rfl] at hx108_3)
            (try rw [Addr.add_zero'] at hx108_3)
            (try rw [show ((0 : Int)).toNat = 0 from rfl] at hx108_4)
            (try rw [show 0 * 5 = 0 from rfl] at hx108_4)
            (try rw [Addr.add_zero'] at hx108_4)
            replace hx108_0 := (HB.out.cell (World.block_lt_of_cell? w _ hx108_0)).trans hx108_0
            replace hx108_1 := (HB.out.cell (World.block_lt_of_cell? w _ hx108_1)).trans hx108_1
            replace hx108_2 := (HB.out.cell (World.block_lt_of_cell? w _ hx108_2)).trans hx108_2
            replace hx108_3 := (HB.out.cell (World.block_lt_of_cell? w _ hx108_3)).trans hx108_3
            replace hx108_4 := (HB.out.cell (World.block_lt_of_cell? w _ hx108_4)).trans hx108_4
            replace p108 := eq_true p108
            replace q108 := eq_true q108
            have p110 : 0 ≤ (0 : Int) := (by omega)
            have q110 : 0 < (l0.length : Int) := of_decide_eq_true (by first | (with_reducible assumption) | assumption)
            obtain ⟨ad110, e110, hx110_0, hx110_1, hx110_2, hx110_3, hx110_4⟩ := at_T27 HR0.out 0 p110 q110
            have hw110_4 := hx110_4
            (try rw [show ((0 : Int)).toNat = 0 from rfl] at hw110_4)
            (try rw [show 0 * 5 = 0 from rfl] at hw110_4)
            (try rw [Addr.add_zero'] at hw110_4)
            have hw110_3 := hx110_3
            (try rw [show ((0 : Int)).toNat = 0 from rfl] at hw110_3)
            (try rw [show 0 * 5 = 0 from rfl] at hw110_3)
            (try rw [Addr.add_zero'] at hw110_3)
            have hw110_2 := hx110_2
            (try rw [show ((0 : Int)).toNat = 0 from rfl] at hw110_2)
            (try rw [show 0 * 5 = 0 from rfl] at hw110_2)
            (try rw [Addr.add_zero'] at hw110_2)
            have hw110_1 := hx110_1
            (try rw [show ((0 : Int)).toNat = 0 from rfl] at hw110_1)
            (try rw [show 0 * 5 = 0 from rfl] at hw110_1)
            (try rw [Addr.add_zero'] at hw110_1)
            have hw110_0 := hx110_0
            (try rw [show ((0 : Int)).toNat = 0 from rfl] at hw110_0)
            (try rw [show 0 * 5 = 0 from rfl] at hw110_0)
            (try rw [Addr.add_zero'] at hw110_0)
            obtain rfl : ad103 = ad110 := (by injection e110)
            have qi110 : (0 < l0.length) = True := eq_true (by omega)
            (try rw [show ((0 : Int)).toNat = 0 from rfl] at hx110_0)
            (try rw [show 0 * 5 = 0 from rfl] at hx110_0)
            (try rw [Addr.add_zero'] at hx110_0)
            (try rw [show ((0 : Int)).toNat = 0 from rfl] at hx110_1)
            (try rw [show 0 * 5 = 0 from rfl] at hx110_1)
            (try rw [Addr.add_zero'] at hx110_1)
            (try rw [show ((0 : Int)).toNat = 0 from rfl] at hx110_2)
            (try rw [show 0 * 5 = 0 from rfl] at hx110_2)
            (try rw [Addr.add_zero'] at hx110_2)
            (try rw [show ((0 : Int)).toNat = 0 from rfl] at hx110_3)
            (try rw [show 0 * 5 = 0 from rfl] at hx110_3)
            (try rw [Addr.add_zero'] at hx110_3)
            (try rw [show ((0 : Int)).toNat = 0 from rfl] at hx110_4)
            (try rw [show 0 * 5 = 0 from rfl] at hx110_4)
            (try rw [Addr.add_zero'] at hx110_4)
            replace hx110_0 := (HB.out.cell (World.block_lt_of_cell? w _ hx110_0)).trans hx110_0
            replace hx110_1 := (HB.out.cell (World.block_lt_of_cell? w _ hx110_1)).trans hx110_1
            replace hx110_2 := (HB.out.cell (World.block_lt_of_cell? w _ hx110_2)).trans hx110_2
            replace hx110_3 := (HB.out.cell (World.block_lt_of_cell? w _ hx110_3)).trans hx110_3
            replace hx110_4 := (HB.out.cell (World.block_lt_of_cell? w _ hx110_4)).trans hx110_4
            replace p110 := eq_true p110
            replace q110 := eq_true q110
            have p111 : 0 ≤ (0 : Int) := (by omega)
            have q111 : 0 < (l0.length : Int) := of_decide_eq_true (by first | (with_reducible assumption) | assumption)
            obtain ⟨ad111, e111, hx111_0, hx111_1, hx111_2, hx111_3, hx111_4⟩ := at_T27 HR0.out 0 p111 q111
            have hw111_4 := hx111_4
            (try rw [show ((0 : Int)).toNat = 0 from rfl] at hw111_4)
            (try rw [show 0 * 5 = 0 from rfl] at hw111_4)
            (try rw [Addr.add_zero'] at hw111_4)
            have hw111_3 := hx111_3
            (try rw [show ((0 : Int)).toNat = 0 from rfl] at hw111_3)
            (try rw [show 0 * 5 = 0 from rfl] at hw111_3)
            (try rw [Addr.add_zero'] at hw111_3)
            have hw111_2 := hx111_2
            (try rw [show ((0 : Int)).toNat = 0 from rfl] at hw111_2)
            (try rw [show 0 * 5 = 0 from rfl] at hw111_2)
            (try rw [Addr.add_zero'] at hw111_2)
            have hw111_1 := hx111_1
            (try rw [show ((0 : Int)).toNat = 0 from rfl] at hw111_1)
            (try rw [show 0 * 5 = 0 from rfl] at hw111_1)
            (try rw [Addr.add_zero'] at hw111_1)
            have hw111_0 := hx111_0
            (try rw [show ((0 : Int)).toNat = 0 from rfl] at hw111_0)
            (try rw [show 0 * 5 = 0 from rfl] at hw111_0)
            (try rw [Addr.add_zero'] at hw111_0)
            obtain rfl : ad103 = ad111 := (by injection e111)
            have qi111 : (0 < l0.length) = True := eq_true (by omega)
            (try rw [show ((0 : Int)).toNat = 0 from rfl] at hx111_0)
            (try rw [show 0 * 5 = 0 from rfl] at hx111_0)
            (try rw [Addr.add_zero'] at hx111_0)
            (try rw [show ((0 : Int)).toNat = 0 from rfl] at hx111_1)
            (try rw [show 0 * 5 = 0 from rfl] at hx111_1)
            (try rw [Addr.add_zero'] at hx111_1)
            (try rw [show ((0 : Int)).toNat = 0 from rfl] at hx111_2)
            (try rw [show 0 * 5 = 0 from rfl] at hx111_2)
            (try rw [Addr.add_zero'] at hx111_2)
            (try rw [show ((0 : Int)).toNat = 0 from rfl] at hx111_3)
            (try rw [show 0 * 5 = 0 from rfl] at hx111_3)
            (try rw [Addr.add_zero'] at hx111_3)
            (try rw [show ((0 : Int)).toNat = 0 from rfl] at hx111_4)
            (try rw [show 0 * 5 = 0 from rfl] at hx111_4)
            (try rw [Addr.add_zero'] at hx111_4)
            replace hx111_0 := (HB.out.cell (World.block_lt_of_cell? w _ hx111_0)).trans hx111_0
            replace hx111_1 := (HB.out.cell (World.block_lt_of_cell? w _ hx111_1)).trans hx111_1
            replace hx111_2 := (HB.out.cell (World.block_lt_of_cell? w _ hx111_2)).trans hx111_2
            replace hx111_3 := (HB.out.cell (World.block_lt_of_cell? w _ hx111_3)).trans hx111_3
            replace hx111_4 := (HB.out.cell (World.block_lt_of_cell? w _ hx111_4)).trans hx111_4
            replace p111 := eq_true p111
            replace q111 := eq_true q111
            refine start_ (n := 60) (S := fun w' => w'.cell? ad103 = some (.float .f32 ((rd_T27 l0 0).f0)) ∧ w'.cell? ⟨ad103.block, ad103.off + 1, none⟩ = some (.float .f32 ((rd_T27 l0 0).f1)) ∧ w'.cell? ⟨ad103.block, ad103.off + 2, none⟩ = some (.float .f32 ((rd_T27 l0 0).f2)) ∧ w'.cell? ⟨ad103.block, ad103.off + 3, none⟩ = some (.float .f32 ((rd_T27 l0 0).f3)) ∧ w'.cell? ⟨ad103.block, ad103.off + 4, none⟩ = some (.float .f32 ((rd_T27 l0 0).f4)) ∧ w'.cell? ad103 = some (.float .f32 ((rd_T27 l0 0).f0)) ∧ w'.cell? ⟨ad103.block, ad103.off + 1, none⟩ = some (.float .f32 ((rd_T27 l0 0).f1)) ∧ w'.cell? ⟨ad103.block, ad103.off + 2, none⟩ = some (.float .f32 ((rd_T27 l0 0).f2)) ∧ w'.cell? ⟨ad103.block, ad103.off + 3, none⟩ = some (.float .f32 ((rd_T27 l0 0).f3)) ∧ w'.cell? ⟨ad103.block, ad103.off + 4, none⟩ = some (.float .f32 ((rd_T27 l0 0).f4)) ∧ w'.cell? ad103 = some (.float .f32 ((rd_T27 l0 0).f0)) ∧ w'.cell? ⟨ad103.block, ad103.off + 1, none⟩ = some (.float .f32 ((rd_T27 l0 0).f1)) ∧ w'.cell? ⟨ad103.block, ad103.off + 2, none⟩ = some (.float .f32 ((rd_T27 l0 0).f2)) ∧ w'.cell? ⟨ad103.block, ad103.off + 3, none⟩ = some (.float .f32 ((rd_T27 l0 0).f3)) ∧ w'.cell? ⟨ad103.block, ad103.off + 4, none⟩ = some (.float .f32 ((rd_T27 l0 0).f4)) ∧ w'.cell? ad103 = some (.float .f32 ((rd_T27 l0 0).f0)) ∧ w'.cell? ⟨ad103.block, ad103.off + 1, none⟩ = some (.float .f32 ((rd_T27 l0 0).f1)) ∧ w'.cell? ⟨ad103.block, ad103.off + 2, none⟩ = some (.float .f32 ((rd_T27 l0 0).f2)) ∧ w'.cell? ⟨ad103.block, ad103.off + 3, none⟩ = some (.float .f32 ((rd_T27 l0 0).f3)) ∧ w'.cell? ⟨ad103.block, ad103.off + 4, none⟩ = some (.float .f32 ((rd_T27 l0 0).f4)) ∧ w'.cell? ad103 = some (.float .f32 ((rd_T27 l0 0).f0)) ∧ w'.cell? ⟨ad103.block, ad103.off + 1, none⟩ = some (.float .f32 ((rd_T27 l0 0).f1)) ∧ w'.cell? ⟨ad103.block, ad103.off + 2, none⟩ = some (.float .f32 ((rd_T27 l0 0).f2)) ∧ w'.cell? ⟨ad103.block, ad103.off + 3, none⟩ = some (.float .f32 ((rd_T27 l0 0).f3)) ∧ w'.cell? ⟨ad103.block, ad103.off + 4, none⟩ = some (.float .f32 ((rd_T27 l0 0).f4)) ∧ w'.cell? ad103 = some (.float .f32 ((rd_T27 l0 0).f0)) ∧ w'.cell? ⟨ad103.block, ad103.off + 1, none⟩ = some (.float .f32 ((rd_T27 l0 0).f1)) ∧ w'.cell? ⟨ad103.block, ad103.off + 2, none⟩ = some (.float .f32 ((rd_T27 l0 0).f2)) ∧ w'.cell? ⟨ad103.block, ad103.off + 3, none⟩ = some (.float .f32 ((rd_T27 l0 0).f3)) ∧ w'.cell? ⟨ad103.block, ad103.off + 4, none⟩ = some (.float .f32 ((rd_T27 l0 0).f4)) ∧ w'.cell? ad103 = some (.float .f32 ((rd_T27 l0 0).f0)) ∧ w'.cell? ⟨ad103.block, ad103.off + 1, none⟩ = some (.float .f32 ((rd_T27 l0 0).f1)) ∧ w'.cell? ⟨ad103.block, ad103.off + 2, none⟩ = some (.float .f32 ((rd_T27 l0 0).f2)) ∧ w'.cell? ⟨ad103.block, ad103.off + 3, none⟩ = some (.float .f32 ((rd_T27 l0 0).f3)) ∧ w'.cell? ⟨ad103.block, ad103.off + 4, none⟩ = some (.float .f32 ((rd_T27 l0 0).f4)) ∧ w'.cell? ad103 = some (.float .f32 ((rd_T27 l0 0).f0)) ∧ w'.cell? ⟨ad103.block, ad103.off + 1, none⟩ = some (.float .f32 ((rd_T27 l0 0).f1)) ∧ w'.cell? ⟨ad103.block, ad103.off + 2, none⟩ = some (.float .f32 ((rd_T27 l0 0).f2)) ∧ w'.cell? ⟨ad103.block, ad103.off + 3, none⟩ = some (.float .f32 ((rd_T27 l0 0).f3)) ∧ w'.cell? ⟨ad103.block, ad103.off + 4, none⟩ = some (.float .f32 ((rd_T27 l0 0).f4))) (ds := []) spec_l03Throat.z0 (by kernel_rfl) rfl rfl ⟨(cu HB.out hw103_0), (cu HB.out hw103_1), (cu HB.out hw103_2), (cu HB.out hw103_3), (cu HB.out hw103_4), (cu HB.out hw104_0), (cu HB.out hw104_1), (cu HB.out hw104_2), (cu HB.out hw104_3), (cu HB.out hw104_4), (cu HB.out hw105_0), (cu HB.out hw105_1), (cu HB.out hw105_2), (cu HB.out hw105_3), (cu HB.out hw105_4), (cu HB.out hw106_0), (cu HB.out hw106_1), (cu HB.out hw106_2), (cu HB.out hw106_3), (cu HB.out hw106_4), (cu HB.out hw107_0), (cu HB.out hw107_1), (cu HB.out hw107_2), (cu HB.out hw107_3), (cu HB.out hw107_4), (cu HB.out hw108_0), (cu HB.out hw108_1), (cu HB.out hw108_2), (cu HB.out hw108_3), (cu HB.out hw108_4), (cu HB.out hw110_0), (cu HB.out hw110_1), (cu HB.out hw110_2), (cu HB.out hw110_3), (cu HB.out hw110_4), (cu HB.out hw111_0), (cu HB.out hw111_1), (cu HB.out hw111_2), (cu HB.out hw111_3), (cu HB.out hw111_4)⟩ (fun hHeld => ?_); refine with_tabW spec_l03Throat.tab1 spec_l03Throat.bits1 (fun HT_ HW_ => ?_)
            generalize w.drew = w18 at HB hx103_0 hx103_1 hx103_2 hx103_3 hx103_4 hx104_0 hx104_1 hx104_2 hx104_3 hx104_4 hx105_0 hx105_1 hx105_2 hx105_3 hx105_4 hx106_0 hx106_1 hx106_2 hx106_3 hx106_4 hx107_0 hx107_1 hx107_2 hx107_3 hx107_4 hx108_0 hx108_1 hx108_2 hx108_3 hx108_4 hx110_0 hx110_1 hx110_2 hx110_3 hx110_4 hx111_0 hx111_1 hx111_2 hx111_3 hx111_4 hHeld ⊢
            refine pure_ (i := 0) (N := some 3) (v := ?_) (a' := ?_) spec_l03Throat.z1 rfl rfl (any_of HT_.out (by kernel_rfl)) (fun _ _ _ h => h) (Or.inl ⟨by rfl, ?_⟩) ?_ ?_
            rotate_left
            · intro w'
              go_simp
              with_reducible rfl
            rotate_left
            · simp only [Act.put, List.setIfInBounds_toArray, List.set_cons_zero, List.set_cons_succ, i64_w, i32_w]
              rfl
            refine pure_ (i := 1) (N := some 4) (v := ?_) (a' := ?_) spec_l03Throat.z2 rfl rfl (any_of HT_.out (by kernel_rfl)) (fun _ _ _ h => h) (Or.inl ⟨by rfl, ?_⟩) ?_ ?_
            rotate_left
            · intro w'
              go_simp
              with_reducible rfl
            rotate_left
            · simp only [Act.put, List.setIfInBounds_toArray, List.set_cons_zero, List.set_cons_succ, i64_w, i32_w]
              rfl
            refine pure_ (i := 2) (N := some 5) (v := ?_) (a' := ?_) spec_l03Throat.z3 rfl rfl (any_of HT_.out (by kernel_rfl)) (fun _ _ _ h => h) (Or.inl ⟨by rfl, ?_⟩) ?_ ?_
            rotate_left
            · intro w'
              go_simp
              with_reducible rfl
            rotate_left
            · simp only [Act.put, List.setIfInBounds_toArray, List.set_cons_zero, List.set_cons_succ, i64_w, i32_w]
              rfl
            refine take_ (i := 3) (N := some 6) (v := ?_) (a' := ?_) spec_l03Throat.z4 rfl rfl (take_ofW HT_.out HW_.out (by kernel_rfl)) (fun _ _ _ h => h) (Or.inl ⟨by rfl, ?_⟩) hHeld ?_ ?_
            rotate_left
            · rintro w' ⟨s0, s1, s2, s3, s4, s5, s6, s7, s8, s9, s10, s11, s12, s13, s14, s15, s16, s17, s18, s19, s20, s21, s22, s23, s24, s25, s26, s27, s28, s29, s30, s31, s32, s33, s34, s35, s36, s37, s38, s39⟩
              go_simp
              with_reducible rfl
            rotate_left
            · simp only [Act.put, List.setIfInBounds_toArray, List.set_cons_zero, List.set_cons_succ, i64_w, i32_w]
              rfl
            refine pure_ (i := 4) (N := some 7) (v := ?_) (a' := ?_) spec_l03Throat.z5 rfl rfl (any_of HT_.out (by kernel_rfl)) (fun _ _ _ h => h) (Or.inl ⟨by rfl, ?_⟩) ?_ ?_
            rotate_left
            · intro w'
              go_simp
              with_reducible rfl
            rotate_left
            · simp only [Act.put, List.setIfInBounds_toArray, List.set_cons_zero, List.set_cons_succ, i64_w, i32_w]
              rfl
            refine pure_ (i := 5) (N := some 8) (v := ?_) (a' := ?_) spec_l03Throat.z6 rfl rfl (any_of HT_.out (by kernel_rfl)) (fun _ _ _ h => h) (Or.inl ⟨by rfl, ?_⟩) ?_ ?_
            rotate_left
            · intro w'
              go_simp
              with_reducible rfl
            rotate_left
            · simp only [Act.put, List.setIfInBounds_toArray, List.set_cons_zero, List.set_cons_succ, i64_w, i32_w]
              rfl
            refine pure_ (i := 6) (N := some 9) (v := ?_) (a' := ?_) spec_l03Throat.z7 rfl rfl (any_of HT_.out (by kernel_rfl)) (fun _ _ _ h => h) (Or.inl ⟨by rfl, ?_⟩) ?_ ?_
            rotate_left
            · intro w'
              go_simp
              with_reducible rfl
            rotate_left
            · simp only [Act.put, List.setIfInBounds_toArray, List.set_cons_zero, List.set_cons_succ, i64_w, i32_w]
              rfl
            refine pure_ (i := 7) (N := some 10) (v := ?_) (a' := ?_) spec_l03Throat.z8 rfl rfl (any_of HT_.out (by kernel_rfl)) (fun _ _ _ h => h) (Or.inl ⟨by rfl, ?_⟩) ?_ ?_
            rotate_left
            · intro w'
              go_simp
              with_reducible rfl
            rotate_left
            · simp only [Act.put, List.setIfInBounds_toArray, List.set_cons_zero, List.set_cons_succ, i64_w, i32_w]
              rfl
            refine pure_ (i := 8) (N := some 11) (v := ?_) (a' := ?_) spec_l03Throat.z9 rfl rfl (any_of HT_.out (by kernel_rfl)) (fun _ _ _ h => h) (Or.inl ⟨by rfl, ?_⟩) ?_ ?_
            rotate_left
            · intro w'
              go_simp
              with_reducible rfl
            rotate_left
            · simp only [Act.put, List.setIfInBounds_toArray, List.set_cons_zero, List.set_cons_succ, i64_w, i32_w]
              rfl
            refine take_ (i := 9) (N := some 12) (v := ?_) (a' := ?_) spec_l03Throat.z10 rfl rfl (take_ofW HT_.out HW_.out (by kernel_rfl)) (fun _ _ _ h => h) (Or.inl ⟨by rfl, ?_⟩) hHeld ?_ ?_
            rotate_left
            · rintro w' ⟨s0, s1, s2, s3, s4, s5, s6, s7, s8, s9, s10, s11, s12, s13, s14, s15, s16, s17, s18, s19, s20, s21, s22, s23, s24, s25, s26, s27, s28, s29, s30, s31, s32, s33, s34, s35, s36, s37, s38, s39⟩
              go_simp
              with_reducible rfl
            rotate_left
            · simp only [Act.put, List.setIfInBounds_toArray, List.set_cons_zero, List.set_cons_succ, i64_w, i32_w]
              rfl
            refine pure_ (i := 10) (N := some 13) (v := ?_) (a' := ?_) spec_l03Throat.z11 rfl rfl (any_of HT_.out (by kernel_rfl)) (fun _ _ _ h => h) (Or.inl ⟨by rfl, ?_⟩) ?_ ?_
            rotate_left
            · intro w'
              go_simp
              with_reducible rfl
            rotate_left
            · simp only [Act.put, List.setIfInBounds_toArray, List.set_cons_zero, List.set_cons_succ, i64_w, i32_w]
              rfl
            refine pure_ (i := 11) (N := some 14) (v := ?_) (a' := ?_) spec_l03Throat.z12 rfl rfl (any_of HT_.out (by kernel_rfl)) (fun _ _ _ h => h) (Or.inl ⟨by rfl, ?_⟩) ?_ ?_
            rotate_left
            · intro w'
              go_simp
              with_reducible rfl
            rotate_left
            · simp only [Act.put, List.setIfInBounds_toArray, List.set_cons_zero, List.set_cons_succ, i64_w, i32_w]
              rfl
            refine pure_ (i := 12) (N := some 15) (v := ?_) (a' := ?_) spec_l03Throat.z13 rfl rfl (any_of HT_.out (by kernel_rfl)) (fun _ _ _ h => h) (Or.inl ⟨by rfl, ?_⟩) ?_ ?_
            rotate_left
            · intro w'
              go_simp
              with_reducible rfl
            rotate_left
            · simp only [Act.put, List.setIfInBounds_toArray, List.set_cons_zero, List.set_cons_succ, i64_w, i32_w]
              rfl
            refine pure_ (i := 13) (N := some 16) (v := ?_) (a' := ?_) spec_l03Throat.z14 rfl rfl (any_of HT_.out (by kernel_rfl)) (fun _ _ _ h => h) (Or.inl ⟨by rfl, ?_⟩) ?_ ?_
            rotate_left
            · intro w'
              go_simp
              with_reducible rfl
            rotate_left
            · simp only [Act.put, List.setIfInBounds_toArray, List.set_cons_zero, List.set_cons_succ, i64_w, i32_w]
              rfl
            refine pure_ (i := 14) (N := some 17) (v := ?_) (a' := ?_) spec_l03Throat.z15 rfl rfl (any_of HT_.out (by kernel_rfl)) (fun _ _ _ h => h) (Or.inl ⟨by rfl, ?_⟩) ?_ ?_
            rotate_left
            · intro w'
              go_simp
              with_reducible rfl
            rotate_left
            · simp only [Act.put, List.setIfInBounds_toArray, List.set_cons_zero, List.set_cons_succ, i64_w, i32_w]
              rfl
            refine pure_ (i := 15) (N := some 18) (v := ?_) (a' := ?_) spec_l03Throat.z16 rfl rfl (any_of HT_.out (by kernel_rfl)) (fun _ _ _ h => h) (Or.inl ⟨by rfl, ?_⟩) ?_ ?_
            rotate_left
            · intro w'
              go_simp
              with_reducible rfl
            rotate_left
            · simp only [Act.put, List.setIfInBounds_toArray, List.set_cons_zero, List.set_cons_succ, i64_w, i32_w]
              rfl
            refine take_ (i := 16) (N := some 19) (v := ?_) (a' := ?_) spec_l03Throat.z17 rfl rfl (take_ofW HT_.out HW_.out (by kernel_rfl)) (fun _ _ _ h => h) (Or.inl ⟨by rfl, ?_⟩) hHeld ?_ ?_
            rotate_left
            · rintro w' ⟨s0, s1, s2, s3, s4, s5, s6, s7, s8, s9, s10, s11, s12, s13, s14, s15, s16, s17, s18, s19, s20, s21, s22, s23, s24, s25, s26, s27, s28, s29, s30, s31, s32, s33, s34, s35, s36, s37, s38, s39⟩
              go_simp
              with_reducible rfl
            rotate_left
            · simp only [Act.put, List.setIfInBounds_toArray, List.set_cons_zero, List.set_cons_succ, i64_w, i32_w]
              rfl
            refine one_ (i := 17) (N := some 20) spec_l03Throat.z18 rfl rfl (one_of HT_.out (by kernel_rfl)) (by decide) (fun K hK => ?_)
            refine goes_ Tryd.func105 (by kernel_rfl) rfl #[.float .f32 ((rd_T27 l0 0).f1)] (by rfl) rfl rfl (by (try simp only [List.map_toArray, List.map_cons, List.map_nil]); first | done | rfl | (simp only [List.length_drop, List.length_take]; rfl)) ?_
            with_reducible refine (spec_l02Above.calls ((rd_T27 l0 0).f1) true _ A5.out).mono ?_
            rintro e w' ⟨rfl, ⟨nd, rfl⟩⟩
            refine ⟨_, rfl, ?_⟩
            refine hK.out _ _ ⟨(cv HB.out hw103_0), (cv HB.out hw103_1), (cv HB.out hw103_2), (cv HB.out hw103_3), (cv HB.out hw103_4), (cv HB.out hw104_0), (cv HB.out hw104_1), (cv HB.out hw104_2), (cv HB.out hw104_3), (cv HB.out hw104_4), (cv HB.out hw105_0), (cv HB.out hw105_1), (cv HB.out hw105_2), (cv HB.out hw105_3), (cv HB.out hw105_4), (cv HB.out hw106_0), (cv HB.out hw106_1), (cv HB.out hw106_2), (cv HB.out hw106_3), (cv HB.out hw106_4), (cv HB.out hw107_0), (cv HB.out hw107_1), (cv HB.out hw107_2), (cv HB.out hw107_3), (cv HB.out hw107_4), (cv HB.out hw108_0), (cv HB.out hw108_1), (cv HB.out hw108_2), (cv HB.out hw108_3), (cv HB.out hw108_4), (cv HB.out hw110_0), (cv HB.out hw110_1), (cv HB.out hw110_2), (cv HB.out hw110_3), (cv HB.out hw110_4), (cv HB.out hw111_0), (cv HB.out hw111_1), (cv HB.out hw111_2), (cv HB.out hw111_3), (cv HB.out hw111_4)⟩ (fun hHeld => ?_)
            clear hK K
            refine norm_ (a' := ?_) ?_ ?_
            rotate_left
            · show Act.put _ (some 20) _ = _
              simp only [Act.put, List.setIfInBounds_toArray, List.set_cons_zero, List.set_cons_succ, i64_w, i32_w]
              rfl
            refine pure_ (i := 18) (N := some 21) (v := ?_) (a' := ?_) spec_l03Throat.z19 rfl rfl (any_of HT_.out (by kernel_rfl)) (fun _ _ _ h => h) (Or.inl ⟨by rfl, ?_⟩) ?_ ?_
            rotate_left
            · intro w'
              go_simp
              with_reducible rfl
            rotate_left
            · simp only [Act.put, List.setIfInBounds_toArray, List.set_cons_zero, List.set_cons_succ, i64_w, i32_w]
              rfl
            refine pure_ (i := 19) (N := some 22) (v := ?_) (a' := ?_) spec_l03Throat.z20 rfl rfl (any_of HT_.out (by kernel_rfl)) (fun _ _ _ h => h) (Or.inl ⟨by rfl, ?_⟩) ?_ ?_
            rotate_left
            · intro w'
              go_simp
              with_reducible rfl
            rotate_left
            · simp only [Act.put, List.setIfInBounds_toArray, List.set_cons_zero, List.set_cons_succ, i64_w, i32_w]
              rfl
            refine pure_ (i := 20) (N := some 23) (v := ?_) (a' := ?_) spec_l03Throat.z21 rfl rfl (any_of HT_.out (by kernel_rfl)) (fun _ _ _ h => h) (Or.inl ⟨by rfl, ?_⟩) ?_ ?_
            rotate_left
            · intro w'
              go_simp
              with_reducible rfl
            rotate_left
            · simp only [Act.put, List.setIfInBounds_toArray, List.set_cons_zero, List.set_cons_succ, i64_w, i32_w]
              rfl
            refine pure_ (i := 21) (N := some 24) (v := ?_) (a' := ?_) spec_l03Throat.z22 rfl rfl (any_of HT_.out (by kernel_rfl)) (fun _ _ _ h => h) (Or.inl ⟨by rfl, ?_⟩) ?_ ?_
            rotate_left
            · intro w'
              go_simp
              with_reducible rfl
            rotate_left
            · simp only [Act.put, List.setIfInBounds_toArray, List.set_cons_zero, List.set_cons_succ, i64_w, i32_w]
              rfl
            refine pure_ (i := 22) (N := some 25) (v := ?_) (a' := ?_) spec_l03Throat.z23 rfl rfl (any_of HT_.out (by kernel_rfl)) (fun _ _ _ h => h) (Or.inl ⟨by rfl, ?_⟩) ?_ ?_
            rotate_left
            · intro w'
              go_simp
              with_reducible rfl
            rotate_left
            · simp only [Act.put, List.setIfInBounds_toArray, List.set_cons_zero, List.set_cons_succ, i64_w, i32_w]
              rfl
            refine take_ (i := 23) (N := some 26) (v := ?_) (a' := ?_) spec_l03Throat.z24 rfl rfl (take_ofW HT_.out HW_.out (by kernel_rfl)) (fun _ _ _ h => h) (Or.inl ⟨by rfl, ?_⟩) hHeld ?_ ?_
            rotate_left
            · rintro w' ⟨s0, s1, s2, s3, s4, s5, s6, s7, s8, s9, s10, s11, s12, s13, s14, s15, s16, s17, s18, s19, s20, s21, s22, s23, s24, s25, s26, s27, s28, s29, s30, s31, s32, s33, s34, s35, s36, s37, s38, s39⟩
              go_simp
              with_reducible rfl
            rotate_left
            · simp only [Act.put, List.setIfInBounds_toArray, List.set_cons_zero, List.set_cons_succ, i64_w, i32_w]
              rfl
            refine one_ (i := 24) (N := some 27) spec_l03Throat.z25 rfl rfl (one_of HT_.out (by kernel_rfl)) (by decide) (fun K hK => ?_)
            refine goes_ Tryd.func105 (by kernel_rfl) rfl #[.float .f32 ((rd_T27 l0 0).f2)] (by rfl) rfl rfl (by (try simp only [List.map_toArray, List.map_cons, List.map_nil]); first | done | rfl | (simp only [List.length_drop, List.length_take]; rfl)) ?_
            with_reducible refine (spec_l02Above.calls ((rd_T27 l0 0).f2) false _ A7.out).mono ?_
            rintro e w' ⟨rfl, ⟨nd, rfl⟩⟩
            refine ⟨_, rfl, ?_⟩
            refine hK.out _ _ ⟨(cw HB.out hw103_0), (cw HB.out hw103_1), (cw HB.out hw103_2), (cw HB.out hw103_3), (cw HB.out hw103_4), (cw HB.out hw104_0), (cw HB.out hw104_1), (cw HB.out hw104_2), (cw HB.out hw104_3), (cw HB.out hw104_4), (cw HB.out hw105_0), (cw HB.out hw105_1), (cw HB.out hw105_2), (cw HB.out hw105_3), (cw HB.out hw105_4), (cw HB.out hw106_0), (cw HB.out hw106_1), (cw HB.out hw106_2), (cw HB.out hw106_3), (cw HB.out hw106_4), (cw HB.out hw107_0), (cw HB.out hw107_1), (cw HB.out hw107_2), (cw HB.out hw107_3), (cw HB.out hw107_4), (cw HB.out hw108_0), (cw HB.out hw108_1), (cw HB.out hw108_2), (cw HB.out hw108_3), (cw HB.out hw108_4), (cw HB.out hw110_0), (cw HB.out hw110_1), (cw HB.out hw110_2), (cw HB.out hw110_3), (cw HB.out hw110_4), (cw HB.out hw111_0), (cw HB.out hw111_1), (cw HB.out hw111_2), (cw HB.out hw111_3), (cw HB.out hw111_4)⟩ (fun hHeld => ?_)
            clear hK K
            refine norm_ (a' := ?_) ?_ ?_
            rotate_left
            · show Act.put _ (some 27) _ = _
              simp only [Act.put, List.setIfInBounds_toArray, List.set_cons_zero, List.set_cons_succ, i64_w, i32_w]
              rfl
            refine pure_ (i := 25) (N := some 28) (v := ?_) (a' := ?_) spec_l03Throat.z26 rfl rfl (any_of HT_.out (by kernel_rfl)) (fun _ _ _ h => h) (Or.inl ⟨by rfl, ?_⟩) ?_ ?_
            rotate_left
            · intro w'
              go_simp
              with_reducible rfl
            rotate_left
            · simp only [Act.put, List.setIfInBounds_toArray, List.set_cons_zero, List.set_cons_succ, i64_w, i32_w]
              rfl
            refine pure_ (i := 26) (N := some 29) (v := ?_) (a' := ?_) spec_l03Throat.z27 rfl rfl (any_of HT_.out (by kernel_rfl)) (fun _ _ _ h => h) (Or.inl ⟨by rfl, ?_⟩) ?_ ?_
            rotate_left
            · intro w'
              go_simp
              with_reducible rfl
            rotate_left
            · simp only [Act.put, List.setIfInBounds_toArray, List.set_cons_zero, List.set_cons_succ, i64_w, i32_w]
              rfl
            refine pure_ (i := 27) (N := some 30) (v := undef) (a' := ?_) spec_l03Throat.z28 rfl rfl (any_of HT_.out (by kernel_rfl)) (fun _ _ _ h => h) (Or.inr ⟨by rfl, rfl⟩) ?_ ?_
            rotate_left
            · simp only [Act.put, List.setIfInBounds_toArray, List.set_cons_zero, List.set_cons_succ, i64_w, i32_w]
              rfl
            refine pure_ (i := 28) (N := some 31) (v := undef) (a' := ?_) spec_l03Throat.z29 rfl rfl (any_of HT_.out (by kernel_rfl)) (fun _ _ _ h => h) (Or.inr ⟨by rfl, rfl⟩) ?_ ?_
            rotate_left
            · simp only [Act.put, List.setIfInBounds_toArray, List.set_cons_zero, List.set_cons_succ, i64_w, i32_w]
              rfl
            refine pure_ (i := 29) (N := some 32) (v := undef) (a' := ?_) spec_l03Throat.z30 rfl rfl (any_of HT_.out (by kernel_rfl)) (fun _ _ _ h => h) (Or.inr ⟨by rfl, rfl⟩) ?_ ?_
            rotate_left
            · simp only [Act.put, List.setIfInBounds_toArray, List.set_cons_zero, List.set_cons_succ, i64_w, i32_w]
              rfl
            refine pure_ (i := 30) (N := some 33) (v := undef) (a' := ?_) spec_l03Throat.z61 rfl rfl (any_of HT_.out (by kernel_rfl)) (fun _ _ _ h => h) (Or.inr ⟨by rfl, rfl⟩) ?_ ?_
            rotate_left
            · simp only [Act.put, List.setIfInBounds_toArray, List.set_cons_zero, List.set_cons_succ, i64_w, i32_w]
              rfl
            refine pure_ (i := 31) (N := some 34) (v := undef) (a' := ?_) spec_l03Throat.z62 rfl rfl (any_of HT_.out (by kernel_rfl)) (fun _ _ _ h => h) (Or.inr ⟨by rfl, rfl⟩) ?_ ?_
            rotate_left
            · simp only [Act.put, List.setIfInBounds_toArray, List.set_cons_zero, List.set_cons_succ, i64_w, i32_w]
              rfl
            refine pure_ (i := 32) (N := some 35) (v := undef) (a' := ?_) spec_l03Throat.z63 rfl rfl (any_of HT_.out (by kernel_rfl)) (fun _ _ _ h => h) (Or.inr ⟨by rfl, rfl⟩) ?_ ?_
            rotate_left
            · simp only [Act.put, List.setIfInBounds_toArray, List.set_cons_zero, List.set_cons_succ, i64_w, i32_w]
              rfl
            refine pure_ (i := 33) (N := some 36) (v := undef) (a' := ?_) spec_l03Throat.z34 rfl rfl (any_of HT_.out (by kernel_rfl)) (fun _ _ _ h => h) (Or.inr ⟨by rfl, rfl⟩) ?_ ?_
            rotate_left
            · simp only [Act.put, List.setIfInBounds_toArray, List.set_cons_zero, List.set_cons_succ, i64_w, i32_w]
              rfl
            refine pure_ (i := 34) (N := some 37) (v := undef) (a' := ?_) spec_l03Throat.z35 rfl rfl (any_of HT_.out (by kernel_rfl)) (fun _ _ _ h => h) (Or.inr ⟨by rfl, rfl⟩) ?_ ?_
            rotate_left
            · simp only [Act.put, List.setIfInBounds_toArray, List.set_cons_zero, List.set_cons_succ, i64_w, i32_w]
              rfl
            refine pure_ (i := 35) (N := some 38) (v := undef) (a' := ?_) spec_l03Throat.z36 rfl rfl (any_of HT_.out (by kernel_rfl)) (fun _ _ _ h => h) (Or.inr ⟨by rfl, rfl⟩) ?_ ?_
            rotate_left
            · simp only [Act.put, List.setIfInBounds_toArray, List.set_cons_zero, List.set_cons_succ, i64_w, i32_w]
              rfl
            refine pure_ (i := 36) (N := some 39) (v := undef) (a' := ?_) spec_l03Throat.z37 rfl rfl (any_of HT_.out (by kernel_rfl)) (fun _ _ _ h => h) (Or.inr ⟨by rfl, rfl⟩) ?_ ?_
            rotate_left
            · simp only [Act.put, List.setIfInBounds_toArray, List.set_cons_zero, List.set_cons_succ, i64_w, i32_w]
              rfl
            refine pure_ (i := 37) (N := some 40) (v := ?_) (a' := ?_) spec_l03Throat.z38 rfl rfl (any_of HT_.out (by kernel_rfl)) (fun _ _ _ h => h) (Or.inl ⟨by rfl, ?_⟩) ?_ ?_
            rotate_left
            · intro w'
              go_simp
              with_reducible rfl
            rotate_left
            · simp only [Act.put, List.setIfInBounds_toArray, List.set_cons_zero, List.set_cons_succ, i64_w, i32_w]
              rfl
            refine pure_ (i := 38) (N := some 41) (v := ?_) (a' := ?_) spec_l03Throat.z39 rfl rfl (any_of HT_.out (by kernel_rfl)) (fun _ _ _ h => h) (Or.inl ⟨by rfl, ?_⟩) ?_ ?_
            rotate_left
            · intro w'
              go_simp
              with_reducible rfl
            rotate_left
            · simp only [Act.put, List.setIfInBounds_toArray, List.set_cons_zero, List.set_cons_succ, i64_w, i32_w]
              rfl
            refine pure_ (i := 39) (N := some 42) (v := undef) (a' := ?_) spec_l03Throat.z40 rfl rfl (any_of HT_.out (by kernel_rfl)) (fun _ _ _ h => h) (Or.inr ⟨by rfl, rfl⟩) ?_ ?_
            rotate_left
            · simp only [Act.put, List.setIfInBounds_toArray, List.set_cons_zero, List.set_cons_succ, i64_w, i32_w]
              rfl
            refine pure_ (i := 40) (N := some 43) (v := undef) (a' := ?_) spec_l03Throat.z41 rfl rfl (any_of HT_.out (by kernel_rfl)) (fun _ _ _ h => h) (Or.inr ⟨by rfl, rfl⟩) ?_ ?_
            rotate_left
            · simp only [Act.put, List.setIfInBounds_toArray, List.set_cons_zero, List.set_cons_succ, i64_w, i32_w]
              rfl
            refine pure_ (i := 41) (N := some 44) (v := undef) (a' := ?_) spec_l03Throat.z42 rfl rfl (any_of HT_.out (by kernel_rfl)) (fun _ _ _ h => h) (Or.inr ⟨by rfl, rfl⟩) ?_ ?_
            rotate_left
            · simp only [Act.put, List.setIfInBounds_toArray, List.set_cons_zero, List.set_cons_succ, i64_w, i32_w]
              rfl
            refine pure_ (i := 42) (N := some 45) (v := undef) (a' := ?_) spec_l03Throat.z43 rfl rfl (any_of HT_.out (by kernel_rfl)) (fun _ _ _ h => h) (Or.inr ⟨by rfl, rfl⟩) ?_ ?_
            rotate_left
            · simp only [Act.put, List.setIfInBounds_toArray, List.set_cons_zero, List.set_cons_succ, i64_w, i32_w]
              rfl
            refine pure_ (i := 43) (N := some 46) (v := undef) (a' := ?_) spec_l03Throat.z44 rfl rfl (any_of HT_.out (by kernel_rfl)) (fun _ _ _ h => h) (Or.inr ⟨by rfl, rfl⟩) ?_ ?_
            rotate_left
            · simp only [Act.put, List.setIfInBounds_toArray, List.set_cons_zero, List.set_cons_succ, i64_w, i32_w]
              rfl
            refine pure_ (i := 44) (N := some 47) (v := ?_) (a' := ?_) spec_l03Throat.z45 rfl rfl (any_of HT_.out (by kernel_rfl)) (fun _ _ _ h => h) (Or.inl ⟨by rfl, ?_⟩) ?_ ?_
            rotate_left
            · intro w'
              go_simp
              with_reducible rfl
            rotate_left
            · simp only [Act.put, List.setIfInBounds_toArray, List.set_cons_zero, List.set_cons_succ, i64_w, i32_w]
              rfl
            refine pure_ (i := 45) (N := some 48) (v := ?_) (a' := ?_) spec_l03Throat.z46 rfl rfl (any_of HT_.out (by kernel_rfl)) (fun _ _ _ h => h) (Or.inl ⟨by rfl, ?_⟩) ?_ ?_
            rotate_left
            · intro w'
              go_simp
              with_reducible rfl
            rotate_left
            · simp only [Act.put, List.setIfInBounds_toArray, List.set_cons_zero, List.set_cons_succ, i64_w, i32_w]
              rfl
            refine pure_ (i := 46) (N := some 49) (v := undef) (a' := ?_) spec_l03Throat.z47 rfl rfl (any_of HT_.out (by kernel_rfl)) (fun _ _ _ h => h) (Or.inr ⟨by rfl, rfl⟩) ?_ ?_
            rotate_left
            · simp only [Act.put, List.setIfInBounds_toArray, List.set_cons_zero, List.set_cons_succ, i64_w, i32_w]
              rfl
            refine pure_ (i := 47) (N := some 50) (v := undef) (a' := ?_) spec_l03Throat.z48 rfl rfl (any_of HT_.out (by kernel_rfl)) (fun _ _ _ h => h) (Or.inr ⟨by rfl, rfl⟩) ?_ ?_
            rotate_left
            · simp only [Act.put, List.setIfInBounds_toArray, List.set_cons_zero, List.set_cons_succ, i64_w, i32_w]
              rfl
            refine pure_ (i := 48) (N := some 51) (v := undef) (a' := ?_) spec_l03Throat.z49 rfl rfl (any_of HT_.out (by kernel_rfl)) (fun _ _ _ h => h) (Or.inr ⟨by rfl, rfl⟩) ?_ ?_
            rotate_left
            · simp only [Act.put, List.setIfInBounds_toArray, List.set_cons_zero, List.set_cons_succ, i64_w, i32_w]
              rfl
            refine pure_ (i := 49) (N := some 52) (v := undef) (a' := ?_) spec_l03Throat.z50 rfl rfl (any_of HT_.out (by kernel_rfl)) (fun _ _ _ h => h) (Or.inr ⟨by rfl, rfl⟩) ?_ ?_
            rotate_left
            · simp only [Act.put, List.setIfInBounds_toArray, List.set_cons_zero, List.set_cons_succ, i64_w, i32_w]
              rfl
            refine pure_ (i := 50) (N := some 53) (v := undef) (a' := ?_) spec_l03Throat.z51 rfl rfl (any_of HT_.out (by kernel_rfl)) (fun _ _ _ h => h) (Or.inr ⟨by rfl, rfl⟩) ?_ ?_
            rotate_left
            · simp only [Act.put, List.setIfInBounds_toArray, List.set_cons_zero, List.set_cons_succ, i64_w, i32_w]
              rfl
            refine pure_ (i := 51) (N := some 54) (v := ?_) (a' := ?_) spec_l03Throat.z52 rfl rfl (any_of HT_.out (by kernel_rfl)) (fun _ _ _ h => h) (Or.inl ⟨by rfl, ?_⟩) ?_ ?_
            rotate_left
            · intro w'
              go_simp
              with_reducible rfl
            rotate_left
            · simp only [Act.put, List.setIfInBounds_toArray, List.set_cons_zero, List.set_cons_succ, i64_w, i32_w]
              rfl
            refine pure_ (i := 52) (N := some 55) (v := ?_) (a' := ?_) spec_l03Throat.z53 rfl rfl (any_of HT_.out (by kernel_rfl)) (fun _ _ _ h => h) (Or.inl ⟨by rfl, ?_⟩) ?_ ?_
            rotate_left
            · intro w'
              go_simp
              with_reducible rfl
            rotate_left
            · simp only [Act.put, List.setIfInBounds_toArray, List.set_cons_zero, List.set_cons_succ, i64_w, i32_w]
              rfl
            refine pure_ (i := 53) (N := some 56) (v := undef) (a' := ?_) spec_l03Throat.z54 rfl rfl (any_of HT_.out (by kernel_rfl)) (fun _ _ _ h => h) (Or.inr ⟨by rfl, rfl⟩) ?_ ?_
            rotate_left
            · simp only [Act.put, List.setIfInBounds_toArray, List.set_cons_zero, List.set_cons_succ, i64_w, i32_w]
              rfl
            refine pure_ (i := 54) (N := some 57) (v := undef) (a' := ?_) spec_l03Throat.z55 rfl rfl (any_of HT_.out (by kernel_rfl)) (fun _ _ _ h => h) (Or.inr ⟨by rfl, rfl⟩) ?_ ?_
            rotate_left
            · simp only [Act.put, List.setIfInBounds_toArray, List.set_cons_zero, List.set_cons_succ, i64_w, i32_w]
              rfl
            refine pure_ (i := 55) (N := some 58) (v := undef) (a' := ?_) spec_l03Throat.z56 rfl rfl (any_of HT_.out (by kernel_rfl)) (fun _ _ _ h => h) (Or.inr ⟨by rfl, rfl⟩) ?_ ?_
            rotate_left
            · simp only [Act.put, List.setIfInBounds_toArray, List.set_cons_zero, List.set_cons_succ, i64_w, i32_w]
              rfl
            refine pure_ (i := 56) (N := some 59) (v := undef) (a' := ?_) spec_l03Throat.z57 rfl rfl (any_of HT_.out (by kernel_rfl)) (fun _ _ _ h => h) (Or.inr ⟨by rfl, rfl⟩) ?_ ?_
            rotate_left
            · simp only [Act.put, List.setIfInBounds_toArray, List.set_cons_zero, List.set_cons_succ, i64_w, i32_w]
              rfl
            refine pure_ (i := 57) (N := some 60) (v := undef) (a' := ?_) spec_l03Throat.z58 rfl rfl (any_of HT_.out (by kernel_rfl)) (fun _ _ _ h => h) (Or.inr ⟨by rfl, rfl⟩) ?_ ?_
            rotate_left
            · simp only [Act.put, List.setIfInBounds_toArray, List.set_cons_zero, List.set_cons_succ, i64_w, i32_w]
              rfl
            refine pure_ (i := 58) (N := some 61) (v := ?_) (a' := ?_) spec_l03Throat.z59 rfl rfl (any_of HT_.out (by kernel_rfl)) (fun _ _ _ h => h) (Or.inl ⟨by rfl, ?_⟩) ?_ ?_
            rotate_left
            · intro w'
              go_simp
              with_reducible rfl
            rotate_left
            · simp only [Act.put, List.setIfInBounds_toArray, List.set_cons_zero, List.set_cons_succ, i64_w, i32_w]
              rfl
            refine pure_ (i := 59) (N := some 2) (v := ?_) (a' := ?_) spec_l03Throat.z60 rfl rfl (any_of HT_.out (by kernel_rfl)) (fun _ _ _ h => h) (Or.inl ⟨by rfl, ?_⟩) ?_ ?_
            rotate_left
            · intro w'
              go_simp
              with_reducible rfl
            rotate_left
            · simp only [Act.put, List.setIfInBounds_toArray, List.set_cons_zero, List.set_cons_succ, i64_w, i32_w]
              rfl
            refine done_ (done_of HT_.out (by kernel_rfl)) ?_
            try go_wp2
            go_ret
            exact ⟨by first | rfl | (simp [errW_none, errW_some] <;> rfl) | (simp [*, errW_none, errW_some] <;> rfl), by repeat (first | (with_reducible first | exact HB.out | apply below_alloc | apply pw_below_drewN | apply below_drew1) | exact HB.out)⟩
        · rw [if_neg c6] at H
          exact absurd H (by simp)
      · rw [if_neg c4] at H
        exact absurd H (by simp)
    · rw [if_neg c3] at H
      exact absurd H (by simp)
  · rw [if_neg c2] at H
    exact absurd H (by simp)
end Go.Proofs.YtbojmdjghfhmbaaDoor.PFnExactThroatText
