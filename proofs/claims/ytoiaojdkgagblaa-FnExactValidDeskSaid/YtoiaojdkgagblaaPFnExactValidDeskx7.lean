import Derived.Test.YtoiaojdkgagblaaPFnExactValidDeskx0
import Derived.Test.YtoiaojdkgagblaaPFnExactValidDeskx5
namespace Go.Proofs.Ytoiaojdkgagblaa.PFnExactValidDesk
open Go.RowKit Go.Proofs.YtoiaojdkgagblaaW.PrintWords Go.Proofs.YtoiaojdkgagblaaW.PrintLast Go.Proofs.YtoiaojdkgagblaaW.PrintMore
open Go.Proofs.YtoiaojdkgagblaaW.PrintFl
attribute [local go_sem high] binOp_feq binOp_fne binOp_fls binOp_fle binOp_fgr binOp_fge binOp_sle binOp_sgt
attribute [local go_sem] run_fopr run_fconv run_fint run_stf run_stc ext_f32bits ext_f64bits ext_f32frombits
attribute [local go_sem] max2_int min2_int max_two min_two max_three min_three max_four min_four
set_option linter.unusedVariables false
set_option linter.unusedSimpArgs false
def spec_l02End.f (a0 : Nat) : Option (Bool) := if (fge .f32 a0 3212836864) = true then (some (fle .f32 a0 1065353216)) else (some false)
set_option maxHeartbeats 8000000 in
set_option maxRecDepth 100000 in
theorem spec_l02End.calls (a0 : Nat) (r : Bool) (w : World) (h : spec_l02End.f a0 = some r) :
    Calls Try.prog 203 #[.float .f32 a0] w fun e w' => e = .returned (.bool r) ∧ Drawn0 w w' := by
  have H : (if (fge .f32 a0 3212836864) = true then (some (fle .f32 a0 1065353216)) else (some false)) = some r := h
  clear h
  by_cases c2 : (fge .f32 a0 3212836864) = true
  · rw [if_pos c2] at H
    have c2b0 : (fge .f32 a0 3212836864) = true := c2
    clear c2
    obtain rfl := Option.some.inj H
    go_enter Try.func203, Try.ntmps203
    go_wp2
    go_ret
    exact ⟨by first | rfl | (simp; done) | (simp [*]; done), by repeat (first | exact Drawn0.refl _ | apply Drawn0.step)⟩
  · rw [if_neg c2] at H
    have c2b0 : (fge .f32 a0 3212836864) = false := by simpa using c2
    clear c2
    obtain rfl := Option.some.inj H
    go_enter Try.func203, Try.ntmps203
    go_wp2
    go_ret
    exact ⟨by first | rfl | (simp; done) | (simp [*]; done), by repeat (first | exact Drawn0.refl _ | apply Drawn0.step)⟩
def spec_l02Is.f (k : Nat) (l0 : List (S72)) : Option (Bool) := if 0 < (l0.length : Int) then ((spec_l02Areas.f k ((rd_T72 l0 0).f0)).bind fun t212 => (if t212 = true then (if (fgr .f32 ((rd_T72 l0 0).f1) 0) = true then (if (fle .f32 ((rd_T72 l0 0).f1) 1065353216) = true then ((spec_l02End.f ((rd_T72 l0 0).f2)).bind fun t219 => (if t219 = true then ((spec_l02End.f ((rd_T72 l0 0).f3)).bind fun t222 => (some t222)) else (some false))) else (some false)) else (some false)) else (some false))) else (none)
theorem spec_l02Is.mono : ∀ a0 k, LeO (spec_l02Is.f k a0) (spec_l02Is.f (k + 1) a0) := by
 intro a0 k
 unfold spec_l02Is.f
 repeat' first
   | (with_reducible exact spec_l02Areas.mono _ _)
   | (with_reducible exact LeO.refl _)
   | (with_reducible exact LeO.none _)
   | (with_reducible refine LeO.ite ?_ ?_)
   | (with_reducible refine LeO.bind ?_ (fun _ => ?_))
   | exact spec_l02Areas.mono _ _
   | exact LeO.none _
   | refine LeO.ite ?_ ?_
   | refine LeO.bind ?_ (fun _ => ?_)
set_option maxHeartbeats 8000000 in
set_option maxRecDepth 100000 in
theorem spec_l02Is.calls (k : Nat) (A0 : Option Addr) (l0 : List (S72)) (r : Bool) (w : World) (hr0 : Kd.C k72 w A0 l0.length l0) (h : spec_l02Is.f k l0 = some r) :
  Calls Try.prog 180 #[.pointer A0] w fun e w' => e = .returned (.bool r) ∧ Drawn0 w w' := by
 have hu26 := Try.underlying26
 have hu36 := Try.underlying36
 have HR0 := Aside0.mk hr0
 clear hr0
 have H : (if 0 < (l0.length : Int) then ((spec_l02Areas.f k ((rd_T72 l0 0).f0)).bind fun t212 => (if t212 = true then (if (fgr .f32 ((rd_T72 l0 0).f1) 0) = true then (if (fle .f32 ((rd_T72 l0 0).f1) 1065353216) = true then ((spec_l02End.f ((rd_T72 l0 0).f2)).bind fun t219 => (if t219 = true then ((spec_l02End.f ((rd_T72 l0 0).f3)).bind fun t222 => (some t222)) else (some false))) else (some false)) else (some false)) else (some false))) else (none)) = some r := h
 clear h
 by_cases c2 : 0 < (l0.length : Int)
 ·rw [if_pos c2] at H
  have c2b0 : decide (0 < (l0.length : Int)) = true := decide_eq_true c2
  have c2b1 : decide (0 < l0.length) = true := decide_eq_true (by omega)
  clear c2
  replace H := Option.bind_eq_some_iff.mp H
  obtain ⟨t212, A30, H⟩ := H
  replace H : (if t212 = true then (if (fgr .f32 ((rd_T72 l0 0).f1) 0) = true then (if (fle .f32 ((rd_T72 l0 0).f1) 1065353216) = true then ((spec_l02End.f ((rd_T72 l0 0).f2)).bind fun t219 => (if t219 = true then ((spec_l02End.f ((rd_T72 l0 0).f3)).bind fun t222 => (some t222)) else (some false))) else (some false)) else (some false)) else (some false)) = some r := H
  have A3 := Aside0.mk A30
  clear A30
  by_cases c4 : t212 = true
  ·subst c4
   have H1 : (if (fgr .f32 ((rd_T72 l0 0).f1) 0) = true then (if (fle .f32 ((rd_T72 l0 0).f1) 1065353216) = true then ((spec_l02End.f ((rd_T72 l0 0).f2)).bind fun t219 => (if t219 = true then ((spec_l02End.f ((rd_T72 l0 0).f3)).bind fun t222 => (some t222)) else (some false))) else (some false)) else (some false)) = some r := by rw [if_pos rfl] at H; exact H
   clear H
   have H := H1
   clear H1
   by_cases c5 : (fgr .f32 ((rd_T72 l0 0).f1) 0) = true
   ·rw [if_pos c5] at H
    have c5b0 : (fgr .f32 ((rd_T72 l0 0).f1) 0) = true := c5
    clear c5
    by_cases c6 : (fle .f32 ((rd_T72 l0 0).f1) 1065353216) = true
    ·rw [if_pos c6] at H
     have c6b0 : (fle .f32 ((rd_T72 l0 0).f1) 1065353216) = true := c6
     clear c6
     replace H := Option.bind_eq_some_iff.mp H
     obtain ⟨t219, A70, H⟩ := H
     replace H : (if t219 = true then ((spec_l02End.f ((rd_T72 l0 0).f3)).bind fun t222 => (some t222)) else (some false)) = some r := H
     have A7 := Aside0.mk A70
     clear A70
     by_cases c8 : t219 = true
     ·subst c8
      have H1 : ((spec_l02End.f ((rd_T72 l0 0).f3)).bind fun t222 => (some t222)) = some r := by rw [if_pos rfl] at H; exact H
      clear H
      have H := H1
      clear H1
      replace H := Option.bind_eq_some_iff.mp H
      obtain ⟨t222, A90, H⟩ := H
      replace H : (some t222) = some r := H
      have A9 := Aside0.mk A90
      clear A90
      obtain rfl := Option.some.inj H
      have p210 : 0 ≤ (0 : Int) := (by omega)
      have q210 : 0 < (l0.length : Int) := of_decide_eq_true (by first | (with_reducible assumption) | assumption)
      obtain ⟨ad210, A210_0, c210_0, e210, hx210_0, hx210_1, hx210_2, hx210_3, hl210_0, hi210_0⟩ := at_T72 HR0.out 0 p210 q210
      cases e210
      have qi210 : (0 < l0.length) = True := eq_true (by omega)
      (try rw [show ((0 : Int)).toNat = 0 from rfl] at hx210_0)
      (try rw [show 0 * 4 = 0 from rfl] at hx210_0)
      (try rw [Addr.add_zero'] at hx210_0)
      (try rw [show ((0 : Int)).toNat = 0 from rfl] at hx210_1)
      (try rw [show 0 * 4 = 0 from rfl] at hx210_1)
      (try rw [Addr.add_zero'] at hx210_1)
      (try rw [show ((0 : Int)).toNat = 0 from rfl] at hx210_2)
      (try rw [show 0 * 4 = 0 from rfl] at hx210_2)
      (try rw [Addr.add_zero'] at hx210_2)
      (try rw [show ((0 : Int)).toNat = 0 from rfl] at hx210_3)
      (try rw [show 0 * 4 = 0 from rfl] at hx210_3)
      (try rw [Addr.add_zero'] at hx210_3)
      have HR210_0 := Aside0.mk hi210_0
      have HC210_0 := Aside0.mk hl210_0
      clear hi210_0 hl210_0
      replace p210 := eq_true p210
      replace q210 := eq_true q210
      have p211 : 0 ≤ (0 : Int) := (by omega)
      have q211 : 0 < (l0.length : Int) := of_decide_eq_true (by first | (with_reducible assumption) | assumption)
      obtain ⟨ad211, A211_0, c211_0, e211, hx211_0, hx211_1, hx211_2, hx211_3, hl211_0, hi211_0⟩ := at_T72 HR0.out 0 p211 q211
      obtain rfl : ad210 = ad211 := (by injection e211)
      have qi211 : (0 < l0.length) = True := eq_true (by omega)
      (try rw [show ((0 : Int)).toNat = 0 from rfl] at hx211_0)
      (try rw [show 0 * 4 = 0 from rfl] at hx211_0)
      (try rw [Addr.add_zero'] at hx211_0)
      (try rw [show ((0 : Int)).toNat = 0 from rfl] at hx211_1)
      (try rw [show 0 * 4 = 0 from rfl] at hx211_1)
      (try rw [Addr.add_zero'] at hx211_1)
      (try rw [show ((0 : Int)).toNat = 0 from rfl] at hx211_2)
      (try rw [show 0 * 4 = 0 from rfl] at hx211_2)
      (try rw [Addr.add_zero'] at hx211_2)
      (try rw [show ((0 : Int)).toNat = 0 from rfl] at hx211_3)
      (try rw [show 0 * 4 = 0 from rfl] at hx211_3)
      (try rw [Addr.add_zero'] at hx211_3)
      have HR211_0 := Aside0.mk hi211_0
      have HC211_0 := Aside0.mk hl211_0
      clear hi211_0 hl211_0
      replace p211 := eq_true p211
      replace q211 := eq_true q211
      have ea_ := Option.some.inj (hx210_0.symm.trans hx211_0)
      injection ea_ with ea_ en_ ec_
      subst ea_
      subst ec_
      clear en_
      go_enter Try.func180, Try.ntmps180
      go_wp2_with (first | ((with_reducible refine gate_callee (f := 198) rfl ?_); refine goesL_ (some 7) rfl rfl Try.func198 (by kernel_rfl) rfl #[.slice A210_0 ((rd_T72 l0 0).f0).length c210_0] rfl (by (try simp only [List.map_toArray, List.map_cons, List.map_nil]); first | done | rfl | (simp only [List.length_drop, List.length_take]; rfl)) ?_; (with_reducible refine (spec_l02Areas.calls k _ _ ((rd_T72 l0 0).f0) true _ ?side1 ?side2 A3.out).mono ?_); (case side1 => repeat (first | exact HR211_0.out | (with_reducible refine Kd.C_alloc ?_ _) | (with_reducible refine Kd.C_drewN ?_ _) | (with_reducible refine Kd.C_drew ?_))); (case side2 => exact HC211_0.out); rintro e w' ⟨rfl, ⟨nd, rfl⟩⟩; refine ⟨_, rfl, ?_⟩; have p213 : 0 ≤ (0 : Int) := (by omega); have q213 : 0 < (l0.length : Int) := of_decide_eq_true (by first | (with_reducible assumption) | assumption); obtain ⟨ad213, A213_0, c213_0, e213, hx213_0, hx213_1, hx213_2, hx213_3, hl213_0, hi213_0⟩ := at_T72 HR0.out 0 p213 q213; obtain rfl : ad210 = ad213 := (by injection e213); have qi213 : (0 < l0.length) = True := eq_true (by omega); (try rw [show ((0 : Int)).toNat = 0 from rfl] at hx213_0); (try rw [show 0 * 4 = 0 from rfl] at hx213_0); (try rw [Addr.add_zero'] at hx213_0); (try rw [show ((0 : Int)).toNat = 0 from rfl] at hx213_1); (try rw [show 0 * 4 = 0 from rfl] at hx213_1); (try rw [Addr.add_zero'] at hx213_1); (try rw [show ((0 : Int)).toNat = 0 from rfl] at hx213_2); (try rw [show 0 * 4 = 0 from rfl] at hx213_2); (try rw [Addr.add_zero'] at hx213_2); (try rw [show ((0 : Int)).toNat = 0 from rfl] at hx213_3); (try rw [show 0 * 4 = 0 from rfl] at hx213_3); (try rw [Addr.add_zero'] at hx213_3); have HR213_0 := Aside0.mk hi213_0; have HC213_0 := Aside0.mk hl213_0; clear hi213_0 hl213_0; replace p213 := eq_true p213; replace q213 := eq_true q213; have ea_ := Option.some.inj (hx210_0.symm.trans hx213_0); injection ea_ with ea_ en_ ec_; subst ea_; subst ec_; clear en_; have p214 : 0 ≤ (0 : Int) := (by omega); have q214 : 0 < (l0.length : Int) := of_decide_eq_true (by first | (with_reducible assumption) | assumption); obtain ⟨ad214, A214_0, c214_0, e214, hx214_0, hx214_1, hx214_2, hx214_3, hl214_0, hi214_0⟩ := at_T72 HR0.out 0 p214 q214; obtain rfl : ad210 = ad214 := (by injection e214); have qi214 : (0 < l0.length) = True := eq_true (by omega); (try rw [show ((0 : Int)).toNat = 0 from rfl] at hx214_0); (try rw [show 0 * 4 = 0 from rfl] at hx214_0); (try rw [Addr.add_zero'] at hx214_0); (try rw [show ((0 : Int)).toNat = 0 from rfl] at hx214_1); (try rw [show 0 * 4 = 0 from rfl] at hx214_1); (try rw [Addr.add_zero'] at hx214_1); (try rw [show ((0 : Int)).toNat = 0 from rfl] at hx214_2); (try rw [show 0 * 4 = 0 from rfl] at hx214_2); (try rw [Addr.add_zero'] at hx214_2); (try rw [show ((0 : Int)).toNat = 0 from rfl] at hx214_3); (try rw [show 0 * 4 = 0 from rfl] at hx214_3); (try rw [Addr.add_zero'] at hx214_3); have HR214_0 := Aside0.mk hi214_0; have HC214_0 := Aside0.mk hl214_0; clear hi214_0 hl214_0; replace p214 := eq_true p214; replace q214 := eq_true q214; have ea_ := Option.some.inj (hx210_0.symm.trans hx214_0); injection ea_ with ea_ en_ ec_; subst ea_; subst ec_; clear en_; have p215 : 0 ≤ (0 : Int) := (by omega); have q215 : 0 < (l0.length : Int) := of_decide_eq_true (by first | (with_reducible assumption) | assumption); obtain ⟨ad215, A215_0, c215_0, e215, hx215_0, hx215_1, hx215_2, hx215_3, hl215_0, hi215_0⟩ := at_T72 HR0.out 0 p215 q215; obtain rfl : ad210 = ad215 := (by injection e215); have qi215 : (0 < l0.length) = True := eq_true (by omega); (try rw [show ((0 : Int)).toNat = 0 from rfl] at hx215_0); (try rw [show 0 * 4 = 0 from rfl] at hx215_0); (try rw [Addr.add_zero'] at hx215_0); (try rw [show ((0 : Int)).toNat = 0 from rfl] at hx215_1); (try rw [show 0 * 4 = 0 from rfl] at hx215_1); (try rw [Addr.add_zero'] at hx215_1); (try rw [show ((0 : Int)).toNat = 0 from rfl] at hx215_2); (try rw [show 0 * 4 = 0 from rfl] at hx215_2); (try rw [Addr.add_zero'] at hx215_2); (try rw [show ((0 : Int)).toNat = 0 from rfl] at hx215_3); (try rw [show 0 * 4 = 0 from rfl] at hx215_3); (try rw [Addr.add_zero'] at hx215_3); have HR215_0 := Aside0.mk hi215_0; have HC215_0 := Aside0.mk hl215_0; clear hi215_0 hl215_0; replace p215 := eq_true p215; replace q215 := eq_true q215; have ea_ := Option.some.inj (hx210_0.symm.trans hx215_0); injection ea_ with ea_ en_ ec_; subst ea_; subst ec_; clear en_; have p216 : 0 ≤ (0 : Int) := (by omega); have q216 : 0 < (l0.length : Int) := of_decide_eq_true (by first | (with_reducible assumption) | assumption); obtain ⟨ad216, A216_0, c216_0, e216, hx216_0, hx216_1, hx216_2, hx216_3, hl216_0, hi216_0⟩ := at_T72 HR0.out 0 p216 q216; obtain rfl : ad210 = ad216 := (by injection e216); have qi216 : (0 < l0.length) = True := eq_true (by omega); (try rw [show ((0 : Int)).toNat = 0 from rfl] at hx216_0); (try rw [show 0 * 4 = 0 from rfl] at hx216_0); (try rw [Addr.add_zero'] at hx216_0); (try rw [show ((0 : Int)).toNat = 0 from rfl] at hx216_1); (try rw [show 0 * 4 = 0 from rfl] at hx216_1); (try rw [Addr.add_zero'] at hx216_1); (try rw [show ((0 : Int)).toNat = 0 from rfl] at hx216_2); (try rw [show 0 * 4 = 0 from rfl] at hx216_2); (try rw [Addr.add_zero'] at hx216_2); (try rw [show ((0 : Int)).toNat = 0 from rfl] at hx216_3); (try rw [show 0 * 4 = 0 from rfl] at hx216_3); (try rw [Addr.add_zero'] at hx216_3); have HR216_0 := Aside0.mk hi216_0; have HC216_0 := Aside0.mk hl216_0; clear hi216_0 hl216_0; replace p216 := eq_true p216; replace q216 := eq_true q216; have ea_ := Option.some.inj (hx210_0.symm.trans hx216_0); injection ea_ with ea_ en_ ec_; subst ea_; subst ec_; clear en_; have p217 : 0 ≤ (0 : Int) := (by omega); have q217 : 0 < (l0.length : Int) := of_decide_eq_true (by first | (with_reducible assumption) | assumption); obtain ⟨ad217, A217_0, c217_0, e217, hx217_0, hx217_1, hx217_2, hx217_3, hl217_0, hi217_0⟩ := at_T72 HR0.out 0 p217 q217; obtain rfl : ad210 = ad217 := (by injection e217); have qi217 : (0 < l0.length) = True := eq_true (by omega); (try rw [show ((0 : Int)).toNat = 0 from rfl] at hx217_0); (try rw [show 0 * 4 = 0 from rfl] at hx217_0); (try rw [Addr.add_zero'] at hx217_0); (try rw [show ((0 : Int)).toNat = 0 from rfl] at hx217_1); (try rw [show 0 * 4 = 0 from rfl] at hx217_1); (try rw [Addr.add_zero'] at hx217_1); (try rw [show ((0 : Int)).toNat = 0 from rfl] at hx217_2); (try rw [show 0 * 4 = 0 from rfl] at hx217_2); (try rw [Addr.add_zero'] at hx217_2); (try rw [show ((0 : Int)).toNat = 0 from rfl] at hx217_3); (try rw [show 0 * 4 = 0 from rfl] at hx217_3); (try rw [Addr.add_zero'] at hx217_3); have HR217_0 := Aside0.mk hi217_0; have HC217_0 := Aside0.mk hl217_0; clear hi217_0 hl217_0; replace p217 := eq_true p217; replace q217 := eq_true q217; have ea_ := Option.some.inj (hx210_0.symm.trans hx217_0); injection ea_ with ea_ en_ ec_; subst ea_; subst ec_; clear en_; have p218 : 0 ≤ (0 : Int) := (by omega); have q218 : 0 < (l0.length : Int) := of_decide_eq_true (by first | (with_reducible assumption) | assumption); obtain ⟨ad218, A218_0, c218_0, e218, hx218_0, hx218_1, hx218_2, hx218_3, hl218_0, hi218_0⟩ := at_T72 HR0.out 0 p218 q218; obtain rfl : ad210 = ad218 := (by injection e218); have qi218 : (0 < l0.length) = True := eq_true (by omega); (try rw [show ((0 : Int)).toNat = 0 from rfl] at hx218_0); (try rw [show 0 * 4 = 0 from rfl] at hx218_0); (try rw [Addr.add_zero'] at hx218_0); (try rw [show ((0 : Int)).toNat = 0 from rfl] at hx218_1); (try rw [show 0 * 4 = 0 from rfl] at hx218_1); (try rw [Addr.add_zero'] at hx218_1); (try rw [show ((0 : Int)).toNat = 0 from rfl] at hx218_2); (try rw [show 0 * 4 = 0 from rfl] at hx218_2); (try rw [Addr.add_zero'] at hx218_2); (try rw [show ((0 : Int)).toNat = 0 from rfl] at hx218_3); (try rw [show 0 * 4 = 0 from rfl] at hx218_3); (try rw [Addr.add_zero'] at hx218_3); have HR218_0 := Aside0.mk hi218_0; have HC218_0 := Aside0.mk hl218_0; clear hi218_0 hl218_0; replace p218 := eq_true p218; replace q218 := eq_true q218; have ea_ := Option.some.inj (hx210_0.symm.trans hx218_0); injection ea_ with ea_ en_ ec_; subst ea_; subst ec_; clear en_) | (go_at_call 203; (with_reducible refine (spec_l02End.calls ((rd_T72 l0 0).f2) true _ A7.out).mono ?_); rintro e w' ⟨rfl, ⟨nd, rfl⟩⟩; have p220 : 0 ≤ (0 : Int) := (by omega); have q220 : 0 < (l0.length : Int) := of_decide_eq_true (by first | (with_reducible assumption) | assumption); obtain ⟨ad220, A220_0, c220_0, e220, hx220_0, hx220_1, hx220_2, hx220_3, hl220_0, hi220_0⟩ := at_T72 HR0.out 0 p220 q220; obtain rfl : ad210 = ad220 := (by injection e220); have qi220 : (0 < l0.length) = True := eq_true (by omega); (try rw [show ((0 : Int)).toNat = 0 from rfl] at hx220_0); (try rw [show 0 * 4 = 0 from rfl] at hx220_0); (try rw [Addr.add_zero'] at hx220_0); (try rw [show ((0 : Int)).toNat = 0 from rfl] at hx220_1); (try rw [show 0 * 4 = 0 from rfl] at hx220_1); (try rw [Addr.add_zero'] at hx220_1); (try rw [show ((0 : Int)).toNat = 0 from rfl] at hx220_2); (try rw [show 0 * 4 = 0 from rfl] at hx220_2); (try rw [Addr.add_zero'] at hx220_2); (try rw [show ((0 : Int)).toNat = 0 from rfl] at hx220_3); (try rw [show 0 * 4 = 0 from rfl] at hx220_3); (try rw [Addr.add_zero'] at hx220_3); have HR220_0 := Aside0.mk hi220_0; have HC220_0 := Aside0.mk hl220_0; clear hi220_0 hl220_0; replace p220 := eq_true p220; replace q220 := eq_true q220; have ea_ := Option.some.inj (hx210_0.symm.trans hx220_0); injection ea_ with ea_ en_ ec_; subst ea_; subst ec_; clear en_; have p221 : 0 ≤ (0 : Int) := (by omega); have q221 : 0 < (l0.length : Int) := of_decide_eq_true (by first | (with_reducible assumption) | assumption); obtain ⟨ad221, A221_0, c221_0, e221, hx221_0, hx221_1, hx221_2, hx221_3, hl221_0, hi221_0⟩ := at_T72 HR0.out 0 p221 q221; obtain rfl : ad210 = ad221 := (by injection e221); have qi221 : (0 < l0.length) = True := eq_true (by omega); (try rw [show ((0 : Int)).toNat = 0 from rfl] at hx221_0); (try rw [show 0 * 4 = 0 from rfl] at hx221_0); (try rw [Addr.add_zero'] at hx221_0); (try rw [show ((0 : Int)).toNat = 0 from rfl] at hx221_1); (try rw [show 0 * 4 = 0 from rfl] at hx221_1); (try rw [Addr.add_zero'] at hx221_1); (try rw [show ((0 : Int)).toNat = 0 from rfl] at hx221_2); (try rw [show 0 * 4 = 0 from rfl] at hx221_2); (try rw [Addr.add_zero'] at hx221_2); (try rw [show ((0 : Int)).toNat = 0 from rfl] at hx221_3); (try rw [show 0 * 4 = 0 from rfl] at hx221_3); (try rw [Addr.add_zero'] at hx221_3); have HR221_0 := Aside0.mk hi221_0; have HC221_0 := Aside0.mk hl221_0; clear hi221_0 hl221_0; replace p221 := eq_true p221; replace q221 := eq_true q221; have ea_ := Option.some.inj (hx210_0.symm.trans hx221_0); injection ea_ with ea_ en_ ec_; subst ea_; subst ec_; clear en_) | (go_at_call 203; (with_reducible refine (spec_l02End.calls ((rd_T72 l0 0).f3) t222 _ A9.out).mono ?_); rintro e w' ⟨rfl, ⟨nd, rfl⟩⟩))
      go_ret
      exact ⟨by first | rfl | (simp; done) | (simp [*]; done), by repeat (first | exact Drawn0.refl _ | apply Drawn0.step)⟩
     ·replace c8 := Bool.eq_false_iff.mpr c8
      subst c8
      have H1 : (some false) = some r := by rw [if_neg (show ¬ (false = true) by decide)] at H; exact H
      clear H
      have H := H1
      clear H1
      obtain rfl := Option.some.inj H
      have p210 : 0 ≤ (0 : Int) := (by omega)
      have q210 : 0 < (l0.length : Int) := of_decide_eq_true (by first | (with_reducible assumption) | assumption)
      obtain ⟨ad210, A210_0, c210_0, e210, hx210_0, hx210_1, hx210_2, hx210_3, hl210_0, hi210_0⟩ := at_T72 HR0.out 0 p210 q210
      cases e210
      have qi210 : (0 < l0.length) = True := eq_true (by omega)
      (try rw [show ((0 : Int)).toNat = 0 from rfl] at hx210_0)
      (try rw [show 0 * 4 = 0 from rfl] at hx210_0)
      (try rw [Addr.add_zero'] at hx210_0)
      (try rw [show ((0 : Int)).toNat = 0 from rfl] at hx210_1)
      (try rw [show 0 * 4 = 0 from rfl] at hx210_1)
      (try rw [Addr.add_zero'] at hx210_1)
      (try rw [show ((0 : Int)).toNat = 0 from rfl] at hx210_2)
      (try rw [show 0 * 4 = 0 from rfl] at hx210_2)
      (try rw [Addr.add_zero'] at hx210_2)
      (try rw [show ((0 : Int)).toNat = 0 from rfl] at hx210_3)
      (try rw [show 0 * 4 = 0 from rfl] at hx210_3)
      (try rw [Addr.add_zero'] at hx210_3)
      have HR210_0 := Aside0.mk hi210_0
      have HC210_0 := Aside0.mk hl210_0
      clear hi210_0 hl210_0
      replace p210 := eq_true p210
      replace q210 := eq_true q210
      have p211 : 0 ≤ (0 : Int) := (by omega)
      have q211 : 0 < (l0.length : Int) := of_decide_eq_true (by first | (with_reducible assumption) | assumption)
      obtain ⟨ad211, A211_0, c211_0, e211, hx211_0, hx211_1, hx211_2, hx211_3, hl211_0, hi211_0⟩ := at_T72 HR0.out 0 p211 q211
      obtain rfl : ad210 = ad211 := (by injection e211)
      have qi211 : (0 < l0.length) = True := eq_true (by omega)
      (try rw [show ((0 : Int)).toNat = 0 from rfl] at hx211_0)
      (try rw [show 0 * 4 = 0 from rfl] at hx211_0)
      (try rw [Addr.add_zero'] at hx211_0)
      (try rw [show ((0 : Int)).toNat = 0 from rfl] at hx211_1)
      (try rw [show 0 * 4 = 0 from rfl] at hx211_1)
      (try rw [Addr.add_zero'] at hx211_1)
      (try rw [show ((0 : Int)).toNat = 0 from rfl] at hx211_2)
      (try rw [show 0 * 4 = 0 from rfl] at hx211_2)
      (try rw [Addr.add_zero'] at hx211_2)
      (try rw [show ((0 : Int)).toNat = 0 from rfl] at hx211_3)
      (try rw [show 0 * 4 = 0 from rfl] at hx211_3)
      (try rw [Addr.add_zero'] at hx211_3)
      have HR211_0 := Aside0.mk hi211_0
      have HC211_0 := Aside0.mk hl211_0
      clear hi211_0 hl211_0
      replace p211 := eq_true p211
      replace q211 := eq_true q211
      have ea_ := Option.some.inj (hx210_0.symm.trans hx211_0)
      injection ea_ with ea_ en_ ec_
      subst ea_
      subst ec_
      clear en_
      go_enter Try.func180, Try.ntmps180
      go_wp2_with (first | ((with_reducible refine gate_callee (f := 198) rfl ?_); refine goesL_ (some 7) rfl rfl Try.func198 (by kernel_rfl) rfl #[.slice A210_0 ((rd_T72 l0 0).f0).length c210_0] rfl (by (try simp only [List.map_toArray, List.map_cons, List.map_nil]); first | done | rfl | (simp only [List.length_drop, List.length_take]; rfl)) ?_; (with_reducible refine (spec_l02Areas.calls k _ _ ((rd_T72 l0 0).f0) true _ ?side1 ?side2 A3.out).mono ?_); (case side1 => repeat (first | exact HR211_0.out | (with_reducible refine Kd.C_alloc ?_ _) | (with_reducible refine Kd.C_drewN ?_ _) | (with_reducible refine Kd.C_drew ?_))); (case side2 => exact HC211_0.out); rintro e w' ⟨rfl, ⟨nd, rfl⟩⟩; refine ⟨_, rfl, ?_⟩; have p213 : 0 ≤ (0 : Int) := (by omega); have q213 : 0 < (l0.length : Int) := of_decide_eq_true (by first | (with_reducible assumption) | assumption); obtain ⟨ad213, A213_0, c213_0, e213, hx213_0, hx213_1, hx213_2, hx213_3, hl213_0, hi213_0⟩ := at_T72 HR0.out 0 p213 q213; obtain rfl : ad210 = ad213 := (by injection e213); have qi213 : (0 < l0.length) = True := eq_true (by omega); (try rw [show ((0 : Int)).toNat = 0 from rfl] at hx213_0); (try rw [show 0 * 4 = 0 from rfl] at hx213_0); (try rw [Addr.add_zero'] at hx213_0); (try rw [show ((0 : Int)).toNat = 0 from rfl] at hx213_1); (try rw [show 0 * 4 = 0 from rfl] at hx213_1); (try rw [Addr.add_zero'] at hx213_1); (try rw [show ((0 : Int)).toNat = 0 from rfl] at hx213_2); (try rw [show 0 * 4 = 0 from rfl] at hx213_2); (try rw [Addr.add_zero'] at hx213_2); (try rw [show ((0 : Int)).toNat = 0 from rfl] at hx213_3); (try rw [show 0 * 4 = 0 from rfl] at hx213_3); (try rw [Addr.add_zero'] at hx213_3); have HR213_0 := Aside0.mk hi213_0; have HC213_0 := Aside0.mk hl213_0; clear hi213_0 hl213_0; replace p213 := eq_true p213; replace q213 := eq_true q213; have ea_ := Option.some.inj (hx210_0.symm.trans hx213_0); injection ea_ with ea_ en_ ec_; subst ea_; subst ec_; clear en_; have p214 : 0 ≤ (0 : Int) := (by omega); have q214 : 0 < (l0.length : Int) := of_decide_eq_true (by first | (with_reducible assumption) | assumption); obtain ⟨ad214, A214_0, c214_0, e214, hx214_0, hx214_1, hx214_2, hx214_3, hl214_0, hi214_0⟩ := at_T72 HR0.out 0 p214 q214; obtain rfl : ad210 = ad214 := (by injection e214); have qi214 : (0 < l0.length) = True := eq_true (by omega); (try rw [show ((0 : Int)).toNat = 0 from rfl] at hx214_0); (try rw [show 0 * 4 = 0 from rfl] at hx214_0); (try rw [Addr.add_zero'] at hx214_0); (try rw [show ((0 : Int)).toNat = 0 from rfl] at hx214_1); (try rw [show 0 * 4 = 0 from rfl] at hx214_1); (try rw [Addr.add_zero'] at hx214_1); (try rw [show ((0 : Int)).toNat = 0 from rfl] at hx214_2); (try rw [show 0 * 4 = 0 from rfl] at hx214_2); (try rw [Addr.add_zero'] at hx214_2); (try rw [show ((0 : Int)).toNat = 0 from rfl] at hx214_3); (try rw [show 0 * 4 = 0 from rfl] at hx214_3); (try rw [Addr.add_zero'] at hx214_3); have HR214_0 := Aside0.mk hi214_0; have HC214_0 := Aside0.mk hl214_0; clear hi214_0 hl214_0; replace p214 := eq_true p214; replace q214 := eq_true q214; have ea_ := Option.some.inj (hx210_0.symm.trans hx214_0); injection ea_ with ea_ en_ ec_; subst ea_; subst ec_; clear en_; have p215 : 0 ≤ (0 : Int) := (by omega); have q215 : 0 < (l0.length : Int) := of_decide_eq_true (by first | (with_reducible assumption) | assumption); obtain ⟨ad215, A215_0, c215_0, e215, hx215_0, hx215_1, hx215_2, hx215_3, hl215_0, hi215_0⟩ := at_T72 HR0.out 0 p215 q215; obtain rfl : ad210 = ad215 := (by injection e215); have qi215 : (0 < l0.length) = True := eq_true (by omega); (try rw [show ((0 : Int)).toNat = 0 from rfl] at hx215_0); (try rw [show 0 * 4 = 0 from rfl] at hx215_0); (try rw [Addr.add_zero'] at hx215_0); (try rw [show ((0 : Int)).toNat = 0 from rfl] at hx215_1); (try rw [show 0 * 4 = 0 from rfl] at hx215_1); (try rw [Addr.add_zero'] at hx215_1); (try rw [show ((0 : Int)).toNat = 0 from rfl] at hx215_2); (try rw [show 0 * 4 = 0 from rfl] at hx215_2); (try rw [Addr.add_zero'] at hx215_2); (try rw [show ((0 : Int)).toNat = 0 from rfl] at hx215_3); (try rw [show 0 * 4 = 0 from rfl] at hx215_3); (try rw [Addr.add_zero'] at hx215_3); have HR215_0 := Aside0.mk hi215_0; have HC215_0 := Aside0.mk hl215_0; clear hi215_0 hl215_0; replace p215 := eq_true p215; replace q215 := eq_true q215; have ea_ := Option.some.inj (hx210_0.symm.trans hx215_0); injection ea_ with ea_ en_ ec_; subst ea_; subst ec_; clear en_; have p216 : 0 ≤ (0 : Int) := (by omega); have q216 : 0 < (l0.length : Int) := of_decide_eq_true (by first | (with_reducible assumption) | assumption); obtain ⟨ad216, A216_0, c216_0, e216, hx216_0, hx216_1, hx216_2, hx216_3, hl216_0, hi216_0⟩ := at_T72 HR0.out 0 p216 q216; obtain rfl : ad210 = ad216 := (by injection e216); have qi216 : (0 < l0.length) = True := eq_true (by omega); (try rw [show ((0 : Int)).toNat = 0 from rfl] at hx216_0); (try rw [show 0 * 4 = 0 from rfl] at hx216_0); (try rw [Addr.add_zero'] at hx216_0); (try rw [show ((0 : Int)).toNat = 0 from rfl] at hx216_1); (try rw [show 0 * 4 = 0 from rfl] at hx216_1); (try rw [Addr.add_zero'] at hx216_1); (try rw [show ((0 : Int)).toNat = 0 from rfl] at hx216_2); (try rw [show 0 * 4 = 0 from rfl] at hx216_2); (try rw [Addr.add_zero'] at hx216_2); (try rw [show ((0 : Int)).toNat = 0 from rfl] at hx216_3); (try rw [show 0 * 4 = 0 from rfl] at hx216_3); (try rw [Addr.add_zero'] at hx216_3); have HR216_0 := Aside0.mk hi216_0; have HC216_0 := Aside0.mk hl216_0; clear hi216_0 hl216_0; replace p216 := eq_true p216; replace q216 := eq_true q216; have ea_ := Option.some.inj (hx210_0.symm.trans hx216_0); injection ea_ with ea_ en_ ec_; subst ea_; subst ec_; clear en_; have p217 : 0 ≤ (0 : Int) := (by omega); have q217 : 0 < (l0.length : Int) := of_decide_eq_true (by first | (with_reducible assumption) | assumption); obtain ⟨ad217, A217_0, c217_0, e217, hx217_0, hx217_1, hx217_2, hx217_3, hl217_0, hi217_0⟩ := at_T72 HR0.out 0 p217 q217; obtain rfl : ad210 = ad217 := (by injection e217); have qi217 : (0 < l0.length) = True := eq_true (by omega); (try rw [show ((0 : Int)).toNat = 0 from rfl] at hx217_0); (try rw [show 0 * 4 = 0 from rfl] at hx217_0); (try rw [Addr.add_zero'] at hx217_0); (try rw [show ((0 : Int)).toNat = 0 from rfl] at hx217_1); (try rw [show 0 * 4 = 0 from rfl] at hx217_1); (try rw [Addr.add_zero'] at hx217_1); (try rw [show ((0 : Int)).toNat = 0 from rfl] at hx217_2); (try rw [show 0 * 4 = 0 from rfl] at hx217_2); (try rw [Addr.add_zero'] at hx217_2); (try rw [show ((0 : Int)).toNat = 0 from rfl] at hx217_3); (try rw [show 0 * 4 = 0 from rfl] at hx217_3); (try rw [Addr.add_zero'] at hx217_3); have HR217_0 := Aside0.mk hi217_0; have HC217_0 := Aside0.mk hl217_0; clear hi217_0 hl217_0; replace p217 := eq_true p217; replace q217 := eq_true q217; have ea_ := Option.some.inj (hx210_0.symm.trans hx217_0); injection ea_ with ea_ en_ ec_; subst ea_; subst ec_; clear en_; have p218 : 0 ≤ (0 : Int) := (by omega); have q218 : 0 < (l0.length : Int) := of_decide_eq_true (by first | (with_reducible assumption) | assumption); obtain ⟨ad218, A218_0, c218_0, e218, hx218_0, hx218_1, hx218_2, hx218_3, hl218_0, hi218_0⟩ := at_T72 HR0.out 0 p218 q218; obtain rfl : ad210 = ad218 := (by injection e218); have qi218 : (0 < l0.length) = True := eq_true (by omega); (try rw [show ((0 : Int)).toNat = 0 from rfl] at hx218_0); (try rw [show 0 * 4 = 0 from rfl] at hx218_0); (try rw [Addr.add_zero'] at hx218_0); (try rw [show ((0 : Int)).toNat = 0 from rfl] at hx218_1); (try rw [show 0 * 4 = 0 from rfl] at hx218_1); (try rw [Addr.add_zero'] at hx218_1); (try rw [show ((0 : Int)).toNat = 0 from rfl] at hx218_2); (try rw [show 0 * 4 = 0 from rfl] at hx218_2); (try rw [Addr.add_zero'] at hx218_2); (try rw [show ((0 : Int)).toNat = 0 from rfl] at hx218_3); (try rw [show 0 * 4 = 0 from rfl] at hx218_3); (try rw [Addr.add_zero'] at hx218_3); have HR218_0 := Aside0.mk hi218_0; have HC218_0 := Aside0.mk hl218_0; clear hi218_0 hl218_0; replace p218 := eq_true p218; replace q218 := eq_true q218; have ea_ := Option.some.inj (hx210_0.symm.trans hx218_0); injection ea_ with ea_ en_ ec_; subst ea_; subst ec_; clear en_) | (go_at_call 203; (with_reducible refine (spec_l02End.calls ((rd_T72 l0 0).f2) false _ A7.out).mono ?_); rintro e w' ⟨rfl, ⟨nd, rfl⟩⟩))
      go_ret
      exact ⟨by first | rfl | (simp; done) | (simp [*]; done), by repeat (first | exact Drawn0.refl _ | apply Drawn0.step)⟩
    ·rw [if_neg c6] at H
     have c6b0 : (fle .f32 ((rd_T72 l0 0).f1) 1065353216) = false := by simpa using c6
     clear c6
     obtain rfl := Option.some.inj H
     have p210 : 0 ≤ (0 : Int) := (by omega)
     have q210 : 0 < (l0.length : Int) := of_decide_eq_true (by first | (with_reducible assumption) | assumption)
     obtain ⟨ad210, A210_0, c210_0, e210, hx210_0, hx210_1, hx210_2, hx210_3, hl210_0, hi210_0⟩ := at_T72 HR0.out 0 p210 q210
     cases e210
     have qi210 : (0 < l0.length) = True := eq_true (by omega)
     (try rw [show ((0 : Int)).toNat = 0 from rfl] at hx210_0)
     (try rw [show 0 * 4 = 0 from rfl] at hx210_0)
     (try rw [Addr.add_zero'] at hx210_0)
     (try rw [show ((0 : Int)).toNat = 0 from rfl] at hx210_1)
     (try rw [show 0 * 4 = 0 from rfl] at hx210_1)
     (try rw [Addr.add_zero'] at hx210_1)
     (try rw [show ((0 : Int)).toNat = 0 from rfl] at hx210_2)
     (try rw [show 0 * 4 = 0 from rfl] at hx210_2)
     (try rw [Addr.add_zero'] at hx210_2)
     (try rw [show ((0 : Int)).toNat = 0 from rfl] at hx210_3)
     (try rw [show 0 * 4 = 0 from rfl] at hx210_3)
     (try rw [Addr.add_zero'] at hx210_3)
     have HR210_0 := Aside0.mk hi210_0
     have HC210_0 := Aside0.mk hl210_0
     clear hi210_0 hl210_0
     replace p210 := eq_true p210
     replace q210 := eq_true q210
     have p211 : 0 ≤ (0 : Int) := (by omega)
     have q211 : 0 < (l0.length : Int) := of_decide_eq_true (by first | (with_reducible assumption) | assumption)
     obtain ⟨ad211, A211_0, c211_0, e211, hx211_0, hx211_1, hx211_2, hx211_3, hl211_0, hi211_0⟩ := at_T72 HR0.out 0 p211 q211
     obtain rfl : ad210 = ad211 := (by injection e211)
     have qi211 : (0 < l0.length) = True := eq_true (by omega)
     (try rw [show ((0 : Int)).toNat = 0 from rfl] at hx211_0)
     (try rw [show 0 * 4 = 0 from rfl] at hx211_0)
     (try rw [Addr.add_zero'] at hx211_0)
     (try rw [show ((0 : Int)).toNat = 0 from rfl] at hx211_1)
     (try rw [show 0 * 4 = 0 from rfl] at hx211_1)
     (try rw [Addr.add_zero'] at hx211_1)
     (try rw [show ((0 : Int)).toNat = 0 from rfl] at hx211_2)
     (try rw [show 0 * 4 = 0 from rfl] at hx211_2)
     (try rw [Addr.add_zero'] at hx211_2)
     (try rw [show ((0 : Int)).toNat = 0 from rfl] at hx211_3)
     (try rw [show 0 * 4 = 0 from rfl] at hx211_3)
     (try rw [Addr.add_zero'] at hx211_3)
     have HR211_0 := Aside0.mk hi211_0
     have HC211_0 := Aside0.mk hl211_0
     clear hi211_0 hl211_0
     replace p211 := eq_true p211
     replace q211 := eq_true q211
     have ea_ := Option.some.inj (hx210_0.symm.trans hx211_0)
     injection ea_ with ea_ en_ ec_
     subst ea_
     subst ec_
     clear en_
     go_enter Try.func180, Try.ntmps180
     go_wp2_with (first | ((with_reducible refine gate_callee (f := 198) rfl ?_); refine goesL_ (some 7) rfl rfl Try.func198 (by kernel_rfl) rfl #[.slice A210_0 ((rd_T72 l0 0).f0).length c210_0] rfl (by (try simp only [List.map_toArray, List.map_cons, List.map_nil]); first | done | rfl | (simp only [List.length_drop, List.length_take]; rfl)) ?_; (with_reducible refine (spec_l02Areas.calls k _ _ ((rd_T72 l0 0).f0) true _ ?side1 ?side2 A3.out).mono ?_); (case side1 => repeat (first | exact HR211_0.out | (with_reducible refine Kd.C_alloc ?_ _) | (with_reducible refine Kd.C_drewN ?_ _) | (with_reducible refine Kd.C_drew ?_))); (case side2 => exact HC211_0.out); rintro e w' ⟨rfl, ⟨nd, rfl⟩⟩; refine ⟨_, rfl, ?_⟩; have p213 : 0 ≤ (0 : Int) := (by omega); have q213 : 0 < (l0.length : Int) := of_decide_eq_true (by first | (with_reducible assumption) | assumption); obtain ⟨ad213, A213_0, c213_0, e213, hx213_0, hx213_1, hx213_2, hx213_3, hl213_0, hi213_0⟩ := at_T72 HR0.out 0 p213 q213; obtain rfl : ad210 = ad213 := (by injection e213); have qi213 : (0 < l0.length) = True := eq_true (by omega); (try rw [show ((0 : Int)).toNat = 0 from rfl] at hx213_0); (try rw [show 0 * 4 = 0 from rfl] at hx213_0); (try rw [Addr.add_zero'] at hx213_0); (try rw [show ((0 : Int)).toNat = 0 from rfl] at hx213_1); (try rw [show 0 * 4 = 0 from rfl] at hx213_1); (try rw [Addr.add_zero'] at hx213_1); (try rw [show ((0 : Int)).toNat = 0 from rfl] at hx213_2); (try rw [show 0 * 4 = 0 from rfl] at hx213_2); (try rw [Addr.add_zero'] at hx213_2); (try rw [show ((0 : Int)).toNat = 0 from rfl] at hx213_3); (try rw [show 0 * 4 = 0 from rfl] at hx213_3); (try rw [Addr.add_zero'] at hx213_3); have HR213_0 := Aside0.mk hi213_0; have HC213_0 := Aside0.mk hl213_0; clear hi213_0 hl213_0; replace p213 := eq_true p213; replace q213 := eq_true q213; have ea_ := Option.some.inj (hx210_0.symm.trans hx213_0); injection ea_ with ea_ en_ ec_; subst ea_; subst ec_; clear en_; have p214 : 0 ≤ (0 : Int) := (by omega); have q214 : 0 < (l0.length : Int) := of_decide_eq_true (by first | (with_reducible assumption) | assumption); obtain ⟨ad214, A214_0, c214_0, e214, hx214_0, hx214_1, hx214_2, hx214_3, hl214_0, hi214_0⟩ := at_T72 HR0.out 0 p214 q214; obtain rfl : ad210 = ad214 := (by injection e214); have qi214 : (0 < l0.length) = True := eq_true (by omega); (try rw [show ((0 : Int)).toNat = 0 from rfl] at hx214_0); (try rw [show 0 * 4 = 0 from rfl] at hx214_0); (try rw [Addr.add_zero'] at hx214_0); (try rw [show ((0 : Int)).toNat = 0 from rfl] at hx214_1); (try rw [show 0 * 4 = 0 from rfl] at hx214_1); (try rw [Addr.add_zero'] at hx214_1); (try rw [show ((0 : Int)).toNat = 0 from rfl] at hx214_2); (try rw [show 0 * 4 = 0 from rfl] at hx214_2); (try rw [Addr.add_zero'] at hx214_2); (try rw [show ((0 : Int)).toNat = 0 from rfl] at hx214_3); (try rw [show 0 * 4 = 0 from rfl] at hx214_3); (try rw [Addr.add_zero'] at hx214_3); have HR214_0 := Aside0.mk hi214_0; have HC214_0 := Aside0.mk hl214_0; clear hi214_0 hl214_0; replace p214 := eq_true p214; replace q214 := eq_true q214; have ea_ := Option.some.inj (hx210_0.symm.trans hx214_0); injection ea_ with ea_ en_ ec_; subst ea_; subst ec_; clear en_; have p215 : 0 ≤ (0 : Int) := (by omega); have q215 : 0 < (l0.length : Int) := of_decide_eq_true (by first | (with_reducible assumption) | assumption); obtain ⟨ad215, A215_0, c215_0, e215, hx215_0, hx215_1, hx215_2, hx215_3, hl215_0, hi215_0⟩ := at_T72 HR0.out 0 p215 q215; obtain rfl : ad210 = ad215 := (by injection e215); have qi215 : (0 < l0.length) = True := eq_true (by omega); (try rw [show ((0 : Int)).toNat = 0 from rfl] at hx215_0); (try rw [show 0 * 4 = 0 from rfl] at hx215_0); (try rw [Addr.add_zero'] at hx215_0); (try rw [show ((0 : Int)).toNat = 0 from rfl] at hx215_1); (try rw [show 0 * 4 = 0 from rfl] at hx215_1); (try rw [Addr.add_zero'] at hx215_1); (try rw [show ((0 : Int)).toNat = 0 from rfl] at hx215_2); (try rw [show 0 * 4 = 0 from rfl] at hx215_2); (try rw [Addr.add_zero'] at hx215_2); (try rw [show ((0 : Int)).toNat = 0 from rfl] at hx215_3); (try rw [show 0 * 4 = 0 from rfl] at hx215_3); (try rw [Addr.add_zero'] at hx215_3); have HR215_0 := Aside0.mk hi215_0; have HC215_0 := Aside0.mk hl215_0; clear hi215_0 hl215_0; replace p215 := eq_true p215; replace q215 := eq_true q215; have ea_ := Option.some.inj (hx210_0.symm.trans hx215_0); injection ea_ with ea_ en_ ec_; subst ea_; subst ec_; clear en_; have p216 : 0 ≤ (0 : Int) := (by omega); have q216 : 0 < (l0.length : Int) := of_decide_eq_true (by first | (with_reducible assumption) | assumption); obtain ⟨ad216, A216_0, c216_0, e216, hx216_0, hx216_1, hx216_2, hx216_3, hl216_0, hi216_0⟩ := at_T72 HR0.out 0 p216 q216; obtain rfl : ad210 = ad216 := (by injection e216); have qi216 : (0 < l0.length) = True := eq_true (by omega); (try rw [show ((0 : Int)).toNat = 0 from rfl] at hx216_0); (try rw [show 0 * 4 = 0 from rfl] at hx216_0); (try rw [Addr.add_zero'] at hx216_0); (try rw [show ((0 : Int)).toNat = 0 from rfl] at hx216_1); (try rw [show 0 * 4 = 0 from rfl] at hx216_1); (try rw [Addr.add_zero'] at hx216_1); (try rw [show ((0 : Int)).toNat = 0 from rfl] at hx216_2); (try rw [show 0 * 4 = 0 from rfl] at hx216_2); (try rw [Addr.add_zero'] at hx216_2); (try rw [show ((0 : Int)).toNat = 0 from rfl] at hx216_3); (try rw [show 0 * 4 = 0 from rfl] at hx216_3); (try rw [Addr.add_zero'] at hx216_3); have HR216_0 := Aside0.mk hi216_0; have HC216_0 := Aside0.mk hl216_0; clear hi216_0 hl216_0; replace p216 := eq_true p216; replace q216 := eq_true q216; have ea_ := Option.some.inj (hx210_0.symm.trans hx216_0); injection ea_ with ea_ en_ ec_; subst ea_; subst ec_; clear en_))
     go_ret
     exact ⟨by first | rfl | (simp; done) | (simp [*]; done), by repeat (first | exact Drawn0.refl _ | apply Drawn0.step)⟩
   ·rw [if_neg c5] at H
    have c5b0 : (fgr .f32 ((rd_T72 l0 0).f1) 0) = false := by simpa using c5
    clear c5
    obtain rfl := Option.some.inj H
    have p210 : 0 ≤ (0 : Int) := (by omega)
    have q210 : 0 < (l0.length : Int) := of_decide_eq_true (by first | (with_reducible assumption) | assumption)
    obtain ⟨ad210, A210_0, c210_0, e210, hx210_0, hx210_1, hx210_2, hx210_3, hl210_0, hi210_0⟩ := at_T72 HR0.out 0 p210 q210
    cases e210
    have qi210 : (0 < l0.length) = True := eq_true (by omega)
    (try rw [show ((0 : Int)).toNat = 0 from rfl] at hx210_0)
    (try rw [show 0 * 4 = 0 from rfl] at hx210_0)
    (try rw [Addr.add_zero'] at hx210_0)
    (try rw [show ((0 : Int)).toNat = 0 from rfl] at hx210_1)
    (try rw [show 0 * 4 = 0 from rfl] at hx210_1)
    (try rw [Addr.add_zero'] at hx210_1)
    (try rw [show ((0 : Int)).toNat = 0 from rfl] at hx210_2)
    (try rw [show 0 * 4 = 0 from rfl] at hx210_2)
    (try rw [Addr.add_zero'] at hx210_2)
    (try rw [show ((0 : Int)).toNat = 0 from rfl] at hx210_3)
    (try rw [show 0 * 4 = 0 from rfl] at hx210_3)
    (try rw [Addr.add_zero'] at hx210_3)
    have HR210_0 := Aside0.mk hi210_0
    have HC210_0 := Aside0.mk hl210_0
    clear hi210_0 hl210_0
    replace p210 := eq_true p210
    replace q210 := eq_true q210
    have p211 : 0 ≤ (0 : Int) := (by omega)
    have q211 : 0 < (l0.length : Int) := of_decide_eq_true (by first | (with_reducible assumption) | assumption)
    obtain ⟨ad211, A211_0, c211_0, e211, hx211_0, hx211_1, hx211_2, hx211_3, hl211_0, hi211_0⟩ := at_T72 HR0.out 0 p211 q211
    obtain rfl : ad210 = ad211 := (by injection e211)
    have qi211 : (0 < l0.length) = True := eq_true (by omega)
    (try rw [show ((0 : Int)).toNat = 0 from rfl] at hx211_0)
    (try rw [show 0 * 4 = 0 from rfl] at hx211_0)
    (try rw [Addr.add_zero'] at hx211_0)
    (try rw [show ((0 : Int)).toNat = 0 from rfl] at hx211_1)
    (try rw [show 0 * 4 = 0 from rfl] at hx211_1)
    (try rw [Addr.add_zero'] at hx211_1)
    (try rw [show ((0 : Int)).toNat = 0 from rfl] at hx211_2)
    (try rw [show 0 * 4 = 0 from rfl] at hx211_2)
    (try rw [Addr.add_zero'] at hx211_2)
    (try rw [show ((0 : Int)).toNat = 0 from rfl] at hx211_3)
    (try rw [show 0 * 4 = 0 from rfl] at hx211_3)
    (try rw [Addr.add_zero'] at hx211_3)
    have HR211_0 := Aside0.mk hi211_0
    have HC211_0 := Aside0.mk hl211_0
    clear hi211_0 hl211_0
    replace p211 := eq_true p211
    replace q211 := eq_true q211
    have ea_ := Option.some.inj (hx210_0.symm.trans hx211_0)
    injection ea_ with ea_ en_ ec_
    subst ea_
    subst ec_
    clear en_
    go_enter Try.func180, Try.ntmps180
    go_wp2_with (first | ((with_reducible refine gate_callee (f := 198) rfl ?_); refine goesL_ (some 7) rfl rfl Try.func198 (by kernel_rfl) rfl #[.slice A210_0 ((rd_T72 l0 0).f0).length c210_0] rfl (by (try simp only [List.map_toArray, List.map_cons, List.map_nil]); first | done | rfl | (simp only [List.length_drop, List.length_take]; rfl)) ?_; (with_reducible refine (spec_l02Areas.calls k _ _ ((rd_T72 l0 0).f0) true _ ?side1 ?side2 A3.out).mono ?_); (case side1 => repeat (first | exact HR211_0.out | (with_reducible refine Kd.C_alloc ?_ _) | (with_reducible refine Kd.C_drewN ?_ _) | (with_reducible refine Kd.C_drew ?_))); (case side2 => exact HC211_0.out); rintro e w' ⟨rfl, ⟨nd, rfl⟩⟩; refine ⟨_, rfl, ?_⟩; have p213 : 0 ≤ (0 : Int) := (by omega); have q213 : 0 < (l0.length : Int) := of_decide_eq_true (by first | (with_reducible assumption) | assumption); obtain ⟨ad213, A213_0, c213_0, e213, hx213_0, hx213_1, hx213_2, hx213_3, hl213_0, hi213_0⟩ := at_T72 HR0.out 0 p213 q213; obtain rfl : ad210 = ad213 := (by injection e213); have qi213 : (0 < l0.length) = True := eq_true (by omega); (try rw [show ((0 : Int)).toNat = 0 from rfl] at hx213_0); (try rw [show 0 * 4 = 0 from rfl] at hx213_0); (try rw [Addr.add_zero'] at hx213_0); (try rw [show ((0 : Int)).toNat = 0 from rfl] at hx213_1); (try rw [show 0 * 4 = 0 from rfl] at hx213_1); (try rw [Addr.add_zero'] at hx213_1); (try rw [show ((0 : Int)).toNat = 0 from rfl] at hx213_2); (try rw [show 0 * 4 = 0 from rfl] at hx213_2); (try rw [Addr.add_zero'] at hx213_2); (try rw [show ((0 : Int)).toNat = 0 from rfl] at hx213_3); (try rw [show 0 * 4 = 0 from rfl] at hx213_3); (try rw [Addr.add_zero'] at hx213_3); have HR213_0 := Aside0.mk hi213_0; have HC213_0 := Aside0.mk hl213_0; clear hi213_0 hl213_0; replace p213 := eq_true p213; replace q213 := eq_true q213; have ea_ := Option.some.inj (hx210_0.symm.trans hx213_0); injection ea_ with ea_ en_ ec_; subst ea_; subst ec_; clear en_; have p214 : 0 ≤ (0 : Int) := (by omega); have q214 : 0 < (l0.length : Int) := of_decide_eq_true (by first | (with_reducible assumption) | assumption); obtain ⟨ad214, A214_0, c214_0, e214, hx214_0, hx214_1, hx214_2, hx214_3, hl214_0, hi214_0⟩ := at_T72 HR0.out 0 p214 q214; obtain rfl : ad210 = ad214 := (by injection e214); have qi214 : (0 < l0.length) = True := eq_true (by omega); (try rw [show ((0 : Int)).toNat = 0 from rfl] at hx214_0); (try rw [show 0 * 4 = 0 from rfl] at hx214_0); (try rw [Addr.add_zero'] at hx214_0); (try rw [show ((0 : Int)).toNat = 0 from rfl] at hx214_1); (try rw [show 0 * 4 = 0 from rfl] at hx214_1); (try rw [Addr.add_zero'] at hx214_1); (try rw [show ((0 : Int)).toNat = 0 from rfl] at hx214_2); (try rw [show 0 * 4 = 0 from rfl] at hx214_2); (try rw [Addr.add_zero'] at hx214_2); (try rw [show ((0 : Int)).toNat = 0 from rfl] at hx214_3); (try rw [show 0 * 4 = 0 from rfl] at hx214_3); (try rw [Addr.add_zero'] at hx214_3); have HR214_0 := Aside0.mk hi214_0; have HC214_0 := Aside0.mk hl214_0; clear hi214_0 hl214_0; replace p214 := eq_true p214; replace q214 := eq_true q214; have ea_ := Option.some.inj (hx210_0.symm.trans hx214_0); injection ea_ with ea_ en_ ec_; subst ea_; subst ec_; clear en_))
    go_ret
    exact ⟨by first | rfl | (simp; done) | (simp [*]; done), by repeat (first | exact Drawn0.refl _ | apply Drawn0.step)⟩
  ·replace c4 := Bool.eq_false_iff.mpr c4
   subst c4
   have H1 : (some false) = some r := by rw [if_neg (show ¬ (false = true) by decide)] at H; exact H
   clear H
   have H := H1
   clear H1
   obtain rfl := Option.some.inj H
   have p210 : 0 ≤ (0 : Int) := (by omega)
   have q210 : 0 < (l0.length : Int) := of_decide_eq_true (by first | (with_reducible assumption) | assumption)
   obtain ⟨ad210, A210_0, c210_0, e210, hx210_0, hx210_1, hx210_2, hx210_3, hl210_0, hi210_0⟩ := at_T72 HR0.out 0 p210 q210
   cases e210
   have qi210 : (0 < l0.length) = True := eq_true (by omega)
   (try rw [show ((0 : Int)).toNat = 0 from rfl] at hx210_0)
   (try rw [show 0 * 4 = 0 from rfl] at hx210_0)
   (try rw [Addr.add_zero'] at hx210_0)
   (try rw [show ((0 : Int)).toNat = 0 from rfl] at hx210_1)
   (try rw [show 0 * 4 = 0 from rfl] at hx210_1)
   (try rw [Addr.add_zero'] at hx210_1)
   (try rw [show ((0 : Int)).toNat = 0 from rfl] at hx210_2)
   (try rw [show 0 * 4 = 0 from rfl] at hx210_2)
   (try rw [Addr.add_zero'] at hx210_2)
   (try rw [show ((0 : Int)).toNat = 0 from rfl] at hx210_3)
   (try rw [show 0 * 4 = 0 from rfl] at hx210_3)
   (try rw [Addr.add_zero'] at hx210_3)
   have HR210_0 := Aside0.mk hi210_0
   have HC210_0 := Aside0.mk hl210_0
   clear hi210_0 hl210_0
   replace p210 := eq_true p210
   replace q210 := eq_true q210
   have p211 : 0 ≤ (0 : Int) := (by omega)
   have q211 : 0 < (l0.length : Int) := of_decide_eq_true (by first | (with_reducible assumption) | assumption)
   obtain ⟨ad211, A211_0, c211_0, e211, hx211_0, hx211_1, hx211_2, hx211_3, hl211_0, hi211_0⟩ := at_T72 HR0.out 0 p211 q211
   obtain rfl : ad210 = ad211 := (by injection e211)
   have qi211 : (0 < l0.length) = True := eq_true (by omega)
   (try rw [show ((0 : Int)).toNat = 0 from rfl] at hx211_0)
   (try rw [show 0 * 4 = 0 from rfl] at hx211_0)
   (try rw [Addr.add_zero'] at hx211_0)
   (try rw [show ((0 : Int)).toNat = 0 from rfl] at hx211_1)
   (try rw [show 0 * 4 = 0 from rfl] at hx211_1)
   (try rw [Addr.add_zero'] at hx211_1)
   (try rw [show ((0 : Int)).toNat = 0 from rfl] at hx211_2)
   (try rw [show 0 * 4 = 0 from rfl] at hx211_2)
   (try rw [Addr.add_zero'] at hx211_2)
   (try rw [show ((0 : Int)).toNat = 0 from rfl] at hx211_3)
   (try rw [show 0 * 4 = 0 from rfl] at hx211_3)
   (try rw [Addr.add_zero'] at hx211_3)
   have HR211_0 := Aside0.mk hi211_0
   have HC211_0 := Aside0.mk hl211_0
   clear hi211_0 hl211_0
   replace p211 := eq_true p211
   replace q211 := eq_true q211
   have ea_ := Option.some.inj (hx210_0.symm.trans hx211_0)
   injection ea_ with ea_ en_ ec_
   subst ea_
   subst ec_
   clear en_
   go_enter Try.func180, Try.ntmps180
   go_wp2_with (first | ((with_reducible refine gate_callee (f := 198) rfl ?_); refine goesL_ (some 7) rfl rfl Try.func198 (by kernel_rfl) rfl #[.slice A210_0 ((rd_T72 l0 0).f0).length c210_0] rfl (by (try simp only [List.map_toArray, List.map_cons, List.map_nil]); first | done | rfl | (simp only [List.length_drop, List.length_take]; rfl)) ?_; (with_reducible refine (spec_l02Areas.calls k _ _ ((rd_T72 l0 0).f0) false _ ?side1 ?side2 A3.out).mono ?_); (case side1 => repeat (first | exact HR211_0.out | (with_reducible refine Kd.C_alloc ?_ _) | (with_reducible refine Kd.C_drewN ?_ _) | (with_reducible refine Kd.C_drew ?_))); (case side2 => exact HC211_0.out); rintro e w' ⟨rfl, ⟨nd, rfl⟩⟩; refine ⟨_, rfl, ?_⟩))
   go_ret
   exact ⟨by first | rfl | (simp; done) | (simp [*]; done), by repeat (first | exact Drawn0.refl _ | apply Drawn0.step)⟩
 ·rw [if_neg c2] at H
  exact absurd H (by simp)
def spec_l03Throat.g (a b c d e : Nat) : Option Bool := if (fge .f32 a 1073741824) = true then (if (fle .f32 a 1148846080) = true then ((spec_l02Above.f b).bind fun t109 => (if t109 = true then ((spec_l02Above.f c).bind fun t112 => (if t112 = true then (if (foprOk .add .f32 b c) = true then (if (fle .f32 (fopr .add .f32 b c) 1065353216) = true then ((spec_l02Least.f d).bind fun t119 => (if t119 = true then (if (fge .f32 e 0) = true then (some (fle .f32 e 1056964608)) else (some false)) else (some false))) else (some false)) else (none)) else (some false))) else (some false))) else (some false)) else (some false)
def spec_l03Throat.f (l0 : List (S74)) : Option (Bool) := if 0 < (l0.length : Int) then spec_l03Throat.g (rd_T74 l0 0).f0 (rd_T74 l0 0).f1 (rd_T74 l0 0).f2 (rd_T74 l0 0).f3 (rd_T74 l0 0).f4 else none
set_option maxHeartbeats 8000000 in
set_option maxRecDepth 100000 in
theorem spec_l03Throat.cells (ad : Addr) (a b c d e : Nat) (r : Bool) (w : World) (h0 : w.cell? ad = some (.float .f32 a)) (h1 : w.cell? ⟨ad.block, ad.off + 1, none⟩ = some (.float .f32 b)) (h2 : w.cell? ⟨ad.block, ad.off + 2, none⟩ = some (.float .f32 c)) (h3 : w.cell? ⟨ad.block, ad.off + 3, none⟩ = some (.float .f32 d)) (h4 : w.cell? ⟨ad.block, ad.off + 4, none⟩ = some (.float .f32 e)) (h : spec_l03Throat.g a b c d e = some r) :
    Calls Try.prog 181 #[.pointer (some ad)] w fun e w' => e = .returned (.bool r) ∧ Drawn0 w w' := by
  unfold spec_l03Throat.g at h
  by_cases c1 : fge .f32 a 1073741824 = true
  · rw [if_pos c1] at h
    by_cases c2 : fle .f32 a 1148846080 = true
    · rw [if_pos c2] at h
      obtain ⟨t1, A10, h⟩ := Option.bind_eq_some_iff.mp h
      have A1 := Aside0.mk A10
      clear A10
      cases t1 with
      | true =>
        rw [if_pos rfl] at h
        obtain ⟨t2, A20, h⟩ := Option.bind_eq_some_iff.mp h
        have A2 := Aside0.mk A20
        clear A20
        cases t2 with
        | true =>
          rw [if_pos rfl] at h
          by_cases c3 : foprOk .add .f32 b c = true
          · rw [if_pos c3] at h
            by_cases c4 : fle .f32 (fopr .add .f32 b c) 1065353216 = true
            · rw [if_pos c4] at h
              obtain ⟨t3, A30, h⟩ := Option.bind_eq_some_iff.mp h
              have A3 := Aside0.mk A30
              clear A30
              cases t3 with
              | true =>
                rw [if_pos rfl] at h
                by_cases c5 : fge .f32 e 0 = true
                · rw [if_pos c5] at h
                  obtain rfl := Option.some.inj h
                  clear h
                  go_enter Try.func181, Try.ntmps181
                  go_wp2_with fail
                  go_quiet (first | (go_at_call 146; (with_reducible refine Calls.quiet_of ((spec_l02Above.calls _ _ _ A1.out).mono fun _ _ ⟨he_, ⟨n_, hn_⟩⟩ => ⟨he_, n_, hn_⟩))) | (go_at_call 146; (with_reducible refine Calls.quiet_of ((spec_l02Above.calls _ _ _ A2.out).mono fun _ _ ⟨he_, ⟨n_, hn_⟩⟩ => ⟨he_, n_, hn_⟩))) | (go_at_call 199; (with_reducible refine Calls.quiet_of ((spec_l02Least.calls _ _ _ A3.out).mono fun _ _ ⟨he_, ⟨n_, hn_⟩⟩ => ⟨he_, n_, hn_⟩))))
                  go_wp2
                  go_ret
                  exact ⟨rfl, ⟨_, rfl⟩⟩
                · rw [if_neg c5] at h
                  replace c5 := Bool.eq_false_iff.mpr c5
                  obtain rfl := Option.some.inj h
                  clear h
                  go_enter Try.func181, Try.ntmps181
                  go_wp2_with fail
                  go_quiet (first | (go_at_call 146; (with_reducible refine Calls.quiet_of ((spec_l02Above.calls _ _ _ A1.out).mono fun _ _ ⟨he_, ⟨n_, hn_⟩⟩ => ⟨he_, n_, hn_⟩))) | (go_at_call 146; (with_reducible refine Calls.quiet_of ((spec_l02Above.calls _ _ _ A2.out).mono fun _ _ ⟨he_, ⟨n_, hn_⟩⟩ => ⟨he_, n_, hn_⟩))) | (go_at_call 199; (with_reducible refine Calls.quiet_of ((spec_l02Least.calls _ _ _ A3.out).mono fun _ _ ⟨he_, ⟨n_, hn_⟩⟩ => ⟨he_, n_, hn_⟩))))
                  go_wp2
                  go_ret
                  exact ⟨rfl, ⟨_, rfl⟩⟩
              | false =>
                rw [if_neg Bool.false_ne_true] at h
                obtain rfl := Option.some.inj h
                clear h
                go_enter Try.func181, Try.ntmps181
                go_wp2_with fail
                go_quiet (first | (go_at_call 146; (with_reducible refine Calls.quiet_of ((spec_l02Above.calls _ _ _ A1.out).mono fun _ _ ⟨he_, ⟨n_, hn_⟩⟩ => ⟨he_, n_, hn_⟩))) | (go_at_call 146; (with_reducible refine Calls.quiet_of ((spec_l02Above.calls _ _ _ A2.out).mono fun _ _ ⟨he_, ⟨n_, hn_⟩⟩ => ⟨he_, n_, hn_⟩))) | (go_at_call 199; (with_reducible refine Calls.quiet_of ((spec_l02Least.calls _ _ _ A3.out).mono fun _ _ ⟨he_, ⟨n_, hn_⟩⟩ => ⟨he_, n_, hn_⟩))))
                go_wp2
                go_ret
                exact ⟨rfl, ⟨_, rfl⟩⟩
            · rw [if_neg c4] at h
              replace c4 := Bool.eq_false_iff.mpr c4
              obtain rfl := Option.some.inj h
              clear h
              go_enter Try.func181, Try.ntmps181
              go_wp2_with fail
              go_quiet (first | (go_at_call 146; (with_reducible refine Calls.quiet_of ((spec_l02Above.calls _ _ _ A1.out).mono fun _ _ ⟨he_, ⟨n_, hn_⟩⟩ => ⟨he_, n_, hn_⟩))) | (go_at_call 146; (with_reducible refine Calls.quiet_of ((spec_l02Above.calls _ _ _ A2.out).mono fun _ _ ⟨he_, ⟨n_, hn_⟩⟩ => ⟨he_, n_, hn_⟩))))
              go_wp2
              go_ret
              exact ⟨rfl, ⟨_, rfl⟩⟩
          · rw [if_neg c3] at h; cases h
        | false =>
          rw [if_neg Bool.false_ne_true] at h
          obtain rfl := Option.some.inj h
          clear h
          go_enter Try.func181, Try.ntmps181
          go_wp2_with fail
          go_quiet (first | (go_at_call 146; (with_reducible refine Calls.quiet_of ((spec_l02Above.calls _ _ _ A1.out).mono fun _ _ ⟨he_, ⟨n_, hn_⟩⟩ => ⟨he_, n_, hn_⟩))) | (go_at_call 146; (with_reducible refine Calls.quiet_of ((spec_l02Above.calls _ _ _ A2.out).mono fun _ _ ⟨he_, ⟨n_, hn_⟩⟩ => ⟨he_, n_, hn_⟩))))
          go_wp2
          go_ret
          exact ⟨rfl, ⟨_, rfl⟩⟩
      | false =>
        rw [if_neg Bool.false_ne_true] at h
        obtain rfl := Option.some.inj h
        clear h
        go_enter Try.func181, Try.ntmps181
        go_wp2_with fail
        go_quiet (first | (go_at_call 146; (with_reducible refine Calls.quiet_of ((spec_l02Above.calls _ _ _ A1.out).mono fun _ _ ⟨he_, ⟨n_, hn_⟩⟩ => ⟨he_, n_, hn_⟩))))
        go_wp2
        go_ret
        exact ⟨rfl, ⟨_, rfl⟩⟩
    · rw [if_neg c2] at h
      replace c2 := Bool.eq_false_iff.mpr c2
      obtain rfl := Option.some.inj h
      clear h
      go_enter Try.func181, Try.ntmps181
      go_wp2_with fail
      go_quiet (fail)
      go_wp2
      go_ret
      exact ⟨rfl, ⟨_, rfl⟩⟩
  · rw [if_neg c1] at h
    replace c1 := Bool.eq_false_iff.mpr c1
    obtain rfl := Option.some.inj h
    clear h
    go_enter Try.func181, Try.ntmps181
    go_wp2_with fail
    go_quiet (fail)
    go_wp2
    go_ret
    exact ⟨rfl, ⟨_, rfl⟩⟩
theorem spec_l03Throat.calls (A0 : Option Addr) (l0 : List (S74)) (r : Bool) (w : World) (hr0 : Kd.C k74 w A0 l0.length l0) (h : spec_l03Throat.f l0 = some r) :
    Calls Try.prog 181 #[.pointer A0] w fun e w' => e = .returned (.bool r) ∧ Drawn0 w w' := by
  unfold spec_l03Throat.f at h
  split at h
  · rename_i hl
    obtain ⟨ad, rfl, h0, h1, h2, h3, h4⟩ := at_T74 hr0 0 (by omega) hl
    rw [show ((0 : Int)).toNat * 5 = 0 from rfl, Addr.add_zero'] at h0 h1 h2 h3 h4
    exact spec_l03Throat.cells ad _ _ _ _ _ r w h0 h1 h2 h3 h4 h
  · cases h
def spec_l02Finite.l0 : Nat → List Nat → Int → Option (Bool)
  | 0, _, _ => none
  | k + 1, x0, x3 => if x3 < (x0.length : Int) then (if 0 ≤ x3 then ((spec_l01Finite.f (rdOf (0 : Nat) x0 x3)).bind fun t224 => (if t224 = true then (spec_l02Finite.l0 k x0 (wrap64 (x3 + 1))) else (some false))) else (none)) else (some true)
def spec_l02Finite.f (k : Nat) (l0 : List Nat) : Option (Bool) := spec_l02Finite.l0 k l0 0
theorem spec_l02Finite.mono_l : ∀ k, (∀ y0 y1, LeO (spec_l02Finite.l0 k y0 y1) (spec_l02Finite.l0 (k + 1) y0 y1))
  | 0 => fun _ _ r h => by simp [spec_l02Finite.l0] at h
  | k + 1 => by
    have ih0 := spec_l02Finite.mono_l k
    · intro y0 y1
      unfold spec_l02Finite.l0
      repeat' first
      | (with_reducible exact ih0 _ _)
      | (with_reducible exact LeO.refl _)
      | (with_reducible exact LeO.none _)
      | (with_reducible refine LeO.ite ?_ ?_)
      | (with_reducible refine LeO.bind ?_ (fun _ => ?_))
      | exact ih0 _ _
      | exact LeO.none _
      | refine LeO.ite ?_ ?_
      | refine LeO.bind ?_ (fun _ => ?_)
theorem spec_l02Finite.mono : ∀ a0 k, LeO (spec_l02Finite.f k a0) (spec_l02Finite.f (k + 1) a0) := by
  intro a0 k
  have ih0 := spec_l02Finite.mono_l k
  unfold spec_l02Finite.f
  repeat' first
      | (with_reducible exact ih0 _ _)
      | (with_reducible exact LeO.refl _)
      | (with_reducible exact LeO.none _)
      | (with_reducible refine LeO.ite ?_ ?_)
      | (with_reducible refine LeO.bind ?_ (fun _ => ?_))
      | exact ih0 _ _
      | exact LeO.none _
      | refine LeO.ite ?_ ?_
      | refine LeO.bind ?_ (fun _ => ?_)
set_option maxHeartbeats 8000000 in
set_option maxRecDepth 100000 in
theorem spec_l02Finite.calls (k : Nat) (A0 : Option Addr) (c0 : Nat) (l0 : List Nat) (r : Bool) (w : World) (hr0 : Kd.C (Kd.float .f32) w A0 l0.length l0) (hc0 : l0.length ≤ c0) (h : spec_l02Finite.f k l0 = some r) :
    Calls Try.prog 204 #[.slice A0 l0.length c0] w fun e w' => e = .returned (.bool r) ∧ Drawn0 w w' := by
  have hu36 := Try.underlying36
  have HR0 := Aside0.mk hr0
  have HC0 := Aside0.mk hc0
  clear hr0 hc0
  have H : (spec_l02Finite.l0 k l0 0) = some r := h
  clear h
  have H' := Aside0.mk H
  clear H
  go_enter Try.func204, Try.ntmps204
  go_wp2
  go_loopg [3] k (fun kq v3 w' => ∃ (x3_1 : Int), v3 = .int .i64 x3_1 ∧ Aside0 (spec_l02Finite.l0 kq l0 x3_1 = some r) ∧ Aside0 (kq ≤ k) ∧ Drawn0 w w')
  case atStart => exact ⟨(0), (by first | rfl | (simp; done) | (simp [*]; done)), H', ⟨Nat.le_refl _⟩, by repeat (first | exact Drawn0.refl _ | apply Drawn0.step)⟩
  case round =>
    clear H'
    obtain ⟨x3_1, rfl, HA, HK1, ⟨m1, rfl⟩⟩ := hrel
    cases gk with
    | zero => exact absurd HA.out (by simp [spec_l02Finite.l0])
    | succ k1 =>
      have H := HA.out
      clear HA
      simp only [spec_l02Finite.l0] at H
      by_cases c2 : x3_1 < (l0.length : Int)
      · rw [if_pos c2] at H
        have c2b0 : decide (x3_1 < (l0.length : Int)) = true := decide_eq_true c2
        clear c2
        by_cases c3 : 0 ≤ x3_1
        · rw [if_pos c3] at H
          have c3b0 : decide (0 ≤ x3_1) = true := decide_eq_true c3
          clear c3
          replace H := Option.bind_eq_some_iff.mp H
          obtain ⟨t224, A40, H⟩ := H
          replace H : (if t224 = true then (spec_l02Finite.l0 k1 l0 (wrap64 (x3_1 + 1))) else (some false)) = some r := H
          have A4 := Aside0.mk A40
          clear A40
          by_cases c5 : t224 = true
          · subst c5
            have H1 : (spec_l02Finite.l0 k1 l0 (wrap64 (x3_1 + 1))) = some r := by rw [if_pos rfl] at H; exact H
            clear H
            have H := H1
            clear H1
            have H' := Aside0.mk H
            clear H
            have p223 : 0 ≤ (x3_1 : Int) := of_decide_eq_true (by first | (with_reducible assumption) | assumption)
            have q223 : x3_1 < (l0.length : Int) := of_decide_eq_true (by first | (with_reducible assumption) | assumption)
            obtain ⟨ad223, e223, hx223_0⟩ := Kd.at_float HR0.out x3_1 p223 q223
            cases e223
            replace p223 := eq_true p223
            replace q223 := eq_true q223
            go_wp2_with (first | ((with_reducible refine gate_callee (f := 77) rfl ?_); refine goesL_ (some 14) rfl rfl Try.func77 (by kernel_rfl) rfl #[.float .f32 (rdOf (0 : Nat) l0 x3_1)] rfl (by (try simp only [List.map_toArray, List.map_cons, List.map_nil]); first | done | rfl | (simp only [List.length_drop, List.length_take]; rfl)) ?_; (with_reducible refine (spec_l01Finite.calls (rdOf (0 : Nat) l0 x3_1) true _ A4.out).mono ?_); rintro e w' ⟨rfl, ⟨nd, rfl⟩⟩; refine ⟨_, rfl, ?_⟩))
            go_roundg k1
            case measure => have := HK1.out; omega
            case rel => exact ⟨(wrap64 (x3_1 + 1)), (by first | rfl | (simp; done) | (simp [*]; done)), H', ⟨by have := HK1.out; omega⟩, by repeat (first | exact Drawn0.refl _ | apply Drawn0.step)⟩
          · replace c5 := Bool.eq_false_iff.mpr c5
            subst c5
            have H1 : (some false) = some r := by rw [if_neg (show ¬ (false = true) by decide)] at H; exact H
            clear H
            have H := H1
            clear H1
            obtain rfl := Option.some.inj H
            have p223 : 0 ≤ (x3_1 : Int) := of_decide_eq_true (by first | (with_reducible assumption) | assumption)
            have q223 : x3_1 < (l0.length : Int) := of_decide_eq_true (by first | (with_reducible assumption) | assumption)
            obtain ⟨ad223, e223, hx223_0⟩ := Kd.at_float HR0.out x3_1 p223 q223
            cases e223
            replace p223 := eq_true p223
            replace q223 := eq_true q223
            go_wp2_with (first | ((with_reducible refine gate_callee (f := 77) rfl ?_); refine goesL_ (some 14) rfl rfl Try.func77 (by kernel_rfl) rfl #[.float .f32 (rdOf (0 : Nat) l0 x3_1)] rfl (by (try simp only [List.map_toArray, List.map_cons, List.map_nil]); first | done | rfl | (simp only [List.length_drop, List.length_take]; rfl)) ?_; (with_reducible refine (spec_l01Finite.calls (rdOf (0 : Nat) l0 x3_1) false _ A4.out).mono ?_); rintro e w' ⟨rfl, ⟨nd, rfl⟩⟩; refine ⟨_, rfl, ?_⟩))
            go_ret
            exact ⟨by first | rfl | (simp; done) | (simp [*]; done), by repeat (first | exact Drawn0.refl _ | apply Drawn0.step)⟩
        · rw [if_neg c3] at H
          exact absurd H (by simp)
      · rw [if_neg c2] at H
        have c2b0 : decide (x3_1 < (l0.length : Int)) = false := decide_eq_false c2
        clear c2
        obtain rfl := Option.some.inj H
        go_wp2
        go_ret
        exact ⟨by first | rfl | (simp; done) | (simp [*]; done), by repeat (first | exact Drawn0.refl _ | apply Drawn0.step)⟩
def spec_l04Is.f (k : Nat) (l0 : List (S76)) : Option (Bool) := if 0 < (l0.length : Int) then (if (((rd_T76 l0 0).f0).length : Int) ≥ 1 then (if (((rd_T76 l0 0).f0).length : Int) ≤ 16 then ((spec_l02Finite.f k ((rd_T76 l0 0).f0)).bind fun t231 => (if t231 = true then ((spec_l02Least.f ((rd_T76 l0 0).f1)).bind fun t234 => (some t234)) else (some false))) else (some false)) else (some false)) else (none)
theorem spec_l04Is.mono : ∀ a0 k, LeO (spec_l04Is.f k a0) (spec_l04Is.f (k + 1) a0) := by
 intro a0 k
 unfold spec_l04Is.f
 repeat' first
   | (with_reducible exact spec_l02Finite.mono _ _)
   | (with_reducible exact LeO.refl _)
   | (with_reducible exact LeO.none _)
   | (with_reducible refine LeO.ite ?_ ?_)
   | (with_reducible refine LeO.bind ?_ (fun _ => ?_))
   | exact spec_l02Finite.mono _ _
   | exact LeO.none _
   | refine LeO.ite ?_ ?_
   | refine LeO.bind ?_ (fun _ => ?_)
set_option maxHeartbeats 8000000 in
set_option maxRecDepth 100000 in
theorem spec_l04Is.calls (k : Nat) (A0 : Option Addr) (l0 : List (S76)) (r : Bool) (w : World) (hr0 : Kd.C k76 w A0 l0.length l0) (h : spec_l04Is.f k l0 = some r) :
  Calls Try.prog 182 #[.pointer A0] w fun e w' => e = .returned (.bool r) ∧ Drawn0 w w' := by
 have hu26 := Try.underlying26
 have hu36 := Try.underlying36
 have HR0 := Aside0.mk hr0
 clear hr0
 have H : (if 0 < (l0.length : Int) then (if (((rd_T76 l0 0).f0).length : Int) ≥ 1 then (if (((rd_T76 l0 0).f0).length : Int) ≤ 16 then ((spec_l02Finite.f k ((rd_T76 l0 0).f0)).bind fun t231 => (if t231 = true then ((spec_l02Least.f ((rd_T76 l0 0).f1)).bind fun t234 => (some t234)) else (some false))) else (some false)) else (some false)) else (none)) = some r := h
 clear h
 by_cases c2 : 0 < (l0.length : Int)
 ·rw [if_pos c2] at H
  have c2b0 : decide (0 < (l0.length : Int)) = true := decide_eq_true c2
  have c2b1 : decide (0 < l0.length) = true := decide_eq_true (by omega)
  clear c2
  by_cases c3 : (((rd_T76 l0 0).f0).length : Int) ≥ 1
  ·rw [if_pos c3] at H
   have c3b0 : decide (1 ≤ (((rd_T76 l0 0).f0).length : Int)) = true := decide_eq_true c3
   have c3b1 : decide (1 ≤ ((rd_T76 l0 0).f0).length) = true := decide_eq_true (by omega)
   clear c3
   by_cases c4 : (((rd_T76 l0 0).f0).length : Int) ≤ 16
   ·rw [if_pos c4] at H
    have c4b0 : decide ((((rd_T76 l0 0).f0).length : Int) ≤ 16) = true := decide_eq_true c4
    have c4b1 : decide (((rd_T76 l0 0).f0).length ≤ 16) = true := decide_eq_true (by omega)
    clear c4
    replace H := Option.bind_eq_some_iff.mp H
    obtain ⟨t231, A50, H⟩ := H
    replace H : (if t231 = true then ((spec_l02Least.f ((rd_T76 l0 0).f1)).bind fun t234 => (some t234)) else (some false)) = some r := H
    have A5 := Aside0.mk A50
    clear A50
    by_cases c6 : t231 = true
    ·subst c6
     have H1 : ((spec_l02Least.f ((rd_T76 l0 0).f1)).bind fun t234 => (some t234)) = some r := by rw [if_pos rfl] at H; exact H
     clear H
     have H := H1
     clear H1
     replace H := Option.bind_eq_some_iff.mp H
     obtain ⟨t234, A70, H⟩ := H
     replace H : (some t234) = some r := H
     have A7 := Aside0.mk A70
     clear A70
     obtain rfl := Option.some.inj H
     have p225 : 0 ≤ (0 : Int) := (by omega)
     have q225 : 0 < (l0.length : Int) := of_decide_eq_true (by first | (with_reducible assumption) | assumption)
     obtain ⟨ad225, A225_0, c225_0, e225, hx225_0, hx225_1, hl225_0, hi225_0⟩ := at_T76 HR0.out 0 p225 q225
     cases e225
     have qi225 : (0 < l0.length) = True := eq_true (by omega)
     (try rw [show ((0 : Int)).toNat = 0 from rfl] at hx225_0)
     (try rw [show 0 * 2 = 0 from rfl] at hx225_0)
     (try rw [Addr.add_zero'] at hx225_0)
     (try rw [show ((0 : Int)).toNat = 0 from rfl] at hx225_1)
     (try rw [show 0 * 2 = 0 from rfl] at hx225_1)
     (try rw [Addr.add_zero'] at hx225_1)
     have HR225_0 := Aside0.mk hi225_0
     have HC225_0 := Aside0.mk hl225_0
     clear hi225_0 hl225_0
     replace p225 := eq_true p225
     replace q225 := eq_true q225
     have p226 : 0 ≤ (0 : Int) := (by omega)
     have q226 : 0 < (l0.length : Int) := of_decide_eq_true (by first | (with_reducible assumption) | assumption)
     obtain ⟨ad226, A226_0, c226_0, e226, hx226_0, hx226_1, hl226_0, hi226_0⟩ := at_T76 HR0.out 0 p226 q226
     obtain rfl : ad225 = ad226 := (by injection e226)
     have qi226 : (0 < l0.length) = True := eq_true (by omega)
     (try rw [show ((0 : Int)).toNat = 0 from rfl] at hx226_0)
     (try rw [show 0 * 2 = 0 from rfl] at hx226_0)
     (try rw [Addr.add_zero'] at hx226_0)
     (try rw [show ((0 : Int)).toNat = 0 from rfl] at hx226_1)
     (try rw [show 0 * 2 = 0 from rfl] at hx226_1)
     (try rw [Addr.add_zero'] at hx226_1)
     have HR226_0 := Aside0.mk hi226_0
     have HC226_0 := Aside0.mk hl226_0
     clear hi226_0 hl226_0
     replace p226 := eq_true p226
     replace q226 := eq_true q226
     have ea_ := Option.some.inj (hx225_0.symm.trans hx226_0)
     injection ea_ with ea_ en_ ec_
     subst ea_
     subst ec_
     clear en_
     have p227 : 0 ≤ (0 : Int) := (by omega)
     have q227 : 0 < (l0.length : Int) := of_decide_eq_true (by first | (with_reducible assumption) | assumption)
     obtain ⟨ad227, A227_0, c227_0, e227, hx227_0, hx227_1, hl227_0, hi227_0⟩ := at_T76 HR0.out 0 p227 q227
     obtain rfl : ad225 = ad227 := (by injection e227)
     have qi227 : (0 < l0.length) = True := eq_true (by omega)
     (try rw [show ((0 : Int)).toNat = 0 from rfl] at hx227_0)
     (try rw [show 0 * 2 = 0 from rfl] at hx227_0)
     (try rw [Addr.add_zero'] at hx227_0)
     (try rw [show ((0 : Int)).toNat = 0 from rfl] at hx227_1)
     (try rw [show 0 * 2 = 0 from rfl] at hx227_1)
     (try rw [Addr.add_zero'] at hx227_1)
     have HR227_0 := Aside0.mk hi227_0
     have HC227_0 := Aside0.mk hl227_0
     clear hi227_0 hl227_0
     replace p227 := eq_true p227
     replace q227 := eq_true q227
     have ea_ := Option.some.inj (hx225_0.symm.trans hx227_0)
     injection ea_ with ea_ en_ ec_
     subst ea_
     subst ec_
     clear en_
     have p228 : 0 ≤ (0 : Int) := (by omega)
     have q228 : 0 < (l0.length : Int) := of_decide_eq_true (by first | (with_reducible assumption) | assumption)
     obtain ⟨ad228, A228_0, c228_0, e228, hx228_0, hx228_1, hl228_0, hi228_0⟩ := at_T76 HR0.out 0 p228 q228
     obtain rfl : ad225 = ad228 := (by injection e228)
     have qi228 : (0 < l0.length) = True := eq_true (by omega)
     (try rw [show ((0 : Int)).toNat = 0 from rfl] at hx228_0)
     (try rw [show 0 * 2 = 0 from rfl] at hx228_0)
     (try rw [Addr.add_zero'] at hx228_0)
     (try rw [show ((0 : Int)).toNat = 0 from rfl] at hx228_1)
     (try rw [show 0 * 2 = 0 from rfl] at hx228_1)
     (try rw [Addr.add_zero'] at hx228_1)
     have HR228_0 := Aside0.mk hi228_0
     have HC228_0 := Aside0.mk hl228_0
     clear hi228_0 hl228_0
     replace p228 := eq_true p228
     replace q228 := eq_true q228
     have ea_ := Option.some.inj (hx225_0.symm.trans hx228_0)
     injection ea_ with ea_ en_ ec_
     subst ea_
     subst ec_
     clear en_
     have p229 : 0 ≤ (0 : Int) := (by omega)
     have q229 : 0 < (l0.length : Int) := of_decide_eq_true (by first | (with_reducible assumption) | assumption)
     obtain ⟨ad229, A229_0, c229_0, e229, hx229_0, hx229_1, hl229_0, hi229_0⟩ := at_T76 HR0.out 0 p229 q229
     obtain rfl : ad225 = ad229 := (by injection e229)
     have qi229 : (0 < l0.length) = True := eq_true (by omega)
     (try rw [show ((0 : Int)).toNat = 0 from rfl] at hx229_0)
     (try rw [show 0 * 2 = 0 from rfl] at hx229_0)
     (try rw [Addr.add_zero'] at hx229_0)
     (try rw [show ((0 : Int)).toNat = 0 from rfl] at hx229_1)
     (try rw [show 0 * 2 = 0 from rfl] at hx229_1)
     (try rw [Addr.add_zero'] at hx229_1)
     have HR229_0 := Aside0.mk hi229_0
     have HC229_0 := Aside0.mk hl229_0
     clear hi229_0 hl229_0
     replace p229 := eq_true p229
     replace q229 := eq_true q229
     have ea_ := Option.some.inj (hx225_0.symm.trans hx229_0)
     injection ea_ with ea_ en_ ec_
     subst ea_
     subst ec_
     clear en_
     have p230 : 0 ≤ (0 : Int) := (by omega)
     have q230 : 0 < (l0.length : Int) := of_decide_eq_true (by first | (with_reducible assumption) | assumption)
     obtain ⟨ad230, A230_0, c230_0, e230, hx230_0, hx230_1, hl230_0, hi230_0⟩ := at_T76 HR0.out 0 p230 q230
     obtain rfl : ad225 = ad230 := (by injection e230)
     have qi230 : (0 < l0.length) = True := eq_true (by omega)
     (try rw [show ((0 : Int)).toNat = 0 from rfl] at hx230_0)
     (try rw [show 0 * 2 = 0 from rfl] at hx230_0)
     (try rw [Addr.add_zero'] at hx230_0)
     (try rw [show ((0 : Int)).toNat = 0 from rfl] at hx230_1)
     (try rw [show 0 * 2 = 0 from rfl] at hx230_1)
     (try rw [Addr.add_zero'] at hx230_1)
     have HR230_0 := Aside0.mk hi230_0
     have HC230_0 := Aside0.mk hl230_0
     clear hi230_0 hl230_0
     replace p230 := eq_true p230
     replace q230 := eq_true q230
     have ea_ := Option.some.inj (hx225_0.symm.trans hx230_0)
     injection ea_ with ea_ en_ ec_
     subst ea_
     subst ec_
     clear en_
     go_enter Try.func182, Try.ntmps182
     go_wp2_with (first | (go_at_call 204; (with_reducible refine (spec_l02Finite.calls k _ _ ((rd_T76 l0 0).f0) true _ ?side1 ?side2 A5.out).mono ?_); (case side1 => repeat (first | exact HR230_0.out | (with_reducible refine Kd.C_alloc ?_ _) | (with_reducible refine Kd.C_drewN ?_ _) | (with_reducible refine Kd.C_drew ?_))); (case side2 => exact HC230_0.out); rintro e w' ⟨rfl, ⟨nd, rfl⟩⟩; have p232 : 0 ≤ (0 : Int) := (by omega); have q232 : 0 < (l0.length : Int) := of_decide_eq_true (by first | (with_reducible assumption) | assumption); obtain ⟨ad232, A232_0, c232_0, e232, hx232_0, hx232_1, hl232_0, hi232_0⟩ := at_T76 HR0.out 0 p232 q232; obtain rfl : ad225 = ad232 := (by injection e232); have qi232 : (0 < l0.length) = True := eq_true (by omega); (try rw [show ((0 : Int)).toNat = 0 from rfl] at hx232_0); (try rw [show 0 * 2 = 0 from rfl] at hx232_0); (try rw [Addr.add_zero'] at hx232_0); (try rw [show ((0 : Int)).toNat = 0 from rfl] at hx232_1); (try rw [show 0 * 2 = 0 from rfl] at hx232_1); (try rw [Addr.add_zero'] at hx232_1); have HR232_0 := Aside0.mk hi232_0; have HC232_0 := Aside0.mk hl232_0; clear hi232_0 hl232_0; replace p232 := eq_true p232; replace q232 := eq_true q232; have ea_ := Option.some.inj (hx225_0.symm.trans hx232_0); injection ea_ with ea_ en_ ec_; subst ea_; subst ec_; clear en_; have p233 : 0 ≤ (0 : Int) := (by omega); have q233 : 0 < (l0.length : Int) := of_decide_eq_true (by first | (with_reducible assumption) | assumption); obtain ⟨ad233, A233_0, c233_0, e233, hx233_0, hx233_1, hl233_0, hi233_0⟩ := at_T76 HR0.out 0 p233 q233; obtain rfl : ad225 = ad233 := (by injection e233); have qi233 : (0 < l0.length) = True := eq_true (by omega); (try rw [show ((0 : Int)).toNat = 0 from rfl] at hx233_0); (try rw [show 0 * 2 = 0 from rfl] at hx233_0); (try rw [Addr.add_zero'] at hx233_0); (try rw [show ((0 : Int)).toNat = 0 from rfl] at hx233_1); (try rw [show 0 * 2 = 0 from rfl] at hx233_1); (try rw [Addr.add_zero'] at hx233_1); have HR233_0 := Aside0.mk hi233_0; have HC233_0 := Aside0.mk hl233_0; clear hi233_0 hl233_0; replace p233 := eq_true p233; replace q233 := eq_true q233; have ea_ := Option.some.inj (hx225_0.symm.trans hx233_0); injection ea_ with ea_ en_ ec_; subst ea_; subst ec_; clear en_) | (go_at_call 199; (with_reducible refine (spec_l02Least.calls ((rd_T76 l0 0).f1) t234 _ A7.out).mono ?_); rintro e w' ⟨rfl, ⟨nd, rfl⟩⟩))
     go_ret
     exact ⟨by first | rfl | (simp; done) | (simp [*]; done), by repeat (first | exact Drawn0.refl _ | apply Drawn0.step)⟩
    ·replace c6 := Bool.eq_false_iff.mpr c6
     subst c6
     have H1 : (some false) = some r := by rw [if_neg (show ¬ (false = true) by decide)] at H; exact H
     clear H
     have H := H1
     clear H1
     obtain rfl := Option.some.inj H
     have p225 : 0 ≤ (0 : Int) := (by omega)
     have q225 : 0 < (l0.length : Int) := of_decide_eq_true (by first | (with_reducible assumption) | assumption)
     obtain ⟨ad225, A225_0, c225_0, e225, hx225_0, hx225_1, hl225_0, hi225_0⟩ := at_T76 HR0.out 0 p225 q225
     cases e225
     have qi225 : (0 < l0.length) = True := eq_true (by omega)
     (try rw [show ((0 : Int)).toNat = 0 from rfl] at hx225_0)
     (try rw [show 0 * 2 = 0 from rfl] at hx225_0)
     (try rw [Addr.add_zero'] at hx225_0)
     (try rw [show ((0 : Int)).toNat = 0 from rfl] at hx225_1)
     (try rw [show 0 * 2 = 0 from rfl] at hx225_1)
     (try rw [Addr.add_zero'] at hx225_1)
     have HR225_0 := Aside0.mk hi225_0
     have HC225_0 := Aside0.mk hl225_0
     clear hi225_0 hl225_0
     replace p225 := eq_true p225
     replace q225 := eq_true q225
     have p226 : 0 ≤ (0 : Int) := (by omega)
     have q226 : 0 < (l0.length : Int) := of_decide_eq_true (by first | (with_reducible assumption) | assumption)
     obtain ⟨ad226, A226_0, c226_0, e226, hx226_0, hx226_1, hl226_0, hi226_0⟩ := at_T76 HR0.out 0 p226 q226
     obtain rfl : ad225 = ad226 := (by injection e226)
     have qi226 : (0 < l0.length) = True := eq_true (by omega)
     (try rw [show ((0 : Int)).toNat = 0 from rfl] at hx226_0)
     (try rw [show 0 * 2 = 0 from rfl] at hx226_0)
     (try rw [Addr.add_zero'] at hx226_0)
     (try rw [show ((0 : Int)).toNat = 0 from rfl] at hx226_1)
     (try rw [show 0 * 2 = 0 from rfl] at hx226_1)
     (try rw [Addr.add_zero'] at hx226_1)
     have HR226_0 := Aside0.mk hi226_0
     have HC226_0 := Aside0.mk hl226_0
     clear hi226_0 hl226_0
     replace p226 := eq_true p226
     replace q226 := eq_true q226
     have ea_ := Option.some.inj (hx225_0.symm.trans hx226_0)
     injection ea_ with ea_ en_ ec_
     subst ea_
     subst ec_
     clear en_
     have p227 : 0 ≤ (0 : Int) := (by omega)
     have q227 : 0 < (l0.length : Int) := of_decide_eq_true (by first | (with_reducible assumption) | assumption)
     obtain ⟨ad227, A227_0, c227_0, e227, hx227_0, hx227_1, hl227_0, hi227_0⟩ := at_T76 HR0.out 0 p227 q227
     obtain rfl : ad225 = ad227 := (by injection e227)
     have qi227 : (0 < l0.length) = True := eq_true (by omega)
     (try rw [show ((0 : Int)).toNat = 0 from rfl] at hx227_0)
     (try rw [show 0 * 2 = 0 from rfl] at hx227_0)
     (try rw [Addr.add_zero'] at hx227_0)
     (try rw [show ((0 : Int)).toNat = 0 from rfl] at hx227_1)
     (try rw [show 0 * 2 = 0 from rfl] at hx227_1)
     (try rw [Addr.add_zero'] at hx227_1)
     have HR227_0 := Aside0.mk hi227_0
     have HC227_0 := Aside0.mk hl227_0
     clear hi227_0 hl227_0
     replace p227 := eq_true p227
     replace q227 := eq_true q227
     have ea_ := Option.some.inj (hx225_0.symm.trans hx227_0)
     injection ea_ with ea_ en_ ec_
     subst ea_
     subst ec_
     clear en_
     have p228 : 0 ≤ (0 : Int) := (by omega)
     have q228 : 0 < (l0.length : Int) := of_decide_eq_true (by first | (with_reducible assumption) | assumption)
     obtain ⟨ad228, A228_0, c228_0, e228, hx228_0, hx228_1, hl228_0, hi228_0⟩ := at_T76 HR0.out 0 p228 q228
     obtain rfl : ad225 = ad228 := (by injection e228)
     have qi228 : (0 < l0.length) = True := eq_true (by omega)
     (try rw [show ((0 : Int)).toNat = 0 from rfl] at hx228_0)
     (try rw [show 0 * 2 = 0 from rfl] at hx228_0)
     (try rw [Addr.add_zero'] at hx228_0)
     (try rw [show ((0 : Int)).toNat = 0 from rfl] at hx228_1)
     (try rw [show 0 * 2 = 0 from rfl] at hx228_1)
     (try rw [Addr.add_zero'] at hx228_1)
     have HR228_0 := Aside0.mk hi228_0
     have HC228_0 := Aside0.mk hl228_0
     clear hi228_0 hl228_0
     replace p228 := eq_true p228
     replace q228 := eq_true q228
     have ea_ := Option.some.inj (hx225_0.symm.trans hx228_0)
     injection ea_ with ea_ en_ ec_
     subst ea_
     subst ec_
     clear en_
     have p229 : 0 ≤ (0 : Int) := (by omega)
     have q229 : 0 < (l0.length : Int) := of_decide_eq_true (by first | (with_reducible assumption) | assumption)
     obtain ⟨ad229, A229_0, c229_0, e229, hx229_0, hx229_1, hl229_0, hi229_0⟩ := at_T76 HR0.out 0 p229 q229
     obtain rfl : ad225 = ad229 := (by injection e229)
     have qi229 : (0 < l0.length) = True := eq_true (by omega)
     (try rw [show ((0 : Int)).toNat = 0 from rfl] at hx229_0)
     (try rw [show 0 * 2 = 0 from rfl] at hx229_0)
     (try rw [Addr.add_zero'] at hx229_0)
     (try rw [show ((0 : Int)).toNat = 0 from rfl] at hx229_1)
     (try rw [show 0 * 2 = 0 from rfl] at hx229_1)
     (try rw [Addr.add_zero'] at hx229_1)
     have HR229_0 := Aside0.mk hi229_0
     have HC229_0 := Aside0.mk hl229_0
     clear hi229_0 hl229_0
     replace p229 := eq_true p229
     replace q229 := eq_true q229
     have ea_ := Option.some.inj (hx225_0.symm.trans hx229_0)
     injection ea_ with ea_ en_ ec_
     subst ea_
     subst ec_
     clear en_
     have p230 : 0 ≤ (0 : Int) := (by omega)
     have q230 : 0 < (l0.length : Int) := of_decide_eq_true (by first | (with_reducible assumption) | assumption)
     obtain ⟨ad230, A230_0, c230_0, e230, hx230_0, hx230_1, hl230_0, hi230_0⟩ := at_T76 HR0.out 0 p230 q230
     obtain rfl : ad225 = ad230 := (by injection e230)
     have qi230 : (0 < l0.length) = True := eq_true (by omega)
     (try rw [show ((0 : Int)).toNat = 0 from rfl] at hx230_0)
     (try rw [show 0 * 2 = 0 from rfl] at hx230_0)
     (try rw [Addr.add_zero'] at hx230_0)
     (try rw [show ((0 : Int)).toNat = 0 from rfl] at hx230_1)
     (try rw [show 0 * 2 = 0 from rfl] at hx230_1)
     (try rw [Addr.add_zero'] at hx230_1)
     have HR230_0 := Aside0.mk hi230_0
     have HC230_0 := Aside0.mk hl230_0
     clear hi230_0 hl230_0
     replace p230 := eq_true p230
     replace q230 := eq_true q230
     have ea_ := Option.some.inj (hx225_0.symm.trans hx230_0)
     injection ea_ with ea_ en_ ec_
     subst ea_
     subst ec_
     clear en_
     go_enter Try.func182, Try.ntmps182
     go_wp2_with (first | (go_at_call 204; (with_reducible refine (spec_l02Finite.calls k _ _ ((rd_T76 l0 0).f0) false _ ?side1 ?side2 A5.out).mono ?_); (case side1 => repeat (first | exact HR230_0.out | (with_reducible refine Kd.C_alloc ?_ _) | (with_reducible refine Kd.C_drewN ?_ _) | (with_reducible refine Kd.C_drew ?_))); (case side2 => exact HC230_0.out); rintro e w' ⟨rfl, ⟨nd, rfl⟩⟩))
     go_ret
     exact ⟨by first | rfl | (simp; done) | (simp [*]; done), by repeat (first | exact Drawn0.refl _ | apply Drawn0.step)⟩
   ·rw [if_neg c4] at H
    have c4b0 : decide ((((rd_T76 l0 0).f0).length : Int) ≤ 16) = false := decide_eq_false c4
    have c4b1 : decide (((rd_T76 l0 0).f0).length ≤ 16) = false := decide_eq_false (by omega)
    clear c4
    obtain rfl := Option.some.inj H
    have p225 : 0 ≤ (0 : Int) := (by omega)
    have q225 : 0 < (l0.length : Int) := of_decide_eq_true (by first | (with_reducible assumption) | assumption)
    obtain ⟨ad225, A225_0, c225_0, e225, hx225_0, hx225_1, hl225_0, hi225_0⟩ := at_T76 HR0.out 0 p225 q225
    cases e225
    have qi225 : (0 < l0.length) = True := eq_true (by omega)
    (try rw [show ((0 : Int)).toNat = 0 from rfl] at hx225_0)
    (try rw [show 0 * 2 = 0 from rfl] at hx225_0)
    (try rw [Addr.add_zero'] at hx225_0)
    (try rw [show ((0 : Int)).toNat = 0 from rfl] at hx225_1)
    (try rw [show 0 * 2 = 0 from rfl] at hx225_1)
    (try rw [Addr.add_zero'] at hx225_1)
    have HR225_0 := Aside0.mk hi225_0
    have HC225_0 := Aside0.mk hl225_0
    clear hi225_0 hl225_0
    replace p225 := eq_true p225
    replace q225 := eq_true q225
    have p226 : 0 ≤ (0 : Int) := (by omega)
    have q226 : 0 < (l0.length : Int) := of_decide_eq_true (by first | (with_reducible assumption) | assumption)
    obtain ⟨ad226, A226_0, c226_0, e226, hx226_0, hx226_1, hl226_0, hi226_0⟩ := at_T76 HR0.out 0 p226 q226
    obtain rfl : ad225 = ad226 := (by injection e226)
    have qi226 : (0 < l0.length) = True := eq_true (by omega)
    (try rw [show ((0 : Int)).toNat = 0 from rfl] at hx226_0)
    (try rw [show 0 * 2 = 0 from rfl] at hx226_0)
    (try rw [Addr.add_zero'] at hx226_0)
    (try rw [show ((0 : Int)).toNat = 0 from rfl] at hx226_1)
    (try rw [show 0 * 2 = 0 from rfl] at hx226_1)
    (try rw [Addr.add_zero'] at hx226_1)
    have HR226_0 := Aside0.mk hi226_0
    have HC226_0 := Aside0.mk hl226_0
    clear hi226_0 hl226_0
    replace p226 := eq_true p226
    replace q226 := eq_true q226
    have ea_ := Option.some.inj (hx225_0.symm.trans hx226_0)
    injection ea_ with ea_ en_ ec_
    subst ea_
    subst ec_
    clear en_
    have p227 : 0 ≤ (0 : Int) := (by omega)
    have q227 : 0 < (l0.length : Int) := of_decide_eq_true (by first | (with_reducible assumption) | assumption)
    obtain ⟨ad227, A227_0, c227_0, e227, hx227_0, hx227_1, hl227_0, hi227_0⟩ := at_T76 HR0.out 0 p227 q227
    obtain rfl : ad225 = ad227 := (by injection e227)
    have qi227 : (0 < l0.length) = True := eq_true (by omega)
    (try rw [show ((0 : Int)).toNat = 0 from rfl] at hx227_0)
    (try rw [show 0 * 2 = 0 from rfl] at hx227_0)
    (try rw [Addr.add_zero'] at hx227_0)
    (try rw [show ((0 : Int)).toNat = 0 from rfl] at hx227_1)
    (try rw [show 0 * 2 = 0 from rfl] at hx227_1)
    (try rw [Addr.add_zero'] at hx227_1)
    have HR227_0 := Aside0.mk hi227_0
    have HC227_0 := Aside0.mk hl227_0
    clear hi227_0 hl227_0
    replace p227 := eq_true p227
    replace q227 := eq_true q227
    have ea_ := Option.some.inj (hx225_0.symm.trans hx227_0)
    injection ea_ with ea_ en_ ec_
    subst ea_
    subst ec_
    clear en_
    have p228 : 0 ≤ (0 : Int) := (by omega)
    have q228 : 0 < (l0.length : Int) := of_decide_eq_true (by first | (with_reducible assumption) | assumption)
    obtain ⟨ad228, A228_0, c228_0, e228, hx228_0, hx228_1, hl228_0, hi228_0⟩ := at_T76 HR0.out 0 p228 q228
    obtain rfl : ad225 = ad228 := (by injection e228)
    have qi228 : (0 < l0.length) = True := eq_true (by omega)
    (try rw [show ((0 : Int)).toNat = 0 from rfl] at hx228_0)
    (try rw [show 0 * 2 = 0 from rfl] at hx228_0)
    (try rw [Addr.add_zero'] at hx228_0)
    (try rw [show ((0 : Int)).toNat = 0 from rfl] at hx228_1)
    (try rw [show 0 * 2 = 0 from rfl] at hx228_1)
    (try rw [Addr.add_zero'] at hx228_1)
    have HR228_0 := Aside0.mk hi228_0
    have HC228_0 := Aside0.mk hl228_0
    clear hi228_0 hl228_0
    replace p228 := eq_true p228
    replace q228 := eq_true q228
    have ea_ := Option.some.inj (hx225_0.symm.trans hx228_0)
    injection ea_ with ea_ en_ ec_
    subst ea_
    subst ec_
    clear en_
    go_enter Try.func182, Try.ntmps182
    go_wp2
    go_ret
    exact ⟨by first | rfl | (simp; done) | (simp [*]; done), by repeat (first | exact Drawn0.refl _ | apply Drawn0.step)⟩
  ·rw [if_neg c3] at H
   have c3b0 : decide (1 ≤ (((rd_T76 l0 0).f0).length : Int)) = false := decide_eq_false c3
   have c3b1 : decide (1 ≤ ((rd_T76 l0 0).f0).length) = false := decide_eq_false (by omega)
   clear c3
   obtain rfl := Option.some.inj H
   have p225 : 0 ≤ (0 : Int) := (by omega)
   have q225 : 0 < (l0.length : Int) := of_decide_eq_true (by first | (with_reducible assumption) | assumption)
   obtain ⟨ad225, A225_0, c225_0, e225, hx225_0, hx225_1, hl225_0, hi225_0⟩ := at_T76 HR0.out 0 p225 q225
   cases e225
   have qi225 : (0 < l0.length) = True := eq_true (by omega)
   (try rw [show ((0 : Int)).toNat = 0 from rfl] at hx225_0)
   (try rw [show 0 * 2 = 0 from rfl] at hx225_0)
   (try rw [Addr.add_zero'] at hx225_0)
   (try rw [show ((0 : Int)).toNat = 0 from rfl] at hx225_1)
   (try rw [show 0 * 2 = 0 from rfl] at hx225_1)
   (try rw [Addr.add_zero'] at hx225_1)
   have HR225_0 := Aside0.mk hi225_0
   have HC225_0 := Aside0.mk hl225_0
   clear hi225_0 hl225_0
   replace p225 := eq_true p225
   replace q225 := eq_true q225
   have p226 : 0 ≤ (0 : Int) := (by omega)
   have q226 : 0 < (l0.length : Int) := of_decide_eq_true (by first | (with_reducible assumption) | assumption)
   obtain ⟨ad226, A226_0, c226_0, e226, hx226_0, hx226_1, hl226_0, hi226_0⟩ := at_T76 HR0.out 0 p226 q226
   obtain rfl : ad225 = ad226 := (by injection e226)
   have qi226 : (0 < l0.length) = True := eq_true (by omega)
   (try rw [show ((0 : Int)).toNat = 0 from rfl] at hx226_0)
   (try rw [show 0 * 2 = 0 from rfl] at hx226_0)
   (try rw [Addr.add_zero'] at hx226_0)
   (try rw [show ((0 : Int)).toNat = 0 from rfl] at hx226_1)
   (try rw [show 0 * 2 = 0 from rfl] at hx226_1)
   (try rw [Addr.add_zero'] at hx226_1)
   have HR226_0 := Aside0.mk hi226_0
   have HC226_0 := Aside0.mk hl226_0
   clear hi226_0 hl226_0
   replace p226 := eq_true p226
   replace q226 := eq_true q226
   have ea_ := Option.some.inj (hx225_0.symm.trans hx226_0)
   injection ea_ with ea_ en_ ec_
   subst ea_
   subst ec_
   clear en_
   go_enter Try.func182, Try.ntmps182
   go_wp2
   go_ret
   exact ⟨by first | rfl | (simp; done) | (simp [*]; done), by repeat (first | exact Drawn0.refl _ | apply Drawn0.step)⟩
 ·rw [if_neg c2] at H
  exact absurd H (by simp)
def impl_IsFinite.f (a0 : Nat) : Option Bool := some (finB a0)
theorem impl_IsFinite.calls (a0 : Nat) (r : Bool) (w : World) (h : impl_IsFinite.f a0 = some r) :
    Calls Try.prog 80 #[.float .f32 a0] w fun e w' => e = .returned (.bool r) ∧ Drawn0 w w' := by
  obtain rfl := Option.some.inj h
  exact fin_impl a0 w
def impl_isBetween.f (a0 : Nat) (a1 : Nat) (a2 : Nat) : Option (Bool) := if (fge .f32 a0 a1) = true then (some (fle .f32 a0 a2)) else (some false)
set_option maxHeartbeats 8000000 in
set_option maxRecDepth 100000 in
theorem impl_isBetween.calls (a0 : Nat) (a1 : Nat) (a2 : Nat) (r : Bool) (w : World) (h : impl_isBetween.f a0 a1 a2 = some r) :
    Calls Try.prog 150 #[.float .f32 a0, .float .f32 a1, .float .f32 a2] w fun e w' => e = .returned (.bool r) ∧ Drawn0 w w' := by
  have H : (if (fge .f32 a0 a1) = true then (some (fle .f32 a0 a2)) else (some false)) = some r := h
  clear h
  by_cases c4 : (fge .f32 a0 a1) = true
  · rw [if_pos c4] at H
    have c4b0 : (fge .f32 a0 a1) = true := c4
    clear c4
    obtain rfl := Option.some.inj H
    go_enter Try.func150, Try.ntmps150
    go_wp2
    go_ret
    exact ⟨by first | rfl | (simp; done) | (simp [*]; done), by repeat (first | exact Drawn0.refl _ | apply Drawn0.step)⟩
  · rw [if_neg c4] at H
    have c4b0 : (fge .f32 a0 a1) = false := by simpa using c4
    clear c4
    obtain rfl := Option.some.inj H
    go_enter Try.func150, Try.ntmps150
    go_wp2
    go_ret
    exact ⟨by first | rfl | (simp; done) | (simp [*]; done), by repeat (first | exact Drawn0.refl _ | apply Drawn0.step)⟩
def impl_within.f (a0 : Int) (a1 : Int) (a2 : Int) : Option (Bool) := if a0 ≥ a1 then (some (decide (a0 ≤ a2))) else (some false)
set_option maxHeartbeats 8000000 in
set_option maxRecDepth 100000 in
theorem impl_within.calls (a0 : Int) (a1 : Int) (a2 : Int) (r : Bool) (w : World) (h : impl_within.f a0 a1 a2 = some r) :
    Calls Try.prog 81 #[.int .i64 a0, .int .i64 a1, .int .i64 a2] w fun e w' => e = .returned (.bool r) ∧ Drawn0 w w' := by
  have H : (if a0 ≥ a1 then (some (decide (a0 ≤ a2))) else (some false)) = some r := h
  clear h
  by_cases c4 : a0 ≥ a1
  · rw [if_pos c4] at H
    have c4b0 : decide (a1 ≤ a0) = true := decide_eq_true c4
    clear c4
    obtain rfl := Option.some.inj H
    go_enter Try.func81, Try.ntmps81
    go_wp2
    go_ret
    exact ⟨by first | rfl | (simp; done) | (simp [*]; done), by repeat (first | exact Drawn0.refl _ | apply Drawn0.step)⟩
  · rw [if_neg c4] at H
    have c4b0 : decide (a1 ≤ a0) = false := decide_eq_false c4
    clear c4
    obtain rfl := Option.some.inj H
    go_enter Try.func81, Try.ntmps81
    go_wp2
    go_ret
    exact ⟨by first | rfl | (simp; done) | (simp [*]; done), by repeat (first | exact Drawn0.refl _ | apply Drawn0.step)⟩
def impl_IsName.l0 : Nat → ByteArray → Int → Option (Bool)
  | 0, _, _ => none
  | k + 1, x0, x3 => if x3 < (x0.size : Int) then (if 0 ≤ x3 then (if (bt x0 x3) < 97 then (some false) else (if (bt x0 x3) > 122 then (some false) else (impl_IsName.l0 k x0 (wrap64 (x3 + 1))))) else (none)) else ((impl_within.f (x0.size : Int) 1 8).bind fun t237 => (some t237))
def impl_IsName.f (k : Nat) (a0 : ByteArray) : Option (Bool) := impl_IsName.l0 k a0 0
theorem impl_IsName.mono_l : ∀ k, (∀ y0 y1, LeO (impl_IsName.l0 k y0 y1) (impl_IsName.l0 (k + 1) y0 y1))
  | 0 => fun _ _ r h => by simp [impl_IsName.l0] at h
  | k + 1 => by
    have ih0 := impl_IsName.mono_l k
    · intro y0 y1
      unfold impl_IsName.l0
      repeat' first
      | (with_reducible exact ih0 _ _)
      | (with_reducible exact LeO.refl _)
      | (with_reducible exact LeO.none _)
      | (with_reducible refine LeO.ite ?_ ?_)
      | (with_reducible refine LeO.bind ?_ (fun _ => ?_))
      | exact ih0 _ _
      | exact LeO.none _
      | refine LeO.ite ?_ ?_
      | refine LeO.bind ?_ (fun _ => ?_)
theorem impl_IsName.mono : ∀ a0 k, LeO (impl_IsName.f k a0) (impl_IsName.f (k + 1) a0) := by
  intro a0 k
  have ih0 := impl_IsName.mono_l k
  unfold impl_IsName.f
  repeat' first
      | (with_reducible exact ih0 _ _)
      | (with_reducible exact LeO.refl _)
      | (with_reducible exact LeO.none _)
      | (with_reducible refine LeO.ite ?_ ?_)
      | (with_reducible refine LeO.bind ?_ (fun _ => ?_))
      | exact ih0 _ _
      | exact LeO.none _
      | refine LeO.ite ?_ ?_
      | refine LeO.bind ?_ (fun _ => ?_)
set_option maxHeartbeats 8000000 in
set_option maxRecDepth 100000 in
theorem impl_IsName.calls (k : Nat) (a0 : ByteArray) (r : Bool) (w : World) (h : impl_IsName.f k a0 = some r) :
    Calls Try.prog 207 #[.string a0] w fun e w' => e = .returned (.bool r) ∧ Drawn0 w w' := by
  have H : (impl_IsName.l0 k a0 0) = some r := h
  clear h
  have H' := Aside0.mk H
  clear H
  go_enter Try.func207, Try.ntmps207
  go_wp2
  go_loopg [3] k (fun kq v3 w' => ∃ (x3_1 : Int), v3 = .int .i64 x3_1 ∧ Aside0 (impl_IsName.l0 kq a0 x3_1 = some r) ∧ Aside0 (kq ≤ k) ∧ Drawn0 w w')
  case atStart => exact ⟨(0), (by first | rfl | (simp; done) | (simp [*]; done)), H', ⟨Nat.le_refl _⟩, by repeat (first | exact Drawn0.refl _ | apply Drawn0.step)⟩
  case round =>
    clear H'
    obtain ⟨x3_1, rfl, HA, HK1, ⟨m1, rfl⟩⟩ := hrel
    cases gk with
    | zero => exact absurd HA.out (by simp [impl_IsName.l0])
    | succ k1 =>
      have H := HA.out
      clear HA
      simp only [impl_IsName.l0] at H
      by_cases c2 : x3_1 < (a0.size : Int)
      · rw [if_pos c2] at H
        have c2b0 : decide (x3_1 < (a0.size : Int)) = true := decide_eq_true c2
        clear c2
        by_cases c3 : 0 ≤ x3_1
        · rw [if_pos c3] at H
          have c3b0 : decide (0 ≤ x3_1) = true := decide_eq_true c3
          clear c3
          by_cases c5 : (bt a0 x3_1) < 97
          · rw [if_pos c5] at H
            have c5b0 : decide ((bt a0 x3_1) < 97) = true := decide_eq_true c5
            clear c5
            obtain rfl := Option.some.inj H
            have p4 : 0 ≤ (x3_1 : Int) := of_decide_eq_true (by first | (with_reducible assumption) | assumption)
            have q4 : x3_1 < (a0.size : Int) := of_decide_eq_true (by first | (with_reducible assumption) | assumption)
            have hx4 := bt_at a0 x3_1
            replace p4 := eq_true p4
            replace q4 := eq_true q4
            go_wp2
            go_ret
            exact ⟨by first | rfl | (simp; done) | (simp [*]; done), by repeat (first | exact Drawn0.refl _ | apply Drawn0.step)⟩
          · rw [if_neg c5] at H
            have c5b0 : decide ((bt a0 x3_1) < 97) = false := decide_eq_false c5
            clear c5
            by_cases c7 : (bt a0 x3_1) > 122
            · rw [if_pos c7] at H
              have c7b0 : decide (122 < (bt a0 x3_1)) = true := decide_eq_true c7
              clear c7
              obtain rfl := Option.some.inj H
              have p4 : 0 ≤ (x3_1 : Int) := of_decide_eq_true (by first | (with_reducible assumption) | assumption)
              have q4 : x3_1 < (a0.size : Int) := of_decide_eq_true (by first | (with_reducible assumption) | assumption)
              have hx4 := bt_at a0 x3_1
              replace p4 := eq_true p4
              replace q4 := eq_true q4
              have p6 : 0 ≤ (x3_1 : Int) := of_decide_eq_true (by first | (with_reducible assumption) | assumption)
              have q6 : x3_1 < (a0.size : Int) := of_decide_eq_true (by first | (with_reducible assumption) | assumption)
              have hx6 := bt_at a0 x3_1
              replace p6 := eq_true p6
              replace q6 := eq_true q6
              go_wp2
              go_ret
              exact ⟨by first | rfl | (simp; done) | (simp [*]; done), by repeat (first | exact Drawn0.refl _ | apply Drawn0.step)⟩
            · rw [if_neg c7] at H
              have c7b0 : decide (122 < (bt a0 x3_1)) = false := decide_eq_false c7
              clear c7
              have H' := Aside0.mk H
              clear H
              have p4 : 0 ≤ (x3_1 : Int) := of_decide_eq_true (by first | (with_reducible assumption) | assumption)
              have q4 : x3_1 < (a0.size : Int) := of_decide_eq_true (by first | (with_reducible assumption) | assumption)
              have hx4 := bt_at a0 x3_1
              replace p4 := eq_true p4
              replace q4 := eq_true q4
              have p6 : 0 ≤ (x3_1 : Int) := of_decide_eq_true (by first | (with_reducible assumption) | assumption)
              have q6 : x3_1 < (a0.size : Int) := of_decide_eq_true (by first | (with_reducible assumption) | assumption)
              have hx6 := bt_at a0 x3_1
              replace p6 := eq_true p6
              replace q6 := eq_true q6
              go_wp2
              go_roundg k1
              case measure => have := HK1.out; omega
              case rel => exact ⟨(wrap64 (x3_1 + 1)), (by first | rfl | (simp; done) | (simp [*]; done)), H', ⟨by have := HK1.out; omega⟩, by repeat (first | exact Drawn0.refl _ | apply Drawn0.step)⟩
        · rw [if_neg c3] at H
          exact absurd H (by simp)
      · rw [if_neg c2] at H
        have c2b0 : decide (x3_1 < (a0.size : Int)) = false := decide_eq_false c2
        clear c2
        replace H := Option.bind_eq_some_iff.mp H
        obtain ⟨t237, A80, H⟩ := H
        replace H : (some t237) = some r := H
        have A8 := Aside0.mk A80
        clear A80
        obtain rfl := Option.some.inj H
        go_wp2_with (first | ((with_reducible refine gate_callee (f := 81) rfl ?_); refine goesL_ (some 22) rfl rfl Try.func81 (by kernel_rfl) rfl #[.int .i64 (a0.size : Int), .int .i64 1, .int .i64 8] rfl (by (try simp only [List.map_toArray, List.map_cons, List.map_nil]); first | done | rfl | (simp only [List.length_drop, List.length_take]; rfl)) ?_; (with_reducible refine (impl_within.calls (a0.size : Int) 1 8 t237 _ A8.out).mono ?_); rintro e w' ⟨rfl, ⟨nd, rfl⟩⟩; refine ⟨_, rfl, ?_⟩))
        go_ret
        exact ⟨by first | rfl | (simp; done) | (simp [*]; done), by repeat (first | exact Drawn0.refl _ | apply Drawn0.step)⟩
def impl_isSoundName.f (k : Nat) (a0 : ByteArray) : Option (Bool) := if (a0.size : Int) ≤ 4 then ((impl_IsName.f k a0).bind fun t238 => (some t238)) else (some false)
theorem impl_isSoundName.mono : ∀ a0 k, LeO (impl_isSoundName.f k a0) (impl_isSoundName.f (k + 1) a0) := by
  intro a0 k
  unfold impl_isSoundName.f
  repeat' first
      | (with_reducible exact impl_IsName.mono _ _)
      | (with_reducible exact LeO.refl _)
      | (with_reducible exact LeO.none _)
      | (with_reducible refine LeO.ite ?_ ?_)
      | (with_reducible refine LeO.bind ?_ (fun _ => ?_))
      | exact impl_IsName.mono _ _
      | exact LeO.none _
      | refine LeO.ite ?_ ?_
      | refine LeO.bind ?_ (fun _ => ?_)
set_option maxHeartbeats 8000000 in
set_option maxRecDepth 100000 in
theorem impl_isSoundName.calls (k : Nat) (a0 : ByteArray) (r : Bool) (w : World) (h : impl_isSoundName.f k a0 = some r) :
    Calls Try.prog 200 #[.string a0] w fun e w' => e = .returned (.bool r) ∧ Drawn0 w w' := by
  have H : (if (a0.size : Int) ≤ 4 then ((impl_IsName.f k a0).bind fun t238 => (some t238)) else (some false)) = some r := h
  clear h
  by_cases c2 : (a0.size : Int) ≤ 4
  · rw [if_pos c2] at H
    have c2b0 : decide ((a0.size : Int) ≤ 4) = true := decide_eq_true c2
    have c2b1 : decide (a0.size ≤ 4) = true := decide_eq_true (by omega)
    clear c2
    replace H := Option.bind_eq_some_iff.mp H
    obtain ⟨t238, A30, H⟩ := H
    replace H : (some t238) = some r := H
    have A3 := Aside0.mk A30
    clear A30
    obtain rfl := Option.some.inj H
    go_enter Try.func200, Try.ntmps200
    go_wp2_with (first | (go_at_call 207; (with_reducible refine (impl_IsName.calls k a0 t238 _ A3.out).mono ?_); rintro e w' ⟨rfl, ⟨nd, rfl⟩⟩))
    go_ret
    exact ⟨by first | rfl | (simp; done) | (simp [*]; done), by repeat (first | exact Drawn0.refl _ | apply Drawn0.step)⟩
  · rw [if_neg c2] at H
    have c2b0 : decide ((a0.size : Int) ≤ 4) = false := decide_eq_false c2
    have c2b1 : decide (a0.size ≤ 4) = false := decide_eq_false (by omega)
    clear c2
    obtain rfl := Option.some.inj H
    go_enter Try.func200, Try.ntmps200
    go_wp2
    go_ret
    exact ⟨by first | rfl | (simp; done) | (simp [*]; done), by repeat (first | exact Drawn0.refl _ | apply Drawn0.step)⟩
def impl_areFinite.l0 : Nat → List Nat → Int → Int → Option (Bool)
  | 0, _, _, _ => none
  | k + 1, x5, x6, x7 => if x7 < x6 then (if 0 ≤ x7 then (if x7 < (x5.length : Int) then ((impl_IsFinite.f (rdOf (0 : Nat) x5 x7)).bind fun t240 => (if t240 = true then (impl_areFinite.l0 k x5 x6 (wrap64 (x7 + 1))) else (some false))) else (none)) else (none)) else (some true)
def impl_areFinite.f (k : Nat) (l0 : List Nat) : Option (Bool) := impl_areFinite.l0 k l0 (l0.length : Int) 0
theorem impl_areFinite.mono_l : ∀ k, (∀ y0 y1 y2, LeO (impl_areFinite.l0 k y0 y1 y2) (impl_areFinite.l0 (k + 1) y0 y1 y2))
  | 0 => fun _ _ _ r h => by simp [impl_areFinite.l0] at h
  | k + 1 => by
    have ih0 := impl_areFinite.mono_l k
    · intro y0 y1 y2
      unfold impl_areFinite.l0
      repeat' first
      | (with_reducible exact ih0 _ _ _)
      | (with_reducible exact LeO.refl _)
      | (with_reducible exact LeO.none _)
      | (with_reducible refine LeO.ite ?_ ?_)
      | (with_reducible refine LeO.bind ?_ (fun _ => ?_))
      | exact ih0 _ _ _
      | exact LeO.none _
      | refine LeO.ite ?_ ?_
      | refine LeO.bind ?_ (fun _ => ?_)
theorem impl_areFinite.mono : ∀ a0 k, LeO (impl_areFinite.f k a0) (impl_areFinite.f (k + 1) a0) := by
  intro a0 k
  have ih0 := impl_areFinite.mono_l k
  unfold impl_areFinite.f
  repeat' first
      | (with_reducible exact ih0 _ _ _)
      | (with_reducible exact LeO.refl _)
      | (with_reducible exact LeO.none _)
      | (with_reducible refine LeO.ite ?_ ?_)
      | (with_reducible refine LeO.bind ?_ (fun _ => ?_))
      | exact ih0 _ _ _
      | exact LeO.none _
      | refine LeO.ite ?_ ?_
      | refine LeO.bind ?_ (fun _ => ?_)
set_option maxHeartbeats 8000000 in
set_option maxRecDepth 100000 in
theorem impl_areFinite.calls (k : Nat) (A0 : Option Addr) (c0 : Nat) (l0 : List Nat) (r : Bool) (w : World) (hr0 : Kd.C (Kd.float .f32) w A0 l0.length l0) (hc0 : l0.length ≤ c0) (h : impl_areFinite.f k l0 = some r) :
    Calls Try.prog 155 #[.slice A0 l0.length c0] w fun e w' => e = .returned (.bool r) ∧ Drawn0 w w' := by
  have hu36 := Try.underlying36
  have HR0 := Aside0.mk hr0
  have HC0 := Aside0.mk hc0
  clear hr0 hc0
  have H : (impl_areFinite.l0 k l0 (l0.length : Int) 0) = some r := h
  clear h
  have H' := Aside0.mk H
  clear H
  go_enter Try.func155, Try.ntmps155
  go_wp2
  go_loopg [7] k (fun kq v7 w' => ∃ (x7_1 : Int), v7 = .int .i64 x7_1 ∧ Aside0 (impl_areFinite.l0 kq l0 (l0.length : Int) x7_1 = some r) ∧ Aside0 (kq ≤ k) ∧ Drawn0 w w')
  case atStart => exact ⟨(0), (by first | rfl | (simp; done) | (simp [*]; done)), H', ⟨Nat.le_refl _⟩, by repeat (first | exact Drawn0.refl _ | apply Drawn0.step)⟩
  case round =>
    clear H'
    try clear c1
    obtain ⟨x7_1, rfl, HA, HK1, ⟨m1, rfl⟩⟩ := hrel
    cases gk with
    | zero => exact absurd HA.out (by simp [impl_areFinite.l0])
    | succ k1 =>
      have H := HA.out
      clear HA
      simp only [impl_areFinite.l0] at H
      by_cases c2 : x7_1 < (l0.length : Int)
      · rw [if_pos c2] at H
        have c2b0 : decide (x7_1 < (l0.length : Int)) = true := decide_eq_true c2
        clear c2
        by_cases c3 : 0 ≤ x7_1
        · rw [if_pos c3] at H
          have c3b0 : decide (0 ≤ x7_1) = true := decide_eq_true c3
          clear c3
          by_cases c4 : x7_1 < (l0.length : Int)
          · rw [if_pos c4] at H
            have c4b0 : decide (x7_1 < (l0.length : Int)) = true := decide_eq_true c4
            clear c4
            replace H := Option.bind_eq_some_iff.mp H
            obtain ⟨t240, A50, H⟩ := H
            replace H : (if t240 = true then (impl_areFinite.l0 k1 l0 (l0.length : Int) (wrap64 (x7_1 + 1))) else (some false)) = some r := H
            have A5 := Aside0.mk A50
            clear A50
            by_cases c6 : t240 = true
            · subst c6
              have H1 : (impl_areFinite.l0 k1 l0 (l0.length : Int) (wrap64 (x7_1 + 1))) = some r := by rw [if_pos rfl] at H; exact H
              clear H
              have H := H1
              clear H1
              have H' := Aside0.mk H
              clear H
              have p239 : 0 ≤ (x7_1 : Int) := of_decide_eq_true (by first | (with_reducible assumption) | assumption)
              have q239 : x7_1 < (l0.length : Int) := of_decide_eq_true (by first | (with_reducible assumption) | assumption)
              obtain ⟨ad239, e239, hx239_0⟩ := Kd.at_float HR0.out x7_1 p239 q239
              cases e239
              replace p239 := eq_true p239
              replace q239 := eq_true q239
              go_wp2_with (first | ((with_reducible refine gate_callee (f := 80) rfl ?_); refine goesL_ (some 12) rfl rfl Try.func80 (by kernel_rfl) rfl #[.float .f32 (rdOf (0 : Nat) l0 x7_1)] rfl (by (try simp only [List.map_toArray, List.map_cons, List.map_nil]); first | done | rfl | (simp only [List.length_drop, List.length_take]; rfl)) ?_; (with_reducible refine (impl_IsFinite.calls (rdOf (0 : Nat) l0 x7_1) true _ A5.out).mono ?_); rintro e w' ⟨rfl, ⟨nd, rfl⟩⟩; refine ⟨_, rfl, ?_⟩))
              go_roundg k1
              case measure => have := HK1.out; omega
              case rel => exact ⟨(wrap64 (x7_1 + 1)), (by first | rfl | (simp; done) | (simp [*]; done)), H', ⟨by have := HK1.out; omega⟩, by repeat (first | exact Drawn0.refl _ | apply Drawn0.step)⟩
            · replace c6 := Bool.eq_false_iff.mpr c6
              subst c6
              have H1 : (some false) = some r := by rw [if_neg (show ¬ (false = true) by decide)] at H; exact H
              clear H
              have H := H1
              clear H1
              obtain rfl := Option.some.inj H
              have p239 : 0 ≤ (x7_1 : Int) := of_decide_eq_true (by first | (with_reducible assumption) | assumption)
              have q239 : x7_1 < (l0.length : Int) := of_decide_eq_true (by first | (with_reducible assumption) | assumption)
              obtain ⟨ad239, e239, hx239_0⟩ := Kd.at_float HR0.out x7_1 p239 q239
              cases e239
              replace p239 := eq_true p239
              replace q239 := eq_true q239
              go_wp2_with (first | ((with_reducible refine gate_callee (f := 80) rfl ?_); refine goesL_ (some 12) rfl rfl Try.func80 (by kernel_rfl) rfl #[.float .f32 (rdOf (0 : Nat) l0 x7_1)] rfl (by (try simp only [List.map_toArray, List.map_cons, List.map_nil]); first | done | rfl | (simp only [List.length_drop, List.length_take]; rfl)) ?_; (with_reducible refine (impl_IsFinite.calls (rdOf (0 : Nat) l0 x7_1) false _ A5.out).mono ?_); rintro e w' ⟨rfl, ⟨nd, rfl⟩⟩; refine ⟨_, rfl, ?_⟩))
              go_ret
              exact ⟨by first | rfl | (simp; done) | (simp [*]; done), by repeat (first | exact Drawn0.refl _ | apply Drawn0.step)⟩
          · rw [if_neg c4] at H
            exact absurd H (by simp)
        · rw [if_neg c3] at H
          exact absurd H (by simp)
      · rw [if_neg c2] at H
        have c2b0 : decide (x7_1 < (l0.length : Int)) = false := decide_eq_false c2
        clear c2
        obtain rfl := Option.some.inj H
        go_wp2
        go_ret
        exact ⟨by first | rfl | (simp; done) | (simp [*]; done), by repeat (first | exact Drawn0.refl _ | apply Drawn0.step)⟩
def impl_areAreas_1.f (a0 : Nat) : Option (Bool) := some (fle .f32 a0 0)
set_option maxHeartbeats 8000000 in
set_option maxRecDepth 100000 in
theorem impl_areAreas_1.calls (a0 : Nat) (r : Bool) (w : World) (h : impl_areAreas_1.f a0 = some r) :
    Calls Try.prog 209 #[.float .f32 a0] w fun e w' => e = .returned (.bool r) ∧ Drawn0 w w' := by
  have H : (some (fle .f32 a0 0)) = some r := h
  clear h
  obtain rfl := Option.some.inj H
  go_enter Try.func209, Try.ntmps209
  go_wp2
  go_ret
  exact ⟨by first | rfl | (simp; done) | (simp [*]; done), by repeat (first | exact Drawn0.refl _ | apply Drawn0.step)⟩
def slices_IndexFunc_v_impl_areAreas_1.l0 : Nat → List Nat → Int → Int → Option (Int)
  | 0, _, _, _ => none
  | k + 1, x0, x7, x8 => if x8 < x7 then (if 0 ≤ x8 then (if x8 < (x0.length : Int) then ((impl_areAreas_1.f (rdOf (0 : Nat) x0 x8)).bind fun t242 => (if t242 = true then (some x8) else (slices_IndexFunc_v_impl_areAreas_1.l0 k x0 x7 (wrap64 (x8 + 1))))) else (none)) else (none)) else (some (-1))
def slices_IndexFunc_v_impl_areAreas_1.f (k : Nat) (l0 : List Nat)  : Option (Int) := slices_IndexFunc_v_impl_areAreas_1.l0 k l0 (l0.length : Int) 0
theorem slices_IndexFunc_v_impl_areAreas_1.mono_l : ∀ k, (∀ y0 y1 y2, LeO (slices_IndexFunc_v_impl_areAreas_1.l0 k y0 y1 y2) (slices_IndexFunc_v_impl_areAreas_1.l0 (k + 1) y0 y1 y2))
  | 0 => fun _ _ _ r h => by simp [slices_IndexFunc_v_impl_areAreas_1.l0] at h
  | k + 1 => by
    have ih0 := slices_IndexFunc_v_impl_areAreas_1.mono_l k
    · intro y0 y1 y2
      unfold slices_IndexFunc_v_impl_areAreas_1.l0
      repeat' first
      | (with_reducible exact ih0 _ _ _)
      | (with_reducible exact LeO.refl _)
      | (with_reducible exact LeO.none _)
      | (with_reducible refine LeO.ite ?_ ?_)
      | (with_reducible refine LeO.bind ?_ (fun _ => ?_))
      | exact ih0 _ _ _
      | exact LeO.none _
      | refine LeO.ite ?_ ?_
      | refine LeO.bind ?_ (fun _ => ?_)
theorem slices_IndexFunc_v_impl_areAreas_1.mono : ∀ a0 k, LeO (slices_IndexFunc_v_impl_areAreas_1.f k a0) (slices_IndexFunc_v_impl_areAreas_1.f (k + 1) a0) := by
  intro a0 k
  have ih0 := slices_IndexFunc_v_impl_areAreas_1.mono_l k
  unfold slices_IndexFunc_v_impl_areAreas_1.f
  repeat' first
      | (with_reducible exact ih0 _ _ _)
      | (with_reducible exact LeO.refl _)
      | (with_reducible exact LeO.none _)
      | (with_reducible refine LeO.ite ?_ ?_)
      | (with_reducible refine LeO.bind ?_ (fun _ => ?_))
      | exact ih0 _ _ _
      | exact LeO.none _
      | refine LeO.ite ?_ ?_
      | refine LeO.bind ?_ (fun _ => ?_)
set_option maxHeartbeats 8000000 in
set_option maxRecDepth 100000 in
theorem slices_IndexFunc_v_impl_areAreas_1.calls (k : Nat) (A0 : Option Addr) (c0 : Nat) (l0 : List Nat)  (r : Int) (w : World) (hr0 : Kd.C (Kd.float .f32) w A0 l0.length l0) (hc0 : l0.length ≤ c0) (h : slices_IndexFunc_v_impl_areAreas_1.f k l0 = some r) :
    Calls Try.prog 212 #[.slice A0 l0.length c0, .func (.func 209) #[] #[]] w fun e w' => e = .returned (.int .i64 r) ∧ Drawn0 w w' := by
  have eg209 := enters_of Try.func209 (by kernel_rfl) rfl
  have hu36 := Try.underlying36
  have HR0 := Aside0.mk hr0
  have HC0 := Aside0.mk hc0
  clear hr0 hc0
  have H : (slices_IndexFunc_v_impl_areAreas_1.l0 k l0 (l0.length : Int) 0) = some r := h
  clear h
  have H' := Aside0.mk H
  clear H
  go_enter Try.func212, Try.ntmps212
  go_wp2
  go_loopg [8] k (fun kq v8 w' => ∃ (x8_1 : Int), v8 = .int .i64 x8_1 ∧ Aside0 (slices_IndexFunc_v_impl_areAreas_1.l0 kq l0 (l0.length : Int) x8_1 = some r) ∧ Aside0 (kq ≤ k) ∧ Drawn0 w w')
  case atStart => exact ⟨(0), (by first | rfl | (simp; done) | (simp [*]; done)), H', ⟨Nat.le_refl _⟩, by repeat (first | exact Drawn0.refl _ | apply Drawn0.step)⟩
  case round =>
    clear H'
    try clear p2
    obtain ⟨x8_1, rfl, HA, HK1, ⟨m1, rfl⟩⟩ := hrel
    cases gk with
    | zero => exact absurd HA.out (by simp [slices_IndexFunc_v_impl_areAreas_1.l0])
    | succ k1 =>
      have H := HA.out
      clear HA
      simp only [slices_IndexFunc_v_impl_areAreas_1.l0] at H
      by_cases c3 : x8_1 < (l0.length : Int)
      · rw [if_pos c3] at H
        have c3b0 : decide (x8_1 < (l0.length : Int)) = true := decide_eq_true c3
        clear c3
        by_cases c4 : 0 ≤ x8_1
        · rw [if_pos c4] at H
          have c4b0 : decide (0 ≤ x8_1) = true := decide_eq_true c4
          clear c4
          by_cases c5 : x8_1 < (l0.length : Int)
          · rw [if_pos c5] at H
            have c5b0 : decide (x8_1 < (l0.length : Int)) = true := decide_eq_true c5
            clear c5
            replace H := Option.bind_eq_some_iff.mp H
            obtain ⟨t242, A60, H⟩ := H
            replace H : (if t242 = true then (some x8_1) else (slices_IndexFunc_v_impl_areAreas_1.l0 k1 l0 (l0.length : Int) (wrap64 (x8_1 + 1)))) = some r := H
            have A6 := Aside0.mk A60
            clear A60
            by_cases c7 : t242 = true
            · subst c7
              have H1 : (some x8_1) = some r := by rw [if_pos rfl] at H; exact H
              clear H
              have H := H1
              clear H1
              obtain rfl := Option.some.inj H
              have p241 : 0 ≤ (x8_1 : Int) := of_decide_eq_true (by first | (with_reducible assumption) | assumption)
              have q241 : x8_1 < (l0.length : Int) := of_decide_eq_true (by first | (with_reducible assumption) | assumption)
              obtain ⟨ad241, e241, hx241_0⟩ := Kd.at_float HR0.out x8_1 p241 q241
              cases e241
              replace p241 := eq_true p241
              replace q241 := eq_true q241
              go_wp2_with (first | (go_at_call 209; (with_reducible refine (impl_areAreas_1.calls (rdOf (0 : Nat) l0 x8_1) true _ A6.out).mono ?_); rintro e w' ⟨rfl, ⟨nd, rfl⟩⟩))
              go_ret
              exact ⟨by first | rfl | (simp; done) | (simp [*]; done), by repeat (first | exact Drawn0.refl _ | apply Drawn0.step)⟩
            · replace c7 := Bool.eq_false_iff.mpr c7
              subst c7
              have H1 : (slices_IndexFunc_v_impl_areAreas_1.l0 k1 l0 (l0.length : Int) (wrap64 (x8_1 + 1))) = some r := by rw [if_neg (show ¬ (false = true) by decide)] at H; exact H
              clear H
              have H := H1
              clear H1
              have H' := Aside0.mk H
              clear H
              have p241 : 0 ≤ (x8_1 : Int) := of_decide_eq_true (by first | (with_reducible assumption) | assumption)
              have q241 : x8_1 < (l0.length : Int) := of_decide_eq_true (by first | (with_reducible assumption) | assumption)
              obtain ⟨ad241, e241, hx241_0⟩ := Kd.at_float HR0.out x8_1 p241 q241
              cases e241
              replace p241 := eq_true p241
              replace q241 := eq_true q241
              go_wp2_with (first | (go_at_call 209; (with_reducible refine (impl_areAreas_1.calls (rdOf (0 : Nat) l0 x8_1) false _ A6.out).mono ?_); rintro e w' ⟨rfl, ⟨nd, rfl⟩⟩))
              go_roundg k1
              case measure => have := HK1.out; omega
              case rel => exact ⟨(wrap64 (x8_1 + 1)), (by first | rfl | (simp; done) | (simp [*]; done)), H', ⟨by have := HK1.out; omega⟩, by repeat (first | exact Drawn0.refl _ | apply Drawn0.step)⟩
          · rw [if_neg c5] at H
            exact absurd H (by simp)
        · rw [if_neg c4] at H
          exact absurd H (by simp)
      · rw [if_neg c3] at H
        have c3b0 : decide (x8_1 < (l0.length : Int)) = false := decide_eq_false c3
        clear c3
        obtain rfl := Option.some.inj H
        go_wp2
        go_ret
        exact ⟨by first | rfl | (simp; done) | (simp [*]; done), by repeat (first | exact Drawn0.refl _ | apply Drawn0.step)⟩
end Go.Proofs.Ytoiaojdkgagblaa.PFnExactValidDesk
