import Derived.Test.YtoiaojdkgagblaaPFnExactDropSoundx0
import Derived.Test.YtoiaojdkgagblaaPFnExactDropSoundx3
import Derived.Test.YtoiaojdkgagblaaPFnExactDropSoundx4
namespace Go.Proofs.Ytoiaojdkgagblaa.PFnExactDropSound
open Go.RowKit Go.Proofs.YtoiaojdkgagblaaW.PrintWords Go.Proofs.YtoiaojdkgagblaaW.PrintLast Go.Proofs.YtoiaojdkgagblaaW.PrintMore
open Go.Proofs.YtoiaojdkgagblaaW.PrintFl
attribute [local go_sem high] binOp_feq binOp_fne binOp_fls binOp_fle binOp_fgr binOp_fge binOp_sle binOp_sgt
attribute [local go_sem] run_fopr run_fconv run_fint run_stf run_stc ext_f32bits ext_f64bits ext_f32frombits
attribute [local go_sem] max2_int min2_int max_two min_two max_three min_three max_four min_four
set_option linter.unusedVariables false
set_option linter.unusedSimpArgs false
def spec_l06Sound.f (k : Nat) (l0 : List (S138)) : Option (Bool) := if 0 < (l0.length : Int) then ((spec_l06Name.f k ((rd_T138 l0 0).f0)).bind fun t152 => (if t152 = true then ((spec_l02Areas.f k ((rd_T138 l0 0).f1)).bind fun t155 => (if t155 = true then ((spec_l02Above.f ((rd_T138 l0 0).f2)).bind fun t158 => (if t158 = true then ((spec_l02Least.f ((rd_T138 l0 0).f3)).bind fun t161 => (if t161 = true then ((spec_l02Share.f ((rd_T138 l0 0).f4)).bind fun t164 => (if t164 = true then ((spec_l02Share.f ((rd_T138 l0 0).f5)).bind fun t167 => (some t167)) else (some false))) else (some false))) else (some false))) else (some false))) else (some false))) else (none)
theorem spec_l06Sound.mono : ∀ a0 k, LeO (spec_l06Sound.f k a0) (spec_l06Sound.f (k + 1) a0) := by
 intro a0 k
 unfold spec_l06Sound.f
 repeat' first
   | (with_reducible exact spec_l02Areas.mono _ _)
   | (with_reducible exact spec_l06Name.mono _ _)
   | (with_reducible exact LeO.refl _)
   | (with_reducible exact LeO.none _)
   | (with_reducible refine LeO.ite ?_ ?_)
   | (with_reducible refine LeO.bind ?_ (fun _ => ?_))
   | exact spec_l02Areas.mono _ _
   | exact spec_l06Name.mono _ _
   | exact LeO.none _
   | refine LeO.ite ?_ ?_
   | refine LeO.bind ?_ (fun _ => ?_)
set_option maxHeartbeats 8000000 in
set_option maxRecDepth 100000 in
theorem spec_l06Sound.calls (k : Nat) (A0 : Option Addr) (l0 : List (S138)) (r : Bool) (w : World) (hr0 : Kd.C k138 w A0 l0.length l0) (h : spec_l06Sound.f k l0 = some r) :
  Calls Try.prog 166 #[.pointer A0] w fun e w' => e = .returned (.bool r) ∧ Drawn0 w w' := by
 have hu9 := Try.underlying9
 have hu26 := Try.underlying26
 have hu36 := Try.underlying36
 have HR0 := Aside0.mk hr0
 clear hr0
 have H : (if 0 < (l0.length : Int) then ((spec_l06Name.f k ((rd_T138 l0 0).f0)).bind fun t152 => (if t152 = true then ((spec_l02Areas.f k ((rd_T138 l0 0).f1)).bind fun t155 => (if t155 = true then ((spec_l02Above.f ((rd_T138 l0 0).f2)).bind fun t158 => (if t158 = true then ((spec_l02Least.f ((rd_T138 l0 0).f3)).bind fun t161 => (if t161 = true then ((spec_l02Share.f ((rd_T138 l0 0).f4)).bind fun t164 => (if t164 = true then ((spec_l02Share.f ((rd_T138 l0 0).f5)).bind fun t167 => (some t167)) else (some false))) else (some false))) else (some false))) else (some false))) else (some false))) else (none)) = some r := h
 clear h
 by_cases c2 : 0 < (l0.length : Int)
 ·rw [if_pos c2] at H
  have c2b0 : decide (0 < (l0.length : Int)) = true := decide_eq_true c2
  have c2b1 : decide (0 < l0.length) = true := decide_eq_true (by omega)
  clear c2
  replace H := Option.bind_eq_some_iff.mp H
  obtain ⟨t152, A30, H⟩ := H
  replace H : (if t152 = true then ((spec_l02Areas.f k ((rd_T138 l0 0).f1)).bind fun t155 => (if t155 = true then ((spec_l02Above.f ((rd_T138 l0 0).f2)).bind fun t158 => (if t158 = true then ((spec_l02Least.f ((rd_T138 l0 0).f3)).bind fun t161 => (if t161 = true then ((spec_l02Share.f ((rd_T138 l0 0).f4)).bind fun t164 => (if t164 = true then ((spec_l02Share.f ((rd_T138 l0 0).f5)).bind fun t167 => (some t167)) else (some false))) else (some false))) else (some false))) else (some false))) else (some false)) = some r := H
  have A3 := Aside0.mk A30
  clear A30
  by_cases c4 : t152 = true
  ·subst c4
   have H1 : ((spec_l02Areas.f k ((rd_T138 l0 0).f1)).bind fun t155 => (if t155 = true then ((spec_l02Above.f ((rd_T138 l0 0).f2)).bind fun t158 => (if t158 = true then ((spec_l02Least.f ((rd_T138 l0 0).f3)).bind fun t161 => (if t161 = true then ((spec_l02Share.f ((rd_T138 l0 0).f4)).bind fun t164 => (if t164 = true then ((spec_l02Share.f ((rd_T138 l0 0).f5)).bind fun t167 => (some t167)) else (some false))) else (some false))) else (some false))) else (some false))) = some r := by rw [if_pos rfl] at H; exact H
   clear H
   have H := H1
   clear H1
   replace H := Option.bind_eq_some_iff.mp H
   obtain ⟨t155, A50, H⟩ := H
   replace H : (if t155 = true then ((spec_l02Above.f ((rd_T138 l0 0).f2)).bind fun t158 => (if t158 = true then ((spec_l02Least.f ((rd_T138 l0 0).f3)).bind fun t161 => (if t161 = true then ((spec_l02Share.f ((rd_T138 l0 0).f4)).bind fun t164 => (if t164 = true then ((spec_l02Share.f ((rd_T138 l0 0).f5)).bind fun t167 => (some t167)) else (some false))) else (some false))) else (some false))) else (some false)) = some r := H
   have A5 := Aside0.mk A50
   clear A50
   by_cases c6 : t155 = true
   ·subst c6
    have H1 : ((spec_l02Above.f ((rd_T138 l0 0).f2)).bind fun t158 => (if t158 = true then ((spec_l02Least.f ((rd_T138 l0 0).f3)).bind fun t161 => (if t161 = true then ((spec_l02Share.f ((rd_T138 l0 0).f4)).bind fun t164 => (if t164 = true then ((spec_l02Share.f ((rd_T138 l0 0).f5)).bind fun t167 => (some t167)) else (some false))) else (some false))) else (some false))) = some r := by rw [if_pos rfl] at H; exact H
    clear H
    have H := H1
    clear H1
    replace H := Option.bind_eq_some_iff.mp H
    obtain ⟨t158, A70, H⟩ := H
    replace H : (if t158 = true then ((spec_l02Least.f ((rd_T138 l0 0).f3)).bind fun t161 => (if t161 = true then ((spec_l02Share.f ((rd_T138 l0 0).f4)).bind fun t164 => (if t164 = true then ((spec_l02Share.f ((rd_T138 l0 0).f5)).bind fun t167 => (some t167)) else (some false))) else (some false))) else (some false)) = some r := H
    have A7 := Aside0.mk A70
    clear A70
    by_cases c8 : t158 = true
    ·subst c8
     have H1 : ((spec_l02Least.f ((rd_T138 l0 0).f3)).bind fun t161 => (if t161 = true then ((spec_l02Share.f ((rd_T138 l0 0).f4)).bind fun t164 => (if t164 = true then ((spec_l02Share.f ((rd_T138 l0 0).f5)).bind fun t167 => (some t167)) else (some false))) else (some false))) = some r := by rw [if_pos rfl] at H; exact H
     clear H
     have H := H1
     clear H1
     replace H := Option.bind_eq_some_iff.mp H
     obtain ⟨t161, A90, H⟩ := H
     replace H : (if t161 = true then ((spec_l02Share.f ((rd_T138 l0 0).f4)).bind fun t164 => (if t164 = true then ((spec_l02Share.f ((rd_T138 l0 0).f5)).bind fun t167 => (some t167)) else (some false))) else (some false)) = some r := H
     have A9 := Aside0.mk A90
     clear A90
     by_cases c10 : t161 = true
     ·subst c10
      have H1 : ((spec_l02Share.f ((rd_T138 l0 0).f4)).bind fun t164 => (if t164 = true then ((spec_l02Share.f ((rd_T138 l0 0).f5)).bind fun t167 => (some t167)) else (some false))) = some r := by rw [if_pos rfl] at H; exact H
      clear H
      have H := H1
      clear H1
      replace H := Option.bind_eq_some_iff.mp H
      obtain ⟨t164, A110, H⟩ := H
      replace H : (if t164 = true then ((spec_l02Share.f ((rd_T138 l0 0).f5)).bind fun t167 => (some t167)) else (some false)) = some r := H
      have A11 := Aside0.mk A110
      clear A110
      by_cases c12 : t164 = true
      ·subst c12
       have H1 : ((spec_l02Share.f ((rd_T138 l0 0).f5)).bind fun t167 => (some t167)) = some r := by rw [if_pos rfl] at H; exact H
       clear H
       have H := H1
       clear H1
       replace H := Option.bind_eq_some_iff.mp H
       obtain ⟨t167, A130, H⟩ := H
       replace H : (some t167) = some r := H
       have A13 := Aside0.mk A130
       clear A130
       obtain rfl := Option.some.inj H
       have p150 : 0 ≤ (0 : Int) := (by omega)
       have q150 : 0 < (l0.length : Int) := of_decide_eq_true (by first | (with_reducible assumption) | assumption)
       obtain ⟨ad150, A150_1, c150_1, e150, hx150_0, hx150_1, hx150_2, hx150_3, hx150_4, hx150_5, hl150_1, hi150_1⟩ := at_T138 HR0.out 0 p150 q150
       cases e150
       have qi150 : (0 < l0.length) = True := eq_true (by omega)
       (try rw [show ((0 : Int)).toNat = 0 from rfl] at hx150_0)
       (try rw [show 0 * 6 = 0 from rfl] at hx150_0)
       (try rw [Addr.add_zero'] at hx150_0)
       (try rw [show ((0 : Int)).toNat = 0 from rfl] at hx150_1)
       (try rw [show 0 * 6 = 0 from rfl] at hx150_1)
       (try rw [Addr.add_zero'] at hx150_1)
       (try rw [show ((0 : Int)).toNat = 0 from rfl] at hx150_2)
       (try rw [show 0 * 6 = 0 from rfl] at hx150_2)
       (try rw [Addr.add_zero'] at hx150_2)
       (try rw [show ((0 : Int)).toNat = 0 from rfl] at hx150_3)
       (try rw [show 0 * 6 = 0 from rfl] at hx150_3)
       (try rw [Addr.add_zero'] at hx150_3)
       (try rw [show ((0 : Int)).toNat = 0 from rfl] at hx150_4)
       (try rw [show 0 * 6 = 0 from rfl] at hx150_4)
       (try rw [Addr.add_zero'] at hx150_4)
       (try rw [show ((0 : Int)).toNat = 0 from rfl] at hx150_5)
       (try rw [show 0 * 6 = 0 from rfl] at hx150_5)
       (try rw [Addr.add_zero'] at hx150_5)
       have HR150_1 := Aside0.mk hi150_1
       have HC150_1 := Aside0.mk hl150_1
       clear hi150_1 hl150_1
       replace p150 := eq_true p150
       replace q150 := eq_true q150
       have p151 : 0 ≤ (0 : Int) := (by omega)
       have q151 : 0 < (l0.length : Int) := of_decide_eq_true (by first | (with_reducible assumption) | assumption)
       obtain ⟨ad151, A151_1, c151_1, e151, hx151_0, hx151_1, hx151_2, hx151_3, hx151_4, hx151_5, hl151_1, hi151_1⟩ := at_T138 HR0.out 0 p151 q151
       obtain rfl : ad150 = ad151 := (by injection e151)
       have qi151 : (0 < l0.length) = True := eq_true (by omega)
       (try rw [show ((0 : Int)).toNat = 0 from rfl] at hx151_0)
       (try rw [show 0 * 6 = 0 from rfl] at hx151_0)
       (try rw [Addr.add_zero'] at hx151_0)
       (try rw [show ((0 : Int)).toNat = 0 from rfl] at hx151_1)
       (try rw [show 0 * 6 = 0 from rfl] at hx151_1)
       (try rw [Addr.add_zero'] at hx151_1)
       (try rw [show ((0 : Int)).toNat = 0 from rfl] at hx151_2)
       (try rw [show 0 * 6 = 0 from rfl] at hx151_2)
       (try rw [Addr.add_zero'] at hx151_2)
       (try rw [show ((0 : Int)).toNat = 0 from rfl] at hx151_3)
       (try rw [show 0 * 6 = 0 from rfl] at hx151_3)
       (try rw [Addr.add_zero'] at hx151_3)
       (try rw [show ((0 : Int)).toNat = 0 from rfl] at hx151_4)
       (try rw [show 0 * 6 = 0 from rfl] at hx151_4)
       (try rw [Addr.add_zero'] at hx151_4)
       (try rw [show ((0 : Int)).toNat = 0 from rfl] at hx151_5)
       (try rw [show 0 * 6 = 0 from rfl] at hx151_5)
       (try rw [Addr.add_zero'] at hx151_5)
       have HR151_1 := Aside0.mk hi151_1
       have HC151_1 := Aside0.mk hl151_1
       clear hi151_1 hl151_1
       replace p151 := eq_true p151
       replace q151 := eq_true q151
       have ea_ := Option.some.inj (hx150_1.symm.trans hx151_1)
       injection ea_ with ea_ en_ ec_
       subst ea_
       subst ec_
       clear en_
       go_enter Try.func166, Try.ntmps166
       go_wp2_with (first | ((with_reducible refine gate_callee (f := 197) rfl ?_); refine goesL_ (some 7) rfl rfl Try.func197 (by kernel_rfl) rfl #[.string ((rd_T138 l0 0).f0)] rfl (by (try simp only [List.map_toArray, List.map_cons, List.map_nil]); first | done | rfl | (simp only [List.length_drop, List.length_take]; rfl)) ?_; (with_reducible refine (spec_l06Name.calls k ((rd_T138 l0 0).f0) true _ A3.out).mono ?_); rintro e w' ⟨rfl, ⟨nd, rfl⟩⟩; refine ⟨_, rfl, ?_⟩; have p153 : 0 ≤ (0 : Int) := (by omega); have q153 : 0 < (l0.length : Int) := of_decide_eq_true (by first | (with_reducible assumption) | assumption); obtain ⟨ad153, A153_1, c153_1, e153, hx153_0, hx153_1, hx153_2, hx153_3, hx153_4, hx153_5, hl153_1, hi153_1⟩ := at_T138 HR0.out 0 p153 q153; obtain rfl : ad150 = ad153 := (by injection e153); have qi153 : (0 < l0.length) = True := eq_true (by omega); (try rw [show ((0 : Int)).toNat = 0 from rfl] at hx153_0); (try rw [show 0 * 6 = 0 from rfl] at hx153_0); (try rw [Addr.add_zero'] at hx153_0); (try rw [show ((0 : Int)).toNat = 0 from rfl] at hx153_1); (try rw [show 0 * 6 = 0 from rfl] at hx153_1); (try rw [Addr.add_zero'] at hx153_1); (try rw [show ((0 : Int)).toNat = 0 from rfl] at hx153_2); (try rw [show 0 * 6 = 0 from rfl] at hx153_2); (try rw [Addr.add_zero'] at hx153_2); (try rw [show ((0 : Int)).toNat = 0 from rfl] at hx153_3); (try rw [show 0 * 6 = 0 from rfl] at hx153_3); (try rw [Addr.add_zero'] at hx153_3); (try rw [show ((0 : Int)).toNat = 0 from rfl] at hx153_4); (try rw [show 0 * 6 = 0 from rfl] at hx153_4); (try rw [Addr.add_zero'] at hx153_4); (try rw [show ((0 : Int)).toNat = 0 from rfl] at hx153_5); (try rw [show 0 * 6 = 0 from rfl] at hx153_5); (try rw [Addr.add_zero'] at hx153_5); have HR153_1 := Aside0.mk hi153_1; have HC153_1 := Aside0.mk hl153_1; clear hi153_1 hl153_1; replace p153 := eq_true p153; replace q153 := eq_true q153; have ea_ := Option.some.inj (hx150_1.symm.trans hx153_1); injection ea_ with ea_ en_ ec_; subst ea_; subst ec_; clear en_; have p154 : 0 ≤ (0 : Int) := (by omega); have q154 : 0 < (l0.length : Int) := of_decide_eq_true (by first | (with_reducible assumption) | assumption); obtain ⟨ad154, A154_1, c154_1, e154, hx154_0, hx154_1, hx154_2, hx154_3, hx154_4, hx154_5, hl154_1, hi154_1⟩ := at_T138 HR0.out 0 p154 q154; obtain rfl : ad150 = ad154 := (by injection e154); have qi154 : (0 < l0.length) = True := eq_true (by omega); (try rw [show ((0 : Int)).toNat = 0 from rfl] at hx154_0); (try rw [show 0 * 6 = 0 from rfl] at hx154_0); (try rw [Addr.add_zero'] at hx154_0); (try rw [show ((0 : Int)).toNat = 0 from rfl] at hx154_1); (try rw [show 0 * 6 = 0 from rfl] at hx154_1); (try rw [Addr.add_zero'] at hx154_1); (try rw [show ((0 : Int)).toNat = 0 from rfl] at hx154_2); (try rw [show 0 * 6 = 0 from rfl] at hx154_2); (try rw [Addr.add_zero'] at hx154_2); (try rw [show ((0 : Int)).toNat = 0 from rfl] at hx154_3); (try rw [show 0 * 6 = 0 from rfl] at hx154_3); (try rw [Addr.add_zero'] at hx154_3); (try rw [show ((0 : Int)).toNat = 0 from rfl] at hx154_4); (try rw [show 0 * 6 = 0 from rfl] at hx154_4); (try rw [Addr.add_zero'] at hx154_4); (try rw [show ((0 : Int)).toNat = 0 from rfl] at hx154_5); (try rw [show 0 * 6 = 0 from rfl] at hx154_5); (try rw [Addr.add_zero'] at hx154_5); have HR154_1 := Aside0.mk hi154_1; have HC154_1 := Aside0.mk hl154_1; clear hi154_1 hl154_1; replace p154 := eq_true p154; replace q154 := eq_true q154; have ea_ := Option.some.inj (hx150_1.symm.trans hx154_1); injection ea_ with ea_ en_ ec_; subst ea_; subst ec_; clear en_) | (go_at_call 198; (with_reducible refine (spec_l02Areas.calls k _ _ ((rd_T138 l0 0).f1) true _ ?side1 ?side2 A5.out).mono ?_); (case side1 => repeat (first | exact HR154_1.out | (with_reducible refine Kd.C_alloc ?_ _) | (with_reducible refine Kd.C_drewN ?_ _) | (with_reducible refine Kd.C_drew ?_))); (case side2 => exact HC154_1.out); rintro e w' ⟨rfl, ⟨nd, rfl⟩⟩; have p156 : 0 ≤ (0 : Int) := (by omega); have q156 : 0 < (l0.length : Int) := of_decide_eq_true (by first | (with_reducible assumption) | assumption); obtain ⟨ad156, A156_1, c156_1, e156, hx156_0, hx156_1, hx156_2, hx156_3, hx156_4, hx156_5, hl156_1, hi156_1⟩ := at_T138 HR0.out 0 p156 q156; obtain rfl : ad150 = ad156 := (by injection e156); have qi156 : (0 < l0.length) = True := eq_true (by omega); (try rw [show ((0 : Int)).toNat = 0 from rfl] at hx156_0); (try rw [show 0 * 6 = 0 from rfl] at hx156_0); (try rw [Addr.add_zero'] at hx156_0); (try rw [show ((0 : Int)).toNat = 0 from rfl] at hx156_1); (try rw [show 0 * 6 = 0 from rfl] at hx156_1); (try rw [Addr.add_zero'] at hx156_1); (try rw [show ((0 : Int)).toNat = 0 from rfl] at hx156_2); (try rw [show 0 * 6 = 0 from rfl] at hx156_2); (try rw [Addr.add_zero'] at hx156_2); (try rw [show ((0 : Int)).toNat = 0 from rfl] at hx156_3); (try rw [show 0 * 6 = 0 from rfl] at hx156_3); (try rw [Addr.add_zero'] at hx156_3); (try rw [show ((0 : Int)).toNat = 0 from rfl] at hx156_4); (try rw [show 0 * 6 = 0 from rfl] at hx156_4); (try rw [Addr.add_zero'] at hx156_4); (try rw [show ((0 : Int)).toNat = 0 from rfl] at hx156_5); (try rw [show 0 * 6 = 0 from rfl] at hx156_5); (try rw [Addr.add_zero'] at hx156_5); have HR156_1 := Aside0.mk hi156_1; have HC156_1 := Aside0.mk hl156_1; clear hi156_1 hl156_1; replace p156 := eq_true p156; replace q156 := eq_true q156; have ea_ := Option.some.inj (hx150_1.symm.trans hx156_1); injection ea_ with ea_ en_ ec_; subst ea_; subst ec_; clear en_; have p157 : 0 ≤ (0 : Int) := (by omega); have q157 : 0 < (l0.length : Int) := of_decide_eq_true (by first | (with_reducible assumption) | assumption); obtain ⟨ad157, A157_1, c157_1, e157, hx157_0, hx157_1, hx157_2, hx157_3, hx157_4, hx157_5, hl157_1, hi157_1⟩ := at_T138 HR0.out 0 p157 q157; obtain rfl : ad150 = ad157 := (by injection e157); have qi157 : (0 < l0.length) = True := eq_true (by omega); (try rw [show ((0 : Int)).toNat = 0 from rfl] at hx157_0); (try rw [show 0 * 6 = 0 from rfl] at hx157_0); (try rw [Addr.add_zero'] at hx157_0); (try rw [show ((0 : Int)).toNat = 0 from rfl] at hx157_1); (try rw [show 0 * 6 = 0 from rfl] at hx157_1); (try rw [Addr.add_zero'] at hx157_1); (try rw [show ((0 : Int)).toNat = 0 from rfl] at hx157_2); (try rw [show 0 * 6 = 0 from rfl] at hx157_2); (try rw [Addr.add_zero'] at hx157_2); (try rw [show ((0 : Int)).toNat = 0 from rfl] at hx157_3); (try rw [show 0 * 6 = 0 from rfl] at hx157_3); (try rw [Addr.add_zero'] at hx157_3); (try rw [show ((0 : Int)).toNat = 0 from rfl] at hx157_4); (try rw [show 0 * 6 = 0 from rfl] at hx157_4); (try rw [Addr.add_zero'] at hx157_4); (try rw [show ((0 : Int)).toNat = 0 from rfl] at hx157_5); (try rw [show 0 * 6 = 0 from rfl] at hx157_5); (try rw [Addr.add_zero'] at hx157_5); have HR157_1 := Aside0.mk hi157_1; have HC157_1 := Aside0.mk hl157_1; clear hi157_1 hl157_1; replace p157 := eq_true p157; replace q157 := eq_true q157; have ea_ := Option.some.inj (hx150_1.symm.trans hx157_1); injection ea_ with ea_ en_ ec_; subst ea_; subst ec_; clear en_) | (go_at_call 146; (with_reducible refine (spec_l02Above.calls ((rd_T138 l0 0).f2) true _ A7.out).mono ?_); rintro e w' ⟨rfl, ⟨nd, rfl⟩⟩; have p159 : 0 ≤ (0 : Int) := (by omega); have q159 : 0 < (l0.length : Int) := of_decide_eq_true (by first | (with_reducible assumption) | assumption); obtain ⟨ad159, A159_1, c159_1, e159, hx159_0, hx159_1, hx159_2, hx159_3, hx159_4, hx159_5, hl159_1, hi159_1⟩ := at_T138 HR0.out 0 p159 q159; obtain rfl : ad150 = ad159 := (by injection e159); have qi159 : (0 < l0.length) = True := eq_true (by omega); (try rw [show ((0 : Int)).toNat = 0 from rfl] at hx159_0); (try rw [show 0 * 6 = 0 from rfl] at hx159_0); (try rw [Addr.add_zero'] at hx159_0); (try rw [show ((0 : Int)).toNat = 0 from rfl] at hx159_1); (try rw [show 0 * 6 = 0 from rfl] at hx159_1); (try rw [Addr.add_zero'] at hx159_1); (try rw [show ((0 : Int)).toNat = 0 from rfl] at hx159_2); (try rw [show 0 * 6 = 0 from rfl] at hx159_2); (try rw [Addr.add_zero'] at hx159_2); (try rw [show ((0 : Int)).toNat = 0 from rfl] at hx159_3); (try rw [show 0 * 6 = 0 from rfl] at hx159_3); (try rw [Addr.add_zero'] at hx159_3); (try rw [show ((0 : Int)).toNat = 0 from rfl] at hx159_4); (try rw [show 0 * 6 = 0 from rfl] at hx159_4); (try rw [Addr.add_zero'] at hx159_4); (try rw [show ((0 : Int)).toNat = 0 from rfl] at hx159_5); (try rw [show 0 * 6 = 0 from rfl] at hx159_5); (try rw [Addr.add_zero'] at hx159_5); have HR159_1 := Aside0.mk hi159_1; have HC159_1 := Aside0.mk hl159_1; clear hi159_1 hl159_1; replace p159 := eq_true p159; replace q159 := eq_true q159; have ea_ := Option.some.inj (hx150_1.symm.trans hx159_1); injection ea_ with ea_ en_ ec_; subst ea_; subst ec_; clear en_; have p160 : 0 ≤ (0 : Int) := (by omega); have q160 : 0 < (l0.length : Int) := of_decide_eq_true (by first | (with_reducible assumption) | assumption); obtain ⟨ad160, A160_1, c160_1, e160, hx160_0, hx160_1, hx160_2, hx160_3, hx160_4, hx160_5, hl160_1, hi160_1⟩ := at_T138 HR0.out 0 p160 q160; obtain rfl : ad150 = ad160 := (by injection e160); have qi160 : (0 < l0.length) = True := eq_true (by omega); (try rw [show ((0 : Int)).toNat = 0 from rfl] at hx160_0); (try rw [show 0 * 6 = 0 from rfl] at hx160_0); (try rw [Addr.add_zero'] at hx160_0); (try rw [show ((0 : Int)).toNat = 0 from rfl] at hx160_1); (try rw [show 0 * 6 = 0 from rfl] at hx160_1); (try rw [Addr.add_zero'] at hx160_1); (try rw [show ((0 : Int)).toNat = 0 from rfl] at hx160_2); (try rw [show 0 * 6 = 0 from rfl] at hx160_2); (try rw [Addr.add_zero'] at hx160_2); (try rw [show ((0 : Int)).toNat = 0 from rfl] at hx160_3); (try rw [show 0 * 6 = 0 from rfl] at hx160_3); (try rw [Addr.add_zero'] at hx160_3); (try rw [show ((0 : Int)).toNat = 0 from rfl] at hx160_4); (try rw [show 0 * 6 = 0 from rfl] at hx160_4); (try rw [Addr.add_zero'] at hx160_4); (try rw [show ((0 : Int)).toNat = 0 from rfl] at hx160_5); (try rw [show 0 * 6 = 0 from rfl] at hx160_5); (try rw [Addr.add_zero'] at hx160_5); have HR160_1 := Aside0.mk hi160_1; have HC160_1 := Aside0.mk hl160_1; clear hi160_1 hl160_1; replace p160 := eq_true p160; replace q160 := eq_true q160; have ea_ := Option.some.inj (hx150_1.symm.trans hx160_1); injection ea_ with ea_ en_ ec_; subst ea_; subst ec_; clear en_) | (go_at_call 199; (with_reducible refine (spec_l02Least.calls ((rd_T138 l0 0).f3) true _ A9.out).mono ?_); rintro e w' ⟨rfl, ⟨nd, rfl⟩⟩; have p162 : 0 ≤ (0 : Int) := (by omega); have q162 : 0 < (l0.length : Int) := of_decide_eq_true (by first | (with_reducible assumption) | assumption); obtain ⟨ad162, A162_1, c162_1, e162, hx162_0, hx162_1, hx162_2, hx162_3, hx162_4, hx162_5, hl162_1, hi162_1⟩ := at_T138 HR0.out 0 p162 q162; obtain rfl : ad150 = ad162 := (by injection e162); have qi162 : (0 < l0.length) = True := eq_true (by omega); (try rw [show ((0 : Int)).toNat = 0 from rfl] at hx162_0); (try rw [show 0 * 6 = 0 from rfl] at hx162_0); (try rw [Addr.add_zero'] at hx162_0); (try rw [show ((0 : Int)).toNat = 0 from rfl] at hx162_1); (try rw [show 0 * 6 = 0 from rfl] at hx162_1); (try rw [Addr.add_zero'] at hx162_1); (try rw [show ((0 : Int)).toNat = 0 from rfl] at hx162_2); (try rw [show 0 * 6 = 0 from rfl] at hx162_2); (try rw [Addr.add_zero'] at hx162_2); (try rw [show ((0 : Int)).toNat = 0 from rfl] at hx162_3); (try rw [show 0 * 6 = 0 from rfl] at hx162_3); (try rw [Addr.add_zero'] at hx162_3); (try rw [show ((0 : Int)).toNat = 0 from rfl] at hx162_4); (try rw [show 0 * 6 = 0 from rfl] at hx162_4); (try rw [Addr.add_zero'] at hx162_4); (try rw [show ((0 : Int)).toNat = 0 from rfl] at hx162_5); (try rw [show 0 * 6 = 0 from rfl] at hx162_5); (try rw [Addr.add_zero'] at hx162_5); have HR162_1 := Aside0.mk hi162_1; have HC162_1 := Aside0.mk hl162_1; clear hi162_1 hl162_1; replace p162 := eq_true p162; replace q162 := eq_true q162; have ea_ := Option.some.inj (hx150_1.symm.trans hx162_1); injection ea_ with ea_ en_ ec_; subst ea_; subst ec_; clear en_; have p163 : 0 ≤ (0 : Int) := (by omega); have q163 : 0 < (l0.length : Int) := of_decide_eq_true (by first | (with_reducible assumption) | assumption); obtain ⟨ad163, A163_1, c163_1, e163, hx163_0, hx163_1, hx163_2, hx163_3, hx163_4, hx163_5, hl163_1, hi163_1⟩ := at_T138 HR0.out 0 p163 q163; obtain rfl : ad150 = ad163 := (by injection e163); have qi163 : (0 < l0.length) = True := eq_true (by omega); (try rw [show ((0 : Int)).toNat = 0 from rfl] at hx163_0); (try rw [show 0 * 6 = 0 from rfl] at hx163_0); (try rw [Addr.add_zero'] at hx163_0); (try rw [show ((0 : Int)).toNat = 0 from rfl] at hx163_1); (try rw [show 0 * 6 = 0 from rfl] at hx163_1); (try rw [Addr.add_zero'] at hx163_1); (try rw [show ((0 : Int)).toNat = 0 from rfl] at hx163_2); (try rw [show 0 * 6 = 0 from rfl] at hx163_2); (try rw [Addr.add_zero'] at hx163_2); (try rw [show ((0 : Int)).toNat = 0 from rfl] at hx163_3); (try rw [show 0 * 6 = 0 from rfl] at hx163_3); (try rw [Addr.add_zero'] at hx163_3); (try rw [show ((0 : Int)).toNat = 0 from rfl] at hx163_4); (try rw [show 0 * 6 = 0 from rfl] at hx163_4); (try rw [Addr.add_zero'] at hx163_4); (try rw [show ((0 : Int)).toNat = 0 from rfl] at hx163_5); (try rw [show 0 * 6 = 0 from rfl] at hx163_5); (try rw [Addr.add_zero'] at hx163_5); have HR163_1 := Aside0.mk hi163_1; have HC163_1 := Aside0.mk hl163_1; clear hi163_1 hl163_1; replace p163 := eq_true p163; replace q163 := eq_true q163; have ea_ := Option.some.inj (hx150_1.symm.trans hx163_1); injection ea_ with ea_ en_ ec_; subst ea_; subst ec_; clear en_) | (go_at_call 188; (with_reducible refine (spec_l02Share.calls ((rd_T138 l0 0).f4) true _ A11.out).mono ?_); rintro e w' ⟨rfl, ⟨nd, rfl⟩⟩; have p165 : 0 ≤ (0 : Int) := (by omega); have q165 : 0 < (l0.length : Int) := of_decide_eq_true (by first | (with_reducible assumption) | assumption); obtain ⟨ad165, A165_1, c165_1, e165, hx165_0, hx165_1, hx165_2, hx165_3, hx165_4, hx165_5, hl165_1, hi165_1⟩ := at_T138 HR0.out 0 p165 q165; obtain rfl : ad150 = ad165 := (by injection e165); have qi165 : (0 < l0.length) = True := eq_true (by omega); (try rw [show ((0 : Int)).toNat = 0 from rfl] at hx165_0); (try rw [show 0 * 6 = 0 from rfl] at hx165_0); (try rw [Addr.add_zero'] at hx165_0); (try rw [show ((0 : Int)).toNat = 0 from rfl] at hx165_1); (try rw [show 0 * 6 = 0 from rfl] at hx165_1); (try rw [Addr.add_zero'] at hx165_1); (try rw [show ((0 : Int)).toNat = 0 from rfl] at hx165_2); (try rw [show 0 * 6 = 0 from rfl] at hx165_2); (try rw [Addr.add_zero'] at hx165_2); (try rw [show ((0 : Int)).toNat = 0 from rfl] at hx165_3); (try rw [show 0 * 6 = 0 from rfl] at hx165_3); (try rw [Addr.add_zero'] at hx165_3); (try rw [show ((0 : Int)).toNat = 0 from rfl] at hx165_4); (try rw [show 0 * 6 = 0 from rfl] at hx165_4); (try rw [Addr.add_zero'] at hx165_4); (try rw [show ((0 : Int)).toNat = 0 from rfl] at hx165_5); (try rw [show 0 * 6 = 0 from rfl] at hx165_5); (try rw [Addr.add_zero'] at hx165_5); have HR165_1 := Aside0.mk hi165_1; have HC165_1 := Aside0.mk hl165_1; clear hi165_1 hl165_1; replace p165 := eq_true p165; replace q165 := eq_true q165; have ea_ := Option.some.inj (hx150_1.symm.trans hx165_1); injection ea_ with ea_ en_ ec_; subst ea_; subst ec_; clear en_; have p166 : 0 ≤ (0 : Int) := (by omega); have q166 : 0 < (l0.length : Int) := of_decide_eq_true (by first | (with_reducible assumption) | assumption); obtain ⟨ad166, A166_1, c166_1, e166, hx166_0, hx166_1, hx166_2, hx166_3, hx166_4, hx166_5, hl166_1, hi166_1⟩ := at_T138 HR0.out 0 p166 q166; obtain rfl : ad150 = ad166 := (by injection e166); have qi166 : (0 < l0.length) = True := eq_true (by omega); (try rw [show ((0 : Int)).toNat = 0 from rfl] at hx166_0); (try rw [show 0 * 6 = 0 from rfl] at hx166_0); (try rw [Addr.add_zero'] at hx166_0); (try rw [show ((0 : Int)).toNat = 0 from rfl] at hx166_1); (try rw [show 0 * 6 = 0 from rfl] at hx166_1); (try rw [Addr.add_zero'] at hx166_1); (try rw [show ((0 : Int)).toNat = 0 from rfl] at hx166_2); (try rw [show 0 * 6 = 0 from rfl] at hx166_2); (try rw [Addr.add_zero'] at hx166_2); (try rw [show ((0 : Int)).toNat = 0 from rfl] at hx166_3); (try rw [show 0 * 6 = 0 from rfl] at hx166_3); (try rw [Addr.add_zero'] at hx166_3); (try rw [show ((0 : Int)).toNat = 0 from rfl] at hx166_4); (try rw [show 0 * 6 = 0 from rfl] at hx166_4); (try rw [Addr.add_zero'] at hx166_4); (try rw [show ((0 : Int)).toNat = 0 from rfl] at hx166_5); (try rw [show 0 * 6 = 0 from rfl] at hx166_5); (try rw [Addr.add_zero'] at hx166_5); have HR166_1 := Aside0.mk hi166_1; have HC166_1 := Aside0.mk hl166_1; clear hi166_1 hl166_1; replace p166 := eq_true p166; replace q166 := eq_true q166; have ea_ := Option.some.inj (hx150_1.symm.trans hx166_1); injection ea_ with ea_ en_ ec_; subst ea_; subst ec_; clear en_) | (go_at_call 188; (with_reducible refine (spec_l02Share.calls ((rd_T138 l0 0).f5) t167 _ A13.out).mono ?_); rintro e w' ⟨rfl, ⟨nd, rfl⟩⟩))
       go_ret
       exact ⟨by first | rfl | (simp; done) | (simp [*]; done), by repeat (first | exact Drawn0.refl _ | apply Drawn0.step)⟩
      ·replace c12 := Bool.eq_false_iff.mpr c12
       subst c12
       have H1 : (some false) = some r := by rw [if_neg (show ¬ (false = true) by decide)] at H; exact H
       clear H
       have H := H1
       clear H1
       obtain rfl := Option.some.inj H
       have p150 : 0 ≤ (0 : Int) := (by omega)
       have q150 : 0 < (l0.length : Int) := of_decide_eq_true (by first | (with_reducible assumption) | assumption)
       obtain ⟨ad150, A150_1, c150_1, e150, hx150_0, hx150_1, hx150_2, hx150_3, hx150_4, hx150_5, hl150_1, hi150_1⟩ := at_T138 HR0.out 0 p150 q150
       cases e150
       have qi150 : (0 < l0.length) = True := eq_true (by omega)
       (try rw [show ((0 : Int)).toNat = 0 from rfl] at hx150_0)
       (try rw [show 0 * 6 = 0 from rfl] at hx150_0)
       (try rw [Addr.add_zero'] at hx150_0)
       (try rw [show ((0 : Int)).toNat = 0 from rfl] at hx150_1)
       (try rw [show 0 * 6 = 0 from rfl] at hx150_1)
       (try rw [Addr.add_zero'] at hx150_1)
       (try rw [show ((0 : Int)).toNat = 0 from rfl] at hx150_2)
       (try rw [show 0 * 6 = 0 from rfl] at hx150_2)
       (try rw [Addr.add_zero'] at hx150_2)
       (try rw [show ((0 : Int)).toNat = 0 from rfl] at hx150_3)
       (try rw [show 0 * 6 = 0 from rfl] at hx150_3)
       (try rw [Addr.add_zero'] at hx150_3)
       (try rw [show ((0 : Int)).toNat = 0 from rfl] at hx150_4)
       (try rw [show 0 * 6 = 0 from rfl] at hx150_4)
       (try rw [Addr.add_zero'] at hx150_4)
       (try rw [show ((0 : Int)).toNat = 0 from rfl] at hx150_5)
       (try rw [show 0 * 6 = 0 from rfl] at hx150_5)
       (try rw [Addr.add_zero'] at hx150_5)
       have HR150_1 := Aside0.mk hi150_1
       have HC150_1 := Aside0.mk hl150_1
       clear hi150_1 hl150_1
       replace p150 := eq_true p150
       replace q150 := eq_true q150
       have p151 : 0 ≤ (0 : Int) := (by omega)
       have q151 : 0 < (l0.length : Int) := of_decide_eq_true (by first | (with_reducible assumption) | assumption)
       obtain ⟨ad151, A151_1, c151_1, e151, hx151_0, hx151_1, hx151_2, hx151_3, hx151_4, hx151_5, hl151_1, hi151_1⟩ := at_T138 HR0.out 0 p151 q151
       obtain rfl : ad150 = ad151 := (by injection e151)
       have qi151 : (0 < l0.length) = True := eq_true (by omega)
       (try rw [show ((0 : Int)).toNat = 0 from rfl] at hx151_0)
       (try rw [show 0 * 6 = 0 from rfl] at hx151_0)
       (try rw [Addr.add_zero'] at hx151_0)
       (try rw [show ((0 : Int)).toNat = 0 from rfl] at hx151_1)
       (try rw [show 0 * 6 = 0 from rfl] at hx151_1)
       (try rw [Addr.add_zero'] at hx151_1)
       (try rw [show ((0 : Int)).toNat = 0 from rfl] at hx151_2)
       (try rw [show 0 * 6 = 0 from rfl] at hx151_2)
       (try rw [Addr.add_zero'] at hx151_2)
       (try rw [show ((0 : Int)).toNat = 0 from rfl] at hx151_3)
       (try rw [show 0 * 6 = 0 from rfl] at hx151_3)
       (try rw [Addr.add_zero'] at hx151_3)
       (try rw [show ((0 : Int)).toNat = 0 from rfl] at hx151_4)
       (try rw [show 0 * 6 = 0 from rfl] at hx151_4)
       (try rw [Addr.add_zero'] at hx151_4)
       (try rw [show ((0 : Int)).toNat = 0 from rfl] at hx151_5)
       (try rw [show 0 * 6 = 0 from rfl] at hx151_5)
       (try rw [Addr.add_zero'] at hx151_5)
       have HR151_1 := Aside0.mk hi151_1
       have HC151_1 := Aside0.mk hl151_1
       clear hi151_1 hl151_1
       replace p151 := eq_true p151
       replace q151 := eq_true q151
       have ea_ := Option.some.inj (hx150_1.symm.trans hx151_1)
       injection ea_ with ea_ en_ ec_
       subst ea_
       subst ec_
       clear en_
       go_enter Try.func166, Try.ntmps166
       go_wp2_with (first | ((with_reducible refine gate_callee (f := 197) rfl ?_); refine goesL_ (some 7) rfl rfl Try.func197 (by kernel_rfl) rfl #[.string ((rd_T138 l0 0).f0)] rfl (by (try simp only [List.map_toArray, List.map_cons, List.map_nil]); first | done | rfl | (simp only [List.length_drop, List.length_take]; rfl)) ?_; (with_reducible refine (spec_l06Name.calls k ((rd_T138 l0 0).f0) true _ A3.out).mono ?_); rintro e w' ⟨rfl, ⟨nd, rfl⟩⟩; refine ⟨_, rfl, ?_⟩; have p153 : 0 ≤ (0 : Int) := (by omega); have q153 : 0 < (l0.length : Int) := of_decide_eq_true (by first | (with_reducible assumption) | assumption); obtain ⟨ad153, A153_1, c153_1, e153, hx153_0, hx153_1, hx153_2, hx153_3, hx153_4, hx153_5, hl153_1, hi153_1⟩ := at_T138 HR0.out 0 p153 q153; obtain rfl : ad150 = ad153 := (by injection e153); have qi153 : (0 < l0.length) = True := eq_true (by omega); (try rw [show ((0 : Int)).toNat = 0 from rfl] at hx153_0); (try rw [show 0 * 6 = 0 from rfl] at hx153_0); (try rw [Addr.add_zero'] at hx153_0); (try rw [show ((0 : Int)).toNat = 0 from rfl] at hx153_1); (try rw [show 0 * 6 = 0 from rfl] at hx153_1); (try rw [Addr.add_zero'] at hx153_1); (try rw [show ((0 : Int)).toNat = 0 from rfl] at hx153_2); (try rw [show 0 * 6 = 0 from rfl] at hx153_2); (try rw [Addr.add_zero'] at hx153_2); (try rw [show ((0 : Int)).toNat = 0 from rfl] at hx153_3); (try rw [show 0 * 6 = 0 from rfl] at hx153_3); (try rw [Addr.add_zero'] at hx153_3); (try rw [show ((0 : Int)).toNat = 0 from rfl] at hx153_4); (try rw [show 0 * 6 = 0 from rfl] at hx153_4); (try rw [Addr.add_zero'] at hx153_4); (try rw [show ((0 : Int)).toNat = 0 from rfl] at hx153_5); (try rw [show 0 * 6 = 0 from rfl] at hx153_5); (try rw [Addr.add_zero'] at hx153_5); have HR153_1 := Aside0.mk hi153_1; have HC153_1 := Aside0.mk hl153_1; clear hi153_1 hl153_1; replace p153 := eq_true p153; replace q153 := eq_true q153; have ea_ := Option.some.inj (hx150_1.symm.trans hx153_1); injection ea_ with ea_ en_ ec_; subst ea_; subst ec_; clear en_; have p154 : 0 ≤ (0 : Int) := (by omega); have q154 : 0 < (l0.length : Int) := of_decide_eq_true (by first | (with_reducible assumption) | assumption); obtain ⟨ad154, A154_1, c154_1, e154, hx154_0, hx154_1, hx154_2, hx154_3, hx154_4, hx154_5, hl154_1, hi154_1⟩ := at_T138 HR0.out 0 p154 q154; obtain rfl : ad150 = ad154 := (by injection e154); have qi154 : (0 < l0.length) = True := eq_true (by omega); (try rw [show ((0 : Int)).toNat = 0 from rfl] at hx154_0); (try rw [show 0 * 6 = 0 from rfl] at hx154_0); (try rw [Addr.add_zero'] at hx154_0); (try rw [show ((0 : Int)).toNat = 0 from rfl] at hx154_1); (try rw [show 0 * 6 = 0 from rfl] at hx154_1); (try rw [Addr.add_zero'] at hx154_1); (try rw [show ((0 : Int)).toNat = 0 from rfl] at hx154_2); (try rw [show 0 * 6 = 0 from rfl] at hx154_2); (try rw [Addr.add_zero'] at hx154_2); (try rw [show ((0 : Int)).toNat = 0 from rfl] at hx154_3); (try rw [show 0 * 6 = 0 from rfl] at hx154_3); (try rw [Addr.add_zero'] at hx154_3); (try rw [show ((0 : Int)).toNat = 0 from rfl] at hx154_4); (try rw [show 0 * 6 = 0 from rfl] at hx154_4); (try rw [Addr.add_zero'] at hx154_4); (try rw [show ((0 : Int)).toNat = 0 from rfl] at hx154_5); (try rw [show 0 * 6 = 0 from rfl] at hx154_5); (try rw [Addr.add_zero'] at hx154_5); have HR154_1 := Aside0.mk hi154_1; have HC154_1 := Aside0.mk hl154_1; clear hi154_1 hl154_1; replace p154 := eq_true p154; replace q154 := eq_true q154; have ea_ := Option.some.inj (hx150_1.symm.trans hx154_1); injection ea_ with ea_ en_ ec_; subst ea_; subst ec_; clear en_) | (go_at_call 198; (with_reducible refine (spec_l02Areas.calls k _ _ ((rd_T138 l0 0).f1) true _ ?side1 ?side2 A5.out).mono ?_); (case side1 => repeat (first | exact HR154_1.out | (with_reducible refine Kd.C_alloc ?_ _) | (with_reducible refine Kd.C_drewN ?_ _) | (with_reducible refine Kd.C_drew ?_))); (case side2 => exact HC154_1.out); rintro e w' ⟨rfl, ⟨nd, rfl⟩⟩; have p156 : 0 ≤ (0 : Int) := (by omega); have q156 : 0 < (l0.length : Int) := of_decide_eq_true (by first | (with_reducible assumption) | assumption); obtain ⟨ad156, A156_1, c156_1, e156, hx156_0, hx156_1, hx156_2, hx156_3, hx156_4, hx156_5, hl156_1, hi156_1⟩ := at_T138 HR0.out 0 p156 q156; obtain rfl : ad150 = ad156 := (by injection e156); have qi156 : (0 < l0.length) = True := eq_true (by omega); (try rw [show ((0 : Int)).toNat = 0 from rfl] at hx156_0); (try rw [show 0 * 6 = 0 from rfl] at hx156_0); (try rw [Addr.add_zero'] at hx156_0); (try rw [show ((0 : Int)).toNat = 0 from rfl] at hx156_1); (try rw [show 0 * 6 = 0 from rfl] at hx156_1); (try rw [Addr.add_zero'] at hx156_1); (try rw [show ((0 : Int)).toNat = 0 from rfl] at hx156_2); (try rw [show 0 * 6 = 0 from rfl] at hx156_2); (try rw [Addr.add_zero'] at hx156_2); (try rw [show ((0 : Int)).toNat = 0 from rfl] at hx156_3); (try rw [show 0 * 6 = 0 from rfl] at hx156_3); (try rw [Addr.add_zero'] at hx156_3); (try rw [show ((0 : Int)).toNat = 0 from rfl] at hx156_4); (try rw [show 0 * 6 = 0 from rfl] at hx156_4); (try rw [Addr.add_zero'] at hx156_4); (try rw [show ((0 : Int)).toNat = 0 from rfl] at hx156_5); (try rw [show 0 * 6 = 0 from rfl] at hx156_5); (try rw [Addr.add_zero'] at hx156_5); have HR156_1 := Aside0.mk hi156_1; have HC156_1 := Aside0.mk hl156_1; clear hi156_1 hl156_1; replace p156 := eq_true p156; replace q156 := eq_true q156; have ea_ := Option.some.inj (hx150_1.symm.trans hx156_1); injection ea_ with ea_ en_ ec_; subst ea_; subst ec_; clear en_; have p157 : 0 ≤ (0 : Int) := (by omega); have q157 : 0 < (l0.length : Int) := of_decide_eq_true (by first | (with_reducible assumption) | assumption); obtain ⟨ad157, A157_1, c157_1, e157, hx157_0, hx157_1, hx157_2, hx157_3, hx157_4, hx157_5, hl157_1, hi157_1⟩ := at_T138 HR0.out 0 p157 q157; obtain rfl : ad150 = ad157 := (by injection e157); have qi157 : (0 < l0.length) = True := eq_true (by omega); (try rw [show ((0 : Int)).toNat = 0 from rfl] at hx157_0); (try rw [show 0 * 6 = 0 from rfl] at hx157_0); (try rw [Addr.add_zero'] at hx157_0); (try rw [show ((0 : Int)).toNat = 0 from rfl] at hx157_1); (try rw [show 0 * 6 = 0 from rfl] at hx157_1); (try rw [Addr.add_zero'] at hx157_1); (try rw [show ((0 : Int)).toNat = 0 from rfl] at hx157_2); (try rw [show 0 * 6 = 0 from rfl] at hx157_2); (try rw [Addr.add_zero'] at hx157_2); (try rw [show ((0 : Int)).toNat = 0 from rfl] at hx157_3); (try rw [show 0 * 6 = 0 from rfl] at hx157_3); (try rw [Addr.add_zero'] at hx157_3); (try rw [show ((0 : Int)).toNat = 0 from rfl] at hx157_4); (try rw [show 0 * 6 = 0 from rfl] at hx157_4); (try rw [Addr.add_zero'] at hx157_4); (try rw [show ((0 : Int)).toNat = 0 from rfl] at hx157_5); (try rw [show 0 * 6 = 0 from rfl] at hx157_5); (try rw [Addr.add_zero'] at hx157_5); have HR157_1 := Aside0.mk hi157_1; have HC157_1 := Aside0.mk hl157_1; clear hi157_1 hl157_1; replace p157 := eq_true p157; replace q157 := eq_true q157; have ea_ := Option.some.inj (hx150_1.symm.trans hx157_1); injection ea_ with ea_ en_ ec_; subst ea_; subst ec_; clear en_) | (go_at_call 146; (with_reducible refine (spec_l02Above.calls ((rd_T138 l0 0).f2) true _ A7.out).mono ?_); rintro e w' ⟨rfl, ⟨nd, rfl⟩⟩; have p159 : 0 ≤ (0 : Int) := (by omega); have q159 : 0 < (l0.length : Int) := of_decide_eq_true (by first | (with_reducible assumption) | assumption); obtain ⟨ad159, A159_1, c159_1, e159, hx159_0, hx159_1, hx159_2, hx159_3, hx159_4, hx159_5, hl159_1, hi159_1⟩ := at_T138 HR0.out 0 p159 q159; obtain rfl : ad150 = ad159 := (by injection e159); have qi159 : (0 < l0.length) = True := eq_true (by omega); (try rw [show ((0 : Int)).toNat = 0 from rfl] at hx159_0); (try rw [show 0 * 6 = 0 from rfl] at hx159_0); (try rw [Addr.add_zero'] at hx159_0); (try rw [show ((0 : Int)).toNat = 0 from rfl] at hx159_1); (try rw [show 0 * 6 = 0 from rfl] at hx159_1); (try rw [Addr.add_zero'] at hx159_1); (try rw [show ((0 : Int)).toNat = 0 from rfl] at hx159_2); (try rw [show 0 * 6 = 0 from rfl] at hx159_2); (try rw [Addr.add_zero'] at hx159_2); (try rw [show ((0 : Int)).toNat = 0 from rfl] at hx159_3); (try rw [show 0 * 6 = 0 from rfl] at hx159_3); (try rw [Addr.add_zero'] at hx159_3); (try rw [show ((0 : Int)).toNat = 0 from rfl] at hx159_4); (try rw [show 0 * 6 = 0 from rfl] at hx159_4); (try rw [Addr.add_zero'] at hx159_4); (try rw [show ((0 : Int)).toNat = 0 from rfl] at hx159_5); (try rw [show 0 * 6 = 0 from rfl] at hx159_5); (try rw [Addr.add_zero'] at hx159_5); have HR159_1 := Aside0.mk hi159_1; have HC159_1 := Aside0.mk hl159_1; clear hi159_1 hl159_1; replace p159 := eq_true p159; replace q159 := eq_true q159; have ea_ := Option.some.inj (hx150_1.symm.trans hx159_1); injection ea_ with ea_ en_ ec_; subst ea_; subst ec_; clear en_; have p160 : 0 ≤ (0 : Int) := (by omega); have q160 : 0 < (l0.length : Int) := of_decide_eq_true (by first | (with_reducible assumption) | assumption); obtain ⟨ad160, A160_1, c160_1, e160, hx160_0, hx160_1, hx160_2, hx160_3, hx160_4, hx160_5, hl160_1, hi160_1⟩ := at_T138 HR0.out 0 p160 q160; obtain rfl : ad150 = ad160 := (by injection e160); have qi160 : (0 < l0.length) = True := eq_true (by omega); (try rw [show ((0 : Int)).toNat = 0 from rfl] at hx160_0); (try rw [show 0 * 6 = 0 from rfl] at hx160_0); (try rw [Addr.add_zero'] at hx160_0); (try rw [show ((0 : Int)).toNat = 0 from rfl] at hx160_1); (try rw [show 0 * 6 = 0 from rfl] at hx160_1); (try rw [Addr.add_zero'] at hx160_1); (try rw [show ((0 : Int)).toNat = 0 from rfl] at hx160_2); (try rw [show 0 * 6 = 0 from rfl] at hx160_2); (try rw [Addr.add_zero'] at hx160_2); (try rw [show ((0 : Int)).toNat = 0 from rfl] at hx160_3); (try rw [show 0 * 6 = 0 from rfl] at hx160_3); (try rw [Addr.add_zero'] at hx160_3); (try rw [show ((0 : Int)).toNat = 0 from rfl] at hx160_4); (try rw [show 0 * 6 = 0 from rfl] at hx160_4); (try rw [Addr.add_zero'] at hx160_4); (try rw [show ((0 : Int)).toNat = 0 from rfl] at hx160_5); (try rw [show 0 * 6 = 0 from rfl] at hx160_5); (try rw [Addr.add_zero'] at hx160_5); have HR160_1 := Aside0.mk hi160_1; have HC160_1 := Aside0.mk hl160_1; clear hi160_1 hl160_1; replace p160 := eq_true p160; replace q160 := eq_true q160; have ea_ := Option.some.inj (hx150_1.symm.trans hx160_1); injection ea_ with ea_ en_ ec_; subst ea_; subst ec_; clear en_) | (go_at_call 199; (with_reducible refine (spec_l02Least.calls ((rd_T138 l0 0).f3) true _ A9.out).mono ?_); rintro e w' ⟨rfl, ⟨nd, rfl⟩⟩; have p162 : 0 ≤ (0 : Int) := (by omega); have q162 : 0 < (l0.length : Int) := of_decide_eq_true (by first | (with_reducible assumption) | assumption); obtain ⟨ad162, A162_1, c162_1, e162, hx162_0, hx162_1, hx162_2, hx162_3, hx162_4, hx162_5, hl162_1, hi162_1⟩ := at_T138 HR0.out 0 p162 q162; obtain rfl : ad150 = ad162 := (by injection e162); have qi162 : (0 < l0.length) = True := eq_true (by omega); (try rw [show ((0 : Int)).toNat = 0 from rfl] at hx162_0); (try rw [show 0 * 6 = 0 from rfl] at hx162_0); (try rw [Addr.add_zero'] at hx162_0); (try rw [show ((0 : Int)).toNat = 0 from rfl] at hx162_1); (try rw [show 0 * 6 = 0 from rfl] at hx162_1); (try rw [Addr.add_zero'] at hx162_1); (try rw [show ((0 : Int)).toNat = 0 from rfl] at hx162_2); (try rw [show 0 * 6 = 0 from rfl] at hx162_2); (try rw [Addr.add_zero'] at hx162_2); (try rw [show ((0 : Int)).toNat = 0 from rfl] at hx162_3); (try rw [show 0 * 6 = 0 from rfl] at hx162_3); (try rw [Addr.add_zero'] at hx162_3); (try rw [show ((0 : Int)).toNat = 0 from rfl] at hx162_4); (try rw [show 0 * 6 = 0 from rfl] at hx162_4); (try rw [Addr.add_zero'] at hx162_4); (try rw [show ((0 : Int)).toNat = 0 from rfl] at hx162_5); (try rw [show 0 * 6 = 0 from rfl] at hx162_5); (try rw [Addr.add_zero'] at hx162_5); have HR162_1 := Aside0.mk hi162_1; have HC162_1 := Aside0.mk hl162_1; clear hi162_1 hl162_1; replace p162 := eq_true p162; replace q162 := eq_true q162; have ea_ := Option.some.inj (hx150_1.symm.trans hx162_1); injection ea_ with ea_ en_ ec_; subst ea_; subst ec_; clear en_; have p163 : 0 ≤ (0 : Int) := (by omega); have q163 : 0 < (l0.length : Int) := of_decide_eq_true (by first | (with_reducible assumption) | assumption); obtain ⟨ad163, A163_1, c163_1, e163, hx163_0, hx163_1, hx163_2, hx163_3, hx163_4, hx163_5, hl163_1, hi163_1⟩ := at_T138 HR0.out 0 p163 q163; obtain rfl : ad150 = ad163 := (by injection e163); have qi163 : (0 < l0.length) = True := eq_true (by omega); (try rw [show ((0 : Int)).toNat = 0 from rfl] at hx163_0); (try rw [show 0 * 6 = 0 from rfl] at hx163_0); (try rw [Addr.add_zero'] at hx163_0); (try rw [show ((0 : Int)).toNat = 0 from rfl] at hx163_1); (try rw [show 0 * 6 = 0 from rfl] at hx163_1); (try rw [Addr.add_zero'] at hx163_1); (try rw [show ((0 : Int)).toNat = 0 from rfl] at hx163_2); (try rw [show 0 * 6 = 0 from rfl] at hx163_2); (try rw [Addr.add_zero'] at hx163_2); (try rw [show ((0 : Int)).toNat = 0 from rfl] at hx163_3); (try rw [show 0 * 6 = 0 from rfl] at hx163_3); (try rw [Addr.add_zero'] at hx163_3); (try rw [show ((0 : Int)).toNat = 0 from rfl] at hx163_4); (try rw [show 0 * 6 = 0 from rfl] at hx163_4); (try rw [Addr.add_zero'] at hx163_4); (try rw [show ((0 : Int)).toNat = 0 from rfl] at hx163_5); (try rw [show 0 * 6 = 0 from rfl] at hx163_5); (try rw [Addr.add_zero'] at hx163_5); have HR163_1 := Aside0.mk hi163_1; have HC163_1 := Aside0.mk hl163_1; clear hi163_1 hl163_1; replace p163 := eq_true p163; replace q163 := eq_true q163; have ea_ := Option.some.inj (hx150_1.symm.trans hx163_1); injection ea_ with ea_ en_ ec_; subst ea_; subst ec_; clear en_) | (go_at_call 188; (with_reducible refine (spec_l02Share.calls ((rd_T138 l0 0).f4) false _ A11.out).mono ?_); rintro e w' ⟨rfl, ⟨nd, rfl⟩⟩))
       go_ret
       exact ⟨by first | rfl | (simp; done) | (simp [*]; done), by repeat (first | exact Drawn0.refl _ | apply Drawn0.step)⟩
     ·replace c10 := Bool.eq_false_iff.mpr c10
      subst c10
      have H1 : (some false) = some r := by rw [if_neg (show ¬ (false = true) by decide)] at H; exact H
      clear H
      have H := H1
      clear H1
      obtain rfl := Option.some.inj H
      have p150 : 0 ≤ (0 : Int) := (by omega)
      have q150 : 0 < (l0.length : Int) := of_decide_eq_true (by first | (with_reducible assumption) | assumption)
      obtain ⟨ad150, A150_1, c150_1, e150, hx150_0, hx150_1, hx150_2, hx150_3, hx150_4, hx150_5, hl150_1, hi150_1⟩ := at_T138 HR0.out 0 p150 q150
      cases e150
      have qi150 : (0 < l0.length) = True := eq_true (by omega)
      (try rw [show ((0 : Int)).toNat = 0 from rfl] at hx150_0)
      (try rw [show 0 * 6 = 0 from rfl] at hx150_0)
      (try rw [Addr.add_zero'] at hx150_0)
      (try rw [show ((0 : Int)).toNat = 0 from rfl] at hx150_1)
      (try rw [show 0 * 6 = 0 from rfl] at hx150_1)
      (try rw [Addr.add_zero'] at hx150_1)
      (try rw [show ((0 : Int)).toNat = 0 from rfl] at hx150_2)
      (try rw [show 0 * 6 = 0 from rfl] at hx150_2)
      (try rw [Addr.add_zero'] at hx150_2)
      (try rw [show ((0 : Int)).toNat = 0 from rfl] at hx150_3)
      (try rw [show 0 * 6 = 0 from rfl] at hx150_3)
      (try rw [Addr.add_zero'] at hx150_3)
      (try rw [show ((0 : Int)).toNat = 0 from rfl] at hx150_4)
      (try rw [show 0 * 6 = 0 from rfl] at hx150_4)
      (try rw [Addr.add_zero'] at hx150_4)
      (try rw [show ((0 : Int)).toNat = 0 from rfl] at hx150_5)
      (try rw [show 0 * 6 = 0 from rfl] at hx150_5)
      (try rw [Addr.add_zero'] at hx150_5)
      have HR150_1 := Aside0.mk hi150_1
      have HC150_1 := Aside0.mk hl150_1
      clear hi150_1 hl150_1
      replace p150 := eq_true p150
      replace q150 := eq_true q150
      have p151 : 0 ≤ (0 : Int) := (by omega)
      have q151 : 0 < (l0.length : Int) := of_decide_eq_true (by first | (with_reducible assumption) | assumption)
      obtain ⟨ad151, A151_1, c151_1, e151, hx151_0, hx151_1, hx151_2, hx151_3, hx151_4, hx151_5, hl151_1, hi151_1⟩ := at_T138 HR0.out 0 p151 q151
      obtain rfl : ad150 = ad151 := (by injection e151)
      have qi151 : (0 < l0.length) = True := eq_true (by omega)
      (try rw [show ((0 : Int)).toNat = 0 from rfl] at hx151_0)
      (try rw [show 0 * 6 = 0 from rfl] at hx151_0)
      (try rw [Addr.add_zero'] at hx151_0)
      (try rw [show ((0 : Int)).toNat = 0 from rfl] at hx151_1)
      (try rw [show 0 * 6 = 0 from rfl] at hx151_1)
      (try rw [Addr.add_zero'] at hx151_1)
      (try rw [show ((0 : Int)).toNat = 0 from rfl] at hx151_2)
      (try rw [show 0 * 6 = 0 from rfl] at hx151_2)
      (try rw [Addr.add_zero'] at hx151_2)
      (try rw [show ((0 : Int)).toNat = 0 from rfl] at hx151_3)
      (try rw [show 0 * 6 = 0 from rfl] at hx151_3)
      (try rw [Addr.add_zero'] at hx151_3)
      (try rw [show ((0 : Int)).toNat = 0 from rfl] at hx151_4)
      (try rw [show 0 * 6 = 0 from rfl] at hx151_4)
      (try rw [Addr.add_zero'] at hx151_4)
      (try rw [show ((0 : Int)).toNat = 0 from rfl] at hx151_5)
      (try rw [show 0 * 6 = 0 from rfl] at hx151_5)
      (try rw [Addr.add_zero'] at hx151_5)
      have HR151_1 := Aside0.mk hi151_1
      have HC151_1 := Aside0.mk hl151_1
      clear hi151_1 hl151_1
      replace p151 := eq_true p151
      replace q151 := eq_true q151
      have ea_ := Option.some.inj (hx150_1.symm.trans hx151_1)
      injection ea_ with ea_ en_ ec_
      subst ea_
      subst ec_
      clear en_
      go_enter Try.func166, Try.ntmps166
      go_wp2_with (first | ((with_reducible refine gate_callee (f := 197) rfl ?_); refine goesL_ (some 7) rfl rfl Try.func197 (by kernel_rfl) rfl #[.string ((rd_T138 l0 0).f0)] rfl (by (try simp only [List.map_toArray, List.map_cons, List.map_nil]); first | done | rfl | (simp only [List.length_drop, List.length_take]; rfl)) ?_; (with_reducible refine (spec_l06Name.calls k ((rd_T138 l0 0).f0) true _ A3.out).mono ?_); rintro e w' ⟨rfl, ⟨nd, rfl⟩⟩; refine ⟨_, rfl, ?_⟩; have p153 : 0 ≤ (0 : Int) := (by omega); have q153 : 0 < (l0.length : Int) := of_decide_eq_true (by first | (with_reducible assumption) | assumption); obtain ⟨ad153, A153_1, c153_1, e153, hx153_0, hx153_1, hx153_2, hx153_3, hx153_4, hx153_5, hl153_1, hi153_1⟩ := at_T138 HR0.out 0 p153 q153; obtain rfl : ad150 = ad153 := (by injection e153); have qi153 : (0 < l0.length) = True := eq_true (by omega); (try rw [show ((0 : Int)).toNat = 0 from rfl] at hx153_0); (try rw [show 0 * 6 = 0 from rfl] at hx153_0); (try rw [Addr.add_zero'] at hx153_0); (try rw [show ((0 : Int)).toNat = 0 from rfl] at hx153_1); (try rw [show 0 * 6 = 0 from rfl] at hx153_1); (try rw [Addr.add_zero'] at hx153_1); (try rw [show ((0 : Int)).toNat = 0 from rfl] at hx153_2); (try rw [show 0 * 6 = 0 from rfl] at hx153_2); (try rw [Addr.add_zero'] at hx153_2); (try rw [show ((0 : Int)).toNat = 0 from rfl] at hx153_3); (try rw [show 0 * 6 = 0 from rfl] at hx153_3); (try rw [Addr.add_zero'] at hx153_3); (try rw [show ((0 : Int)).toNat = 0 from rfl] at hx153_4); (try rw [show 0 * 6 = 0 from rfl] at hx153_4); (try rw [Addr.add_zero'] at hx153_4); (try rw [show ((0 : Int)).toNat = 0 from rfl] at hx153_5); (try rw [show 0 * 6 = 0 from rfl] at hx153_5); (try rw [Addr.add_zero'] at hx153_5); have HR153_1 := Aside0.mk hi153_1; have HC153_1 := Aside0.mk hl153_1; clear hi153_1 hl153_1; replace p153 := eq_true p153; replace q153 := eq_true q153; have ea_ := Option.some.inj (hx150_1.symm.trans hx153_1); injection ea_ with ea_ en_ ec_; subst ea_; subst ec_; clear en_; have p154 : 0 ≤ (0 : Int) := (by omega); have q154 : 0 < (l0.length : Int) := of_decide_eq_true (by first | (with_reducible assumption) | assumption); obtain ⟨ad154, A154_1, c154_1, e154, hx154_0, hx154_1, hx154_2, hx154_3, hx154_4, hx154_5, hl154_1, hi154_1⟩ := at_T138 HR0.out 0 p154 q154; obtain rfl : ad150 = ad154 := (by injection e154); have qi154 : (0 < l0.length) = True := eq_true (by omega); (try rw [show ((0 : Int)).toNat = 0 from rfl] at hx154_0); (try rw [show 0 * 6 = 0 from rfl] at hx154_0); (try rw [Addr.add_zero'] at hx154_0); (try rw [show ((0 : Int)).toNat = 0 from rfl] at hx154_1); (try rw [show 0 * 6 = 0 from rfl] at hx154_1); (try rw [Addr.add_zero'] at hx154_1); (try rw [show ((0 : Int)).toNat = 0 from rfl] at hx154_2); (try rw [show 0 * 6 = 0 from rfl] at hx154_2); (try rw [Addr.add_zero'] at hx154_2); (try rw [show ((0 : Int)).toNat = 0 from rfl] at hx154_3); (try rw [show 0 * 6 = 0 from rfl] at hx154_3); (try rw [Addr.add_zero'] at hx154_3); (try rw [show ((0 : Int)).toNat = 0 from rfl] at hx154_4); (try rw [show 0 * 6 = 0 from rfl] at hx154_4); (try rw [Addr.add_zero'] at hx154_4); (try rw [show ((0 : Int)).toNat = 0 from rfl] at hx154_5); (try rw [show 0 * 6 = 0 from rfl] at hx154_5); (try rw [Addr.add_zero'] at hx154_5); have HR154_1 := Aside0.mk hi154_1; have HC154_1 := Aside0.mk hl154_1; clear hi154_1 hl154_1; replace p154 := eq_true p154; replace q154 := eq_true q154; have ea_ := Option.some.inj (hx150_1.symm.trans hx154_1); injection ea_ with ea_ en_ ec_; subst ea_; subst ec_; clear en_) | (go_at_call 198; (with_reducible refine (spec_l02Areas.calls k _ _ ((rd_T138 l0 0).f1) true _ ?side1 ?side2 A5.out).mono ?_); (case side1 => repeat (first | exact HR154_1.out | (with_reducible refine Kd.C_alloc ?_ _) | (with_reducible refine Kd.C_drewN ?_ _) | (with_reducible refine Kd.C_drew ?_))); (case side2 => exact HC154_1.out); rintro e w' ⟨rfl, ⟨nd, rfl⟩⟩; have p156 : 0 ≤ (0 : Int) := (by omega); have q156 : 0 < (l0.length : Int) := of_decide_eq_true (by first | (with_reducible assumption) | assumption); obtain ⟨ad156, A156_1, c156_1, e156, hx156_0, hx156_1, hx156_2, hx156_3, hx156_4, hx156_5, hl156_1, hi156_1⟩ := at_T138 HR0.out 0 p156 q156; obtain rfl : ad150 = ad156 := (by injection e156); have qi156 : (0 < l0.length) = True := eq_true (by omega); (try rw [show ((0 : Int)).toNat = 0 from rfl] at hx156_0); (try rw [show 0 * 6 = 0 from rfl] at hx156_0); (try rw [Addr.add_zero'] at hx156_0); (try rw [show ((0 : Int)).toNat = 0 from rfl] at hx156_1); (try rw [show 0 * 6 = 0 from rfl] at hx156_1); (try rw [Addr.add_zero'] at hx156_1); (try rw [show ((0 : Int)).toNat = 0 from rfl] at hx156_2); (try rw [show 0 * 6 = 0 from rfl] at hx156_2); (try rw [Addr.add_zero'] at hx156_2); (try rw [show ((0 : Int)).toNat = 0 from rfl] at hx156_3); (try rw [show 0 * 6 = 0 from rfl] at hx156_3); (try rw [Addr.add_zero'] at hx156_3); (try rw [show ((0 : Int)).toNat = 0 from rfl] at hx156_4); (try rw [show 0 * 6 = 0 from rfl] at hx156_4); (try rw [Addr.add_zero'] at hx156_4); (try rw [show ((0 : Int)).toNat = 0 from rfl] at hx156_5); (try rw [show 0 * 6 = 0 from rfl] at hx156_5); (try rw [Addr.add_zero'] at hx156_5); have HR156_1 := Aside0.mk hi156_1; have HC156_1 := Aside0.mk hl156_1; clear hi156_1 hl156_1; replace p156 := eq_true p156; replace q156 := eq_true q156; have ea_ := Option.some.inj (hx150_1.symm.trans hx156_1); injection ea_ with ea_ en_ ec_; subst ea_; subst ec_; clear en_; have p157 : 0 ≤ (0 : Int) := (by omega); have q157 : 0 < (l0.length : Int) := of_decide_eq_true (by first | (with_reducible assumption) | assumption); obtain ⟨ad157, A157_1, c157_1, e157, hx157_0, hx157_1, hx157_2, hx157_3, hx157_4, hx157_5, hl157_1, hi157_1⟩ := at_T138 HR0.out 0 p157 q157; obtain rfl : ad150 = ad157 := (by injection e157); have qi157 : (0 < l0.length) = True := eq_true (by omega); (try rw [show ((0 : Int)).toNat = 0 from rfl] at hx157_0); (try rw [show 0 * 6 = 0 from rfl] at hx157_0); (try rw [Addr.add_zero'] at hx157_0); (try rw [show ((0 : Int)).toNat = 0 from rfl] at hx157_1); (try rw [show 0 * 6 = 0 from rfl] at hx157_1); (try rw [Addr.add_zero'] at hx157_1); (try rw [show ((0 : Int)).toNat = 0 from rfl] at hx157_2); (try rw [show 0 * 6 = 0 from rfl] at hx157_2); (try rw [Addr.add_zero'] at hx157_2); (try rw [show ((0 : Int)).toNat = 0 from rfl] at hx157_3); (try rw [show 0 * 6 = 0 from rfl] at hx157_3); (try rw [Addr.add_zero'] at hx157_3); (try rw [show ((0 : Int)).toNat = 0 from rfl] at hx157_4); (try rw [show 0 * 6 = 0 from rfl] at hx157_4); (try rw [Addr.add_zero'] at hx157_4); (try rw [show ((0 : Int)).toNat = 0 from rfl] at hx157_5); (try rw [show 0 * 6 = 0 from rfl] at hx157_5); (try rw [Addr.add_zero'] at hx157_5); have HR157_1 := Aside0.mk hi157_1; have HC157_1 := Aside0.mk hl157_1; clear hi157_1 hl157_1; replace p157 := eq_true p157; replace q157 := eq_true q157; have ea_ := Option.some.inj (hx150_1.symm.trans hx157_1); injection ea_ with ea_ en_ ec_; subst ea_; subst ec_; clear en_) | (go_at_call 146; (with_reducible refine (spec_l02Above.calls ((rd_T138 l0 0).f2) true _ A7.out).mono ?_); rintro e w' ⟨rfl, ⟨nd, rfl⟩⟩; have p159 : 0 ≤ (0 : Int) := (by omega); have q159 : 0 < (l0.length : Int) := of_decide_eq_true (by first | (with_reducible assumption) | assumption); obtain ⟨ad159, A159_1, c159_1, e159, hx159_0, hx159_1, hx159_2, hx159_3, hx159_4, hx159_5, hl159_1, hi159_1⟩ := at_T138 HR0.out 0 p159 q159; obtain rfl : ad150 = ad159 := (by injection e159); have qi159 : (0 < l0.length) = True := eq_true (by omega); (try rw [show ((0 : Int)).toNat = 0 from rfl] at hx159_0); (try rw [show 0 * 6 = 0 from rfl] at hx159_0); (try rw [Addr.add_zero'] at hx159_0); (try rw [show ((0 : Int)).toNat = 0 from rfl] at hx159_1); (try rw [show 0 * 6 = 0 from rfl] at hx159_1); (try rw [Addr.add_zero'] at hx159_1); (try rw [show ((0 : Int)).toNat = 0 from rfl] at hx159_2); (try rw [show 0 * 6 = 0 from rfl] at hx159_2); (try rw [Addr.add_zero'] at hx159_2); (try rw [show ((0 : Int)).toNat = 0 from rfl] at hx159_3); (try rw [show 0 * 6 = 0 from rfl] at hx159_3); (try rw [Addr.add_zero'] at hx159_3); (try rw [show ((0 : Int)).toNat = 0 from rfl] at hx159_4); (try rw [show 0 * 6 = 0 from rfl] at hx159_4); (try rw [Addr.add_zero'] at hx159_4); (try rw [show ((0 : Int)).toNat = 0 from rfl] at hx159_5); (try rw [show 0 * 6 = 0 from rfl] at hx159_5); (try rw [Addr.add_zero'] at hx159_5); have HR159_1 := Aside0.mk hi159_1; have HC159_1 := Aside0.mk hl159_1; clear hi159_1 hl159_1; replace p159 := eq_true p159; replace q159 := eq_true q159; have ea_ := Option.some.inj (hx150_1.symm.trans hx159_1); injection ea_ with ea_ en_ ec_; subst ea_; subst ec_; clear en_; have p160 : 0 ≤ (0 : Int) := (by omega); have q160 : 0 < (l0.length : Int) := of_decide_eq_true (by first | (with_reducible assumption) | assumption); obtain ⟨ad160, A160_1, c160_1, e160, hx160_0, hx160_1, hx160_2, hx160_3, hx160_4, hx160_5, hl160_1, hi160_1⟩ := at_T138 HR0.out 0 p160 q160; obtain rfl : ad150 = ad160 := (by injection e160); have qi160 : (0 < l0.length) = True := eq_true (by omega); (try rw [show ((0 : Int)).toNat = 0 from rfl] at hx160_0); (try rw [show 0 * 6 = 0 from rfl] at hx160_0); (try rw [Addr.add_zero'] at hx160_0); (try rw [show ((0 : Int)).toNat = 0 from rfl] at hx160_1); (try rw [show 0 * 6 = 0 from rfl] at hx160_1); (try rw [Addr.add_zero'] at hx160_1); (try rw [show ((0 : Int)).toNat = 0 from rfl] at hx160_2); (try rw [show 0 * 6 = 0 from rfl] at hx160_2); (try rw [Addr.add_zero'] at hx160_2); (try rw [show ((0 : Int)).toNat = 0 from rfl] at hx160_3); (try rw [show 0 * 6 = 0 from rfl] at hx160_3); (try rw [Addr.add_zero'] at hx160_3); (try rw [show ((0 : Int)).toNat = 0 from rfl] at hx160_4); (try rw [show 0 * 6 = 0 from rfl] at hx160_4); (try rw [Addr.add_zero'] at hx160_4); (try rw [show ((0 : Int)).toNat = 0 from rfl] at hx160_5); (try rw [show 0 * 6 = 0 from rfl] at hx160_5); (try rw [Addr.add_zero'] at hx160_5); have HR160_1 := Aside0.mk hi160_1; have HC160_1 := Aside0.mk hl160_1; clear hi160_1 hl160_1; replace p160 := eq_true p160; replace q160 := eq_true q160; have ea_ := Option.some.inj (hx150_1.symm.trans hx160_1); injection ea_ with ea_ en_ ec_; subst ea_; subst ec_; clear en_) | (go_at_call 199; (with_reducible refine (spec_l02Least.calls ((rd_T138 l0 0).f3) false _ A9.out).mono ?_); rintro e w' ⟨rfl, ⟨nd, rfl⟩⟩))
      go_ret
      exact ⟨by first | rfl | (simp; done) | (simp [*]; done), by repeat (first | exact Drawn0.refl _ | apply Drawn0.step)⟩
    ·replace c8 := Bool.eq_false_iff.mpr c8
     subst c8
     have H1 : (some false) = some r := by rw [if_neg (show ¬ (false = true) by decide)] at H; exact H
     clear H
     have H := H1
     clear H1
     obtain rfl := Option.some.inj H
     have p150 : 0 ≤ (0 : Int) := (by omega)
     have q150 : 0 < (l0.length : Int) := of_decide_eq_true (by first | (with_reducible assumption) | assumption)
     obtain ⟨ad150, A150_1, c150_1, e150, hx150_0, hx150_1, hx150_2, hx150_3, hx150_4, hx150_5, hl150_1, hi150_1⟩ := at_T138 HR0.out 0 p150 q150
     cases e150
     have qi150 : (0 < l0.length) = True := eq_true (by omega)
     (try rw [show ((0 : Int)).toNat = 0 from rfl] at hx150_0)
     (try rw [show 0 * 6 = 0 from rfl] at hx150_0)
     (try rw [Addr.add_zero'] at hx150_0)
     (try rw [show ((0 : Int)).toNat = 0 from rfl] at hx150_1)
     (try rw [show 0 * 6 = 0 from rfl] at hx150_1)
     (try rw [Addr.add_zero'] at hx150_1)
     (try rw [show ((0 : Int)).toNat = 0 from rfl] at hx150_2)
     (try rw [show 0 * 6 = 0 from rfl] at hx150_2)
     (try rw [Addr.add_zero'] at hx150_2)
     (try rw [show ((0 : Int)).toNat = 0 from rfl] at hx150_3)
     (try rw [show 0 * 6 = 0 from rfl] at hx150_3)
     (try rw [Addr.add_zero'] at hx150_3)
     (try rw [show ((0 : Int)).toNat = 0 from rfl] at hx150_4)
     (try rw [show 0 * 6 = 0 from rfl] at hx150_4)
     (try rw [Addr.add_zero'] at hx150_4)
     (try rw [show ((0 : Int)).toNat = 0 from rfl] at hx150_5)
     (try rw [show 0 * 6 = 0 from rfl] at hx150_5)
     (try rw [Addr.add_zero'] at hx150_5)
     have HR150_1 := Aside0.mk hi150_1
     have HC150_1 := Aside0.mk hl150_1
     clear hi150_1 hl150_1
     replace p150 := eq_true p150
     replace q150 := eq_true q150
     have p151 : 0 ≤ (0 : Int) := (by omega)
     have q151 : 0 < (l0.length : Int) := of_decide_eq_true (by first | (with_reducible assumption) | assumption)
     obtain ⟨ad151, A151_1, c151_1, e151, hx151_0, hx151_1, hx151_2, hx151_3, hx151_4, hx151_5, hl151_1, hi151_1⟩ := at_T138 HR0.out 0 p151 q151
     obtain rfl : ad150 = ad151 := (by injection e151)
     have qi151 : (0 < l0.length) = True := eq_true (by omega)
     (try rw [show ((0 : Int)).toNat = 0 from rfl] at hx151_0)
     (try rw [show 0 * 6 = 0 from rfl] at hx151_0)
     (try rw [Addr.add_zero'] at hx151_0)
     (try rw [show ((0 : Int)).toNat = 0 from rfl] at hx151_1)
     (try rw [show 0 * 6 = 0 from rfl] at hx151_1)
     (try rw [Addr.add_zero'] at hx151_1)
     (try rw [show ((0 : Int)).toNat = 0 from rfl] at hx151_2)
     (try rw [show 0 * 6 = 0 from rfl] at hx151_2)
     (try rw [Addr.add_zero'] at hx151_2)
     (try rw [show ((0 : Int)).toNat = 0 from rfl] at hx151_3)
     (try rw [show 0 * 6 = 0 from rfl] at hx151_3)
     (try rw [Addr.add_zero'] at hx151_3)
     (try rw [show ((0 : Int)).toNat = 0 from rfl] at hx151_4)
     (try rw [show 0 * 6 = 0 from rfl] at hx151_4)
     (try rw [Addr.add_zero'] at hx151_4)
     (try rw [show ((0 : Int)).toNat = 0 from rfl] at hx151_5)
     (try rw [show 0 * 6 = 0 from rfl] at hx151_5)
     (try rw [Addr.add_zero'] at hx151_5)
     have HR151_1 := Aside0.mk hi151_1
     have HC151_1 := Aside0.mk hl151_1
     clear hi151_1 hl151_1
     replace p151 := eq_true p151
     replace q151 := eq_true q151
     have ea_ := Option.some.inj (hx150_1.symm.trans hx151_1)
     injection ea_ with ea_ en_ ec_
     subst ea_
     subst ec_
     clear en_
     go_enter Try.func166, Try.ntmps166
     go_wp2_with (first | ((with_reducible refine gate_callee (f := 197) rfl ?_); refine goesL_ (some 7) rfl rfl Try.func197 (by kernel_rfl) rfl #[.string ((rd_T138 l0 0).f0)] rfl (by (try simp only [List.map_toArray, List.map_cons, List.map_nil]); first | done | rfl | (simp only [List.length_drop, List.length_take]; rfl)) ?_; (with_reducible refine (spec_l06Name.calls k ((rd_T138 l0 0).f0) true _ A3.out).mono ?_); rintro e w' ⟨rfl, ⟨nd, rfl⟩⟩; refine ⟨_, rfl, ?_⟩; have p153 : 0 ≤ (0 : Int) := (by omega); have q153 : 0 < (l0.length : Int) := of_decide_eq_true (by first | (with_reducible assumption) | assumption); obtain ⟨ad153, A153_1, c153_1, e153, hx153_0, hx153_1, hx153_2, hx153_3, hx153_4, hx153_5, hl153_1, hi153_1⟩ := at_T138 HR0.out 0 p153 q153; obtain rfl : ad150 = ad153 := (by injection e153); have qi153 : (0 < l0.length) = True := eq_true (by omega); (try rw [show ((0 : Int)).toNat = 0 from rfl] at hx153_0); (try rw [show 0 * 6 = 0 from rfl] at hx153_0); (try rw [Addr.add_zero'] at hx153_0); (try rw [show ((0 : Int)).toNat = 0 from rfl] at hx153_1); (try rw [show 0 * 6 = 0 from rfl] at hx153_1); (try rw [Addr.add_zero'] at hx153_1); (try rw [show ((0 : Int)).toNat = 0 from rfl] at hx153_2); (try rw [show 0 * 6 = 0 from rfl] at hx153_2); (try rw [Addr.add_zero'] at hx153_2); (try rw [show ((0 : Int)).toNat = 0 from rfl] at hx153_3); (try rw [show 0 * 6 = 0 from rfl] at hx153_3); (try rw [Addr.add_zero'] at hx153_3); (try rw [show ((0 : Int)).toNat = 0 from rfl] at hx153_4); (try rw [show 0 * 6 = 0 from rfl] at hx153_4); (try rw [Addr.add_zero'] at hx153_4); (try rw [show ((0 : Int)).toNat = 0 from rfl] at hx153_5); (try rw [show 0 * 6 = 0 from rfl] at hx153_5); (try rw [Addr.add_zero'] at hx153_5); have HR153_1 := Aside0.mk hi153_1; have HC153_1 := Aside0.mk hl153_1; clear hi153_1 hl153_1; replace p153 := eq_true p153; replace q153 := eq_true q153; have ea_ := Option.some.inj (hx150_1.symm.trans hx153_1); injection ea_ with ea_ en_ ec_; subst ea_; subst ec_; clear en_; have p154 : 0 ≤ (0 : Int) := (by omega); have q154 : 0 < (l0.length : Int) := of_decide_eq_true (by first | (with_reducible assumption) | assumption); obtain ⟨ad154, A154_1, c154_1, e154, hx154_0, hx154_1, hx154_2, hx154_3, hx154_4, hx154_5, hl154_1, hi154_1⟩ := at_T138 HR0.out 0 p154 q154; obtain rfl : ad150 = ad154 := (by injection e154); have qi154 : (0 < l0.length) = True := eq_true (by omega); (try rw [show ((0 : Int)).toNat = 0 from rfl] at hx154_0); (try rw [show 0 * 6 = 0 from rfl] at hx154_0); (try rw [Addr.add_zero'] at hx154_0); (try rw [show ((0 : Int)).toNat = 0 from rfl] at hx154_1); (try rw [show 0 * 6 = 0 from rfl] at hx154_1); (try rw [Addr.add_zero'] at hx154_1); (try rw [show ((0 : Int)).toNat = 0 from rfl] at hx154_2); (try rw [show 0 * 6 = 0 from rfl] at hx154_2); (try rw [Addr.add_zero'] at hx154_2); (try rw [show ((0 : Int)).toNat = 0 from rfl] at hx154_3); (try rw [show 0 * 6 = 0 from rfl] at hx154_3); (try rw [Addr.add_zero'] at hx154_3); (try rw [show ((0 : Int)).toNat = 0 from rfl] at hx154_4); (try rw [show 0 * 6 = 0 from rfl] at hx154_4); (try rw [Addr.add_zero'] at hx154_4); (try rw [show ((0 : Int)).toNat = 0 from rfl] at hx154_5); (try rw [show 0 * 6 = 0 from rfl] at hx154_5); (try rw [Addr.add_zero'] at hx154_5); have HR154_1 := Aside0.mk hi154_1; have HC154_1 := Aside0.mk hl154_1; clear hi154_1 hl154_1; replace p154 := eq_true p154; replace q154 := eq_true q154; have ea_ := Option.some.inj (hx150_1.symm.trans hx154_1); injection ea_ with ea_ en_ ec_; subst ea_; subst ec_; clear en_) | (go_at_call 198; (with_reducible refine (spec_l02Areas.calls k _ _ ((rd_T138 l0 0).f1) true _ ?side1 ?side2 A5.out).mono ?_); (case side1 => repeat (first | exact HR154_1.out | (with_reducible refine Kd.C_alloc ?_ _) | (with_reducible refine Kd.C_drewN ?_ _) | (with_reducible refine Kd.C_drew ?_))); (case side2 => exact HC154_1.out); rintro e w' ⟨rfl, ⟨nd, rfl⟩⟩; have p156 : 0 ≤ (0 : Int) := (by omega); have q156 : 0 < (l0.length : Int) := of_decide_eq_true (by first | (with_reducible assumption) | assumption); obtain ⟨ad156, A156_1, c156_1, e156, hx156_0, hx156_1, hx156_2, hx156_3, hx156_4, hx156_5, hl156_1, hi156_1⟩ := at_T138 HR0.out 0 p156 q156; obtain rfl : ad150 = ad156 := (by injection e156); have qi156 : (0 < l0.length) = True := eq_true (by omega); (try rw [show ((0 : Int)).toNat = 0 from rfl] at hx156_0); (try rw [show 0 * 6 = 0 from rfl] at hx156_0); (try rw [Addr.add_zero'] at hx156_0); (try rw [show ((0 : Int)).toNat = 0 from rfl] at hx156_1); (try rw [show 0 * 6 = 0 from rfl] at hx156_1); (try rw [Addr.add_zero'] at hx156_1); (try rw [show ((0 : Int)).toNat = 0 from rfl] at hx156_2); (try rw [show 0 * 6 = 0 from rfl] at hx156_2); (try rw [Addr.add_zero'] at hx156_2); (try rw [show ((0 : Int)).toNat = 0 from rfl] at hx156_3); (try rw [show 0 * 6 = 0 from rfl] at hx156_3); (try rw [Addr.add_zero'] at hx156_3); (try rw [show ((0 : Int)).toNat = 0 from rfl] at hx156_4); (try rw [show 0 * 6 = 0 from rfl] at hx156_4); (try rw [Addr.add_zero'] at hx156_4); (try rw [show ((0 : Int)).toNat = 0 from rfl] at hx156_5); (try rw [show 0 * 6 = 0 from rfl] at hx156_5); (try rw [Addr.add_zero'] at hx156_5); have HR156_1 := Aside0.mk hi156_1; have HC156_1 := Aside0.mk hl156_1; clear hi156_1 hl156_1; replace p156 := eq_true p156; replace q156 := eq_true q156; have ea_ := Option.some.inj (hx150_1.symm.trans hx156_1); injection ea_ with ea_ en_ ec_; subst ea_; subst ec_; clear en_; have p157 : 0 ≤ (0 : Int) := (by omega); have q157 : 0 < (l0.length : Int) := of_decide_eq_true (by first | (with_reducible assumption) | assumption); obtain ⟨ad157, A157_1, c157_1, e157, hx157_0, hx157_1, hx157_2, hx157_3, hx157_4, hx157_5, hl157_1, hi157_1⟩ := at_T138 HR0.out 0 p157 q157; obtain rfl : ad150 = ad157 := (by injection e157); have qi157 : (0 < l0.length) = True := eq_true (by omega); (try rw [show ((0 : Int)).toNat = 0 from rfl] at hx157_0); (try rw [show 0 * 6 = 0 from rfl] at hx157_0); (try rw [Addr.add_zero'] at hx157_0); (try rw [show ((0 : Int)).toNat = 0 from rfl] at hx157_1); (try rw [show 0 * 6 = 0 from rfl] at hx157_1); (try rw [Addr.add_zero'] at hx157_1); (try rw [show ((0 : Int)).toNat = 0 from rfl] at hx157_2); (try rw [show 0 * 6 = 0 from rfl] at hx157_2); (try rw [Addr.add_zero'] at hx157_2); (try rw [show ((0 : Int)).toNat = 0 from rfl] at hx157_3); (try rw [show 0 * 6 = 0 from rfl] at hx157_3); (try rw [Addr.add_zero'] at hx157_3); (try rw [show ((0 : Int)).toNat = 0 from rfl] at hx157_4); (try rw [show 0 * 6 = 0 from rfl] at hx157_4); (try rw [Addr.add_zero'] at hx157_4); (try rw [show ((0 : Int)).toNat = 0 from rfl] at hx157_5); (try rw [show 0 * 6 = 0 from rfl] at hx157_5); (try rw [Addr.add_zero'] at hx157_5); have HR157_1 := Aside0.mk hi157_1; have HC157_1 := Aside0.mk hl157_1; clear hi157_1 hl157_1; replace p157 := eq_true p157; replace q157 := eq_true q157; have ea_ := Option.some.inj (hx150_1.symm.trans hx157_1); injection ea_ with ea_ en_ ec_; subst ea_; subst ec_; clear en_) | (go_at_call 146; (with_reducible refine (spec_l02Above.calls ((rd_T138 l0 0).f2) false _ A7.out).mono ?_); rintro e w' ⟨rfl, ⟨nd, rfl⟩⟩))
     go_ret
     exact ⟨by first | rfl | (simp; done) | (simp [*]; done), by repeat (first | exact Drawn0.refl _ | apply Drawn0.step)⟩
   ·replace c6 := Bool.eq_false_iff.mpr c6
    subst c6
    have H1 : (some false) = some r := by rw [if_neg (show ¬ (false = true) by decide)] at H; exact H
    clear H
    have H := H1
    clear H1
    obtain rfl := Option.some.inj H
    have p150 : 0 ≤ (0 : Int) := (by omega)
    have q150 : 0 < (l0.length : Int) := of_decide_eq_true (by first | (with_reducible assumption) | assumption)
    obtain ⟨ad150, A150_1, c150_1, e150, hx150_0, hx150_1, hx150_2, hx150_3, hx150_4, hx150_5, hl150_1, hi150_1⟩ := at_T138 HR0.out 0 p150 q150
    cases e150
    have qi150 : (0 < l0.length) = True := eq_true (by omega)
    (try rw [show ((0 : Int)).toNat = 0 from rfl] at hx150_0)
    (try rw [show 0 * 6 = 0 from rfl] at hx150_0)
    (try rw [Addr.add_zero'] at hx150_0)
    (try rw [show ((0 : Int)).toNat = 0 from rfl] at hx150_1)
    (try rw [show 0 * 6 = 0 from rfl] at hx150_1)
    (try rw [Addr.add_zero'] at hx150_1)
    (try rw [show ((0 : Int)).toNat = 0 from rfl] at hx150_2)
    (try rw [show 0 * 6 = 0 from rfl] at hx150_2)
    (try rw [Addr.add_zero'] at hx150_2)
    (try rw [show ((0 : Int)).toNat = 0 from rfl] at hx150_3)
    (try rw [show 0 * 6 = 0 from rfl] at hx150_3)
    (try rw [Addr.add_zero'] at hx150_3)
    (try rw [show ((0 : Int)).toNat = 0 from rfl] at hx150_4)
    (try rw [show 0 * 6 = 0 from rfl] at hx150_4)
    (try rw [Addr.add_zero'] at hx150_4)
    (try rw [show ((0 : Int)).toNat = 0 from rfl] at hx150_5)
    (try rw [show 0 * 6 = 0 from rfl] at hx150_5)
    (try rw [Addr.add_zero'] at hx150_5)
    have HR150_1 := Aside0.mk hi150_1
    have HC150_1 := Aside0.mk hl150_1
    clear hi150_1 hl150_1
    replace p150 := eq_true p150
    replace q150 := eq_true q150
    have p151 : 0 ≤ (0 : Int) := (by omega)
    have q151 : 0 < (l0.length : Int) := of_decide_eq_true (by first | (with_reducible assumption) | assumption)
    obtain ⟨ad151, A151_1, c151_1, e151, hx151_0, hx151_1, hx151_2, hx151_3, hx151_4, hx151_5, hl151_1, hi151_1⟩ := at_T138 HR0.out 0 p151 q151
    obtain rfl : ad150 = ad151 := (by injection e151)
    have qi151 : (0 < l0.length) = True := eq_true (by omega)
    (try rw [show ((0 : Int)).toNat = 0 from rfl] at hx151_0)
    (try rw [show 0 * 6 = 0 from rfl] at hx151_0)
    (try rw [Addr.add_zero'] at hx151_0)
    (try rw [show ((0 : Int)).toNat = 0 from rfl] at hx151_1)
    (try rw [show 0 * 6 = 0 from rfl] at hx151_1)
    (try rw [Addr.add_zero'] at hx151_1)
    (try rw [show ((0 : Int)).toNat = 0 from rfl] at hx151_2)
    (try rw [show 0 * 6 = 0 from rfl] at hx151_2)
    (try rw [Addr.add_zero'] at hx151_2)
    (try rw [show ((0 : Int)).toNat = 0 from rfl] at hx151_3)
    (try rw [show 0 * 6 = 0 from rfl] at hx151_3)
    (try rw [Addr.add_zero'] at hx151_3)
    (try rw [show ((0 : Int)).toNat = 0 from rfl] at hx151_4)
    (try rw [show 0 * 6 = 0 from rfl] at hx151_4)
    (try rw [Addr.add_zero'] at hx151_4)
    (try rw [show ((0 : Int)).toNat = 0 from rfl] at hx151_5)
    (try rw [show 0 * 6 = 0 from rfl] at hx151_5)
    (try rw [Addr.add_zero'] at hx151_5)
    have HR151_1 := Aside0.mk hi151_1
    have HC151_1 := Aside0.mk hl151_1
    clear hi151_1 hl151_1
    replace p151 := eq_true p151
    replace q151 := eq_true q151
    have ea_ := Option.some.inj (hx150_1.symm.trans hx151_1)
    injection ea_ with ea_ en_ ec_
    subst ea_
    subst ec_
    clear en_
    go_enter Try.func166, Try.ntmps166
    go_wp2_with (first | ((with_reducible refine gate_callee (f := 197) rfl ?_); refine goesL_ (some 7) rfl rfl Try.func197 (by kernel_rfl) rfl #[.string ((rd_T138 l0 0).f0)] rfl (by (try simp only [List.map_toArray, List.map_cons, List.map_nil]); first | done | rfl | (simp only [List.length_drop, List.length_take]; rfl)) ?_; (with_reducible refine (spec_l06Name.calls k ((rd_T138 l0 0).f0) true _ A3.out).mono ?_); rintro e w' ⟨rfl, ⟨nd, rfl⟩⟩; refine ⟨_, rfl, ?_⟩; have p153 : 0 ≤ (0 : Int) := (by omega); have q153 : 0 < (l0.length : Int) := of_decide_eq_true (by first | (with_reducible assumption) | assumption); obtain ⟨ad153, A153_1, c153_1, e153, hx153_0, hx153_1, hx153_2, hx153_3, hx153_4, hx153_5, hl153_1, hi153_1⟩ := at_T138 HR0.out 0 p153 q153; obtain rfl : ad150 = ad153 := (by injection e153); have qi153 : (0 < l0.length) = True := eq_true (by omega); (try rw [show ((0 : Int)).toNat = 0 from rfl] at hx153_0); (try rw [show 0 * 6 = 0 from rfl] at hx153_0); (try rw [Addr.add_zero'] at hx153_0); (try rw [show ((0 : Int)).toNat = 0 from rfl] at hx153_1); (try rw [show 0 * 6 = 0 from rfl] at hx153_1); (try rw [Addr.add_zero'] at hx153_1); (try rw [show ((0 : Int)).toNat = 0 from rfl] at hx153_2); (try rw [show 0 * 6 = 0 from rfl] at hx153_2); (try rw [Addr.add_zero'] at hx153_2); (try rw [show ((0 : Int)).toNat = 0 from rfl] at hx153_3); (try rw [show 0 * 6 = 0 from rfl] at hx153_3); (try rw [Addr.add_zero'] at hx153_3); (try rw [show ((0 : Int)).toNat = 0 from rfl] at hx153_4); (try rw [show 0 * 6 = 0 from rfl] at hx153_4); (try rw [Addr.add_zero'] at hx153_4); (try rw [show ((0 : Int)).toNat = 0 from rfl] at hx153_5); (try rw [show 0 * 6 = 0 from rfl] at hx153_5); (try rw [Addr.add_zero'] at hx153_5); have HR153_1 := Aside0.mk hi153_1; have HC153_1 := Aside0.mk hl153_1; clear hi153_1 hl153_1; replace p153 := eq_true p153; replace q153 := eq_true q153; have ea_ := Option.some.inj (hx150_1.symm.trans hx153_1); injection ea_ with ea_ en_ ec_; subst ea_; subst ec_; clear en_; have p154 : 0 ≤ (0 : Int) := (by omega); have q154 : 0 < (l0.length : Int) := of_decide_eq_true (by first | (with_reducible assumption) | assumption); obtain ⟨ad154, A154_1, c154_1, e154, hx154_0, hx154_1, hx154_2, hx154_3, hx154_4, hx154_5, hl154_1, hi154_1⟩ := at_T138 HR0.out 0 p154 q154; obtain rfl : ad150 = ad154 := (by injection e154); have qi154 : (0 < l0.length) = True := eq_true (by omega); (try rw [show ((0 : Int)).toNat = 0 from rfl] at hx154_0); (try rw [show 0 * 6 = 0 from rfl] at hx154_0); (try rw [Addr.add_zero'] at hx154_0); (try rw [show ((0 : Int)).toNat = 0 from rfl] at hx154_1); (try rw [show 0 * 6 = 0 from rfl] at hx154_1); (try rw [Addr.add_zero'] at hx154_1); (try rw [show ((0 : Int)).toNat = 0 from rfl] at hx154_2); (try rw [show 0 * 6 = 0 from rfl] at hx154_2); (try rw [Addr.add_zero'] at hx154_2); (try rw [show ((0 : Int)).toNat = 0 from rfl] at hx154_3); (try rw [show 0 * 6 = 0 from rfl] at hx154_3); (try rw [Addr.add_zero'] at hx154_3); (try rw [show ((0 : Int)).toNat = 0 from rfl] at hx154_4); (try rw [show 0 * 6 = 0 from rfl] at hx154_4); (try rw [Addr.add_zero'] at hx154_4); (try rw [show ((0 : Int)).toNat = 0 from rfl] at hx154_5); (try rw [show 0 * 6 = 0 from rfl] at hx154_5); (try rw [Addr.add_zero'] at hx154_5); have HR154_1 := Aside0.mk hi154_1; have HC154_1 := Aside0.mk hl154_1; clear hi154_1 hl154_1; replace p154 := eq_true p154; replace q154 := eq_true q154; have ea_ := Option.some.inj (hx150_1.symm.trans hx154_1); injection ea_ with ea_ en_ ec_; subst ea_; subst ec_; clear en_) | (go_at_call 198; (with_reducible refine (spec_l02Areas.calls k _ _ ((rd_T138 l0 0).f1) false _ ?side1 ?side2 A5.out).mono ?_); (case side1 => repeat (first | exact HR154_1.out | (with_reducible refine Kd.C_alloc ?_ _) | (with_reducible refine Kd.C_drewN ?_ _) | (with_reducible refine Kd.C_drew ?_))); (case side2 => exact HC154_1.out); rintro e w' ⟨rfl, ⟨nd, rfl⟩⟩))
    go_ret
    exact ⟨by first | rfl | (simp; done) | (simp [*]; done), by repeat (first | exact Drawn0.refl _ | apply Drawn0.step)⟩
  ·replace c4 := Bool.eq_false_iff.mpr c4
   subst c4
   have H1 : (some false) = some r := by rw [if_neg (show ¬ (false = true) by decide)] at H; exact H
   clear H
   have H := H1
   clear H1
   obtain rfl := Option.some.inj H
   have p150 : 0 ≤ (0 : Int) := (by omega)
   have q150 : 0 < (l0.length : Int) := of_decide_eq_true (by first | (with_reducible assumption) | assumption)
   obtain ⟨ad150, A150_1, c150_1, e150, hx150_0, hx150_1, hx150_2, hx150_3, hx150_4, hx150_5, hl150_1, hi150_1⟩ := at_T138 HR0.out 0 p150 q150
   cases e150
   have qi150 : (0 < l0.length) = True := eq_true (by omega)
   (try rw [show ((0 : Int)).toNat = 0 from rfl] at hx150_0)
   (try rw [show 0 * 6 = 0 from rfl] at hx150_0)
   (try rw [Addr.add_zero'] at hx150_0)
   (try rw [show ((0 : Int)).toNat = 0 from rfl] at hx150_1)
   (try rw [show 0 * 6 = 0 from rfl] at hx150_1)
   (try rw [Addr.add_zero'] at hx150_1)
   (try rw [show ((0 : Int)).toNat = 0 from rfl] at hx150_2)
   (try rw [show 0 * 6 = 0 from rfl] at hx150_2)
   (try rw [Addr.add_zero'] at hx150_2)
   (try rw [show ((0 : Int)).toNat = 0 from rfl] at hx150_3)
   (try rw [show 0 * 6 = 0 from rfl] at hx150_3)
   (try rw [Addr.add_zero'] at hx150_3)
   (try rw [show ((0 : Int)).toNat = 0 from rfl] at hx150_4)
   (try rw [show 0 * 6 = 0 from rfl] at hx150_4)
   (try rw [Addr.add_zero'] at hx150_4)
   (try rw [show ((0 : Int)).toNat = 0 from rfl] at hx150_5)
   (try rw [show 0 * 6 = 0 from rfl] at hx150_5)
   (try rw [Addr.add_zero'] at hx150_5)
   have HR150_1 := Aside0.mk hi150_1
   have HC150_1 := Aside0.mk hl150_1
   clear hi150_1 hl150_1
   replace p150 := eq_true p150
   replace q150 := eq_true q150
   have p151 : 0 ≤ (0 : Int) := (by omega)
   have q151 : 0 < (l0.length : Int) := of_decide_eq_true (by first | (with_reducible assumption) | assumption)
   obtain ⟨ad151, A151_1, c151_1, e151, hx151_0, hx151_1, hx151_2, hx151_3, hx151_4, hx151_5, hl151_1, hi151_1⟩ := at_T138 HR0.out 0 p151 q151
   obtain rfl : ad150 = ad151 := (by injection e151)
   have qi151 : (0 < l0.length) = True := eq_true (by omega)
   (try rw [show ((0 : Int)).toNat = 0 from rfl] at hx151_0)
   (try rw [show 0 * 6 = 0 from rfl] at hx151_0)
   (try rw [Addr.add_zero'] at hx151_0)
   (try rw [show ((0 : Int)).toNat = 0 from rfl] at hx151_1)
   (try rw [show 0 * 6 = 0 from rfl] at hx151_1)
   (try rw [Addr.add_zero'] at hx151_1)
   (try rw [show ((0 : Int)).toNat = 0 from rfl] at hx151_2)
   (try rw [show 0 * 6 = 0 from rfl] at hx151_2)
   (try rw [Addr.add_zero'] at hx151_2)
   (try rw [show ((0 : Int)).toNat = 0 from rfl] at hx151_3)
   (try rw [show 0 * 6 = 0 from rfl] at hx151_3)
   (try rw [Addr.add_zero'] at hx151_3)
   (try rw [show ((0 : Int)).toNat = 0 from rfl] at hx151_4)
   (try rw [show 0 * 6 = 0 from rfl] at hx151_4)
   (try rw [Addr.add_zero'] at hx151_4)
   (try rw [show ((0 : Int)).toNat = 0 from rfl] at hx151_5)
   (try rw [show 0 * 6 = 0 from rfl] at hx151_5)
   (try rw [Addr.add_zero'] at hx151_5)
   have HR151_1 := Aside0.mk hi151_1
   have HC151_1 := Aside0.mk hl151_1
   clear hi151_1 hl151_1
   replace p151 := eq_true p151
   replace q151 := eq_true q151
   have ea_ := Option.some.inj (hx150_1.symm.trans hx151_1)
   injection ea_ with ea_ en_ ec_
   subst ea_
   subst ec_
   clear en_
   go_enter Try.func166, Try.ntmps166
   go_wp2_with (first | ((with_reducible refine gate_callee (f := 197) rfl ?_); refine goesL_ (some 7) rfl rfl Try.func197 (by kernel_rfl) rfl #[.string ((rd_T138 l0 0).f0)] rfl (by (try simp only [List.map_toArray, List.map_cons, List.map_nil]); first | done | rfl | (simp only [List.length_drop, List.length_take]; rfl)) ?_; (with_reducible refine (spec_l06Name.calls k ((rd_T138 l0 0).f0) false _ A3.out).mono ?_); rintro e w' ⟨rfl, ⟨nd, rfl⟩⟩; refine ⟨_, rfl, ?_⟩))
   go_ret
   exact ⟨by first | rfl | (simp; done) | (simp [*]; done), by repeat (first | exact Drawn0.refl _ | apply Drawn0.step)⟩
 ·rw [if_neg c2] at H
  exact absurd H (by simp)
end Go.Proofs.Ytoiaojdkgagblaa.PFnExactDropSound
