import Derived.Test.YtoiaojdkgagblaaPFnExactStretchSoundsx0
import Derived.Test.YtoiaojdkgagblaaPFnExactStretchSoundsx1
namespace Go.Proofs.Ytoiaojdkgagblaa.PFnExactStretchSounds
open Go.RowKit Go.Proofs.YtoiaojdkgagblaaW.PrintWords Go.Proofs.YtoiaojdkgagblaaW.PrintLast Go.Proofs.YtoiaojdkgagblaaW.PrintMore
open Go.Proofs.YtoiaojdkgagblaaW.PrintFl
attribute [local go_sem high] binOp_feq binOp_fne binOp_fls binOp_fle binOp_fgr binOp_fge binOp_sle binOp_sgt
attribute [local go_sem] run_fopr run_fconv run_fint run_stf run_stc ext_f32bits ext_f64bits ext_f32frombits
attribute [local go_sem] max2_int min2_int max_two min_two max_three min_three max_four min_four
set_option linter.unusedVariables false
set_option linter.unusedSimpArgs false
def spec_l06Sound.f (k : Nat) (l0 : List (S138)) : Option (Bool) := if 0 < (l0.length : Int) then ((spec_l06Name.f k ((rd_T138 l0 0).f0)).bind fun t111 => (if t111 = true then ((spec_l02Areas.f k ((rd_T138 l0 0).f1)).bind fun t114 => (if t114 = true then ((spec_l02Above.f ((rd_T138 l0 0).f2)).bind fun t117 => (if t117 = true then ((spec_l02Least.f ((rd_T138 l0 0).f3)).bind fun t120 => (if t120 = true then ((spec_l02Share.f ((rd_T138 l0 0).f4)).bind fun t123 => (if t123 = true then ((spec_l02Share.f ((rd_T138 l0 0).f5)).bind fun t126 => (some t126)) else (some false))) else (some false))) else (some false))) else (some false))) else (some false))) else (none)
theorem spec_l06Sound.mono : ∀ a0 k, LeO (spec_l06Sound.f k a0) (spec_l06Sound.f (k + 1) a0) := by
 intro a0 k
 unfold spec_l06Sound.f
 repeat' first
   | (with_reducible exact spec_l02Areas.mono _ _)
   | (with_reducible exact spec_l06Name.mono _ _)
   | (with_reducible exact LeO.refl _)
   | (with_reducible exact LeO.none _)
   | (with_reducible refine LeO.ite ?_ ?_)
   | (with_reducible refine LeO.bind ?_ (fun _ => ?_))
   | exact spec_l02Areas.mono _ _
   | exact spec_l06Name.mono _ _
   | exact LeO.none _
   | refine LeO.ite ?_ ?_
   | refine LeO.bind ?_ (fun _ => ?_)
set_option maxHeartbeats 8000000 in
set_option maxRecDepth 100000 in
theorem spec_l06Sound.calls (k : Nat) (A0 : Option Addr) (l0 : List (S138)) (r : Bool) (w : World) (hr0 : Kd.C k138 w A0 l0.length l0) (h : spec_l06Sound.f k l0 = some r) :
  Calls Try.prog 166 #[.pointer A0] w fun e w' => e = .returned (.bool r) ∧ Drawn0 w w' := by
 have hu9 := Try.underlying9
 have hu26 := Try.underlying26
 have hu36 := Try.underlying36
 have HR0 := Aside0.mk hr0
 clear hr0
 have H : (if 0 < (l0.length : Int) then ((spec_l06Name.f k ((rd_T138 l0 0).f0)).bind fun t111 => (if t111 = true then ((spec_l02Areas.f k ((rd_T138 l0 0).f1)).bind fun t114 => (if t114 = true then ((spec_l02Above.f ((rd_T138 l0 0).f2)).bind fun t117 => (if t117 = true then ((spec_l02Least.f ((rd_T138 l0 0).f3)).bind fun t120 => (if t120 = true then ((spec_l02Share.f ((rd_T138 l0 0).f4)).bind fun t123 => (if t123 = true then ((spec_l02Share.f ((rd_T138 l0 0).f5)).bind fun t126 => (some t126)) else (some false))) else (some false))) else (some false))) else (some false))) else (some false))) else (none)) = some r := h
 clear h
 by_cases c2 : 0 < (l0.length : Int)
 ·rw [if_pos c2] at H
  have c2b0 : decide (0 < (l0.length : Int)) = true := decide_eq_true c2
  have c2b1 : decide (0 < l0.length) = true := decide_eq_true (by omega)
  clear c2
  replace H := Option.bind_eq_some_iff.mp H
  obtain ⟨t111, A30, H⟩ := H
  replace H : (if t111 = true then ((spec_l02Areas.f k ((rd_T138 l0 0).f1)).bind fun t114 => (if t114 = true then ((spec_l02Above.f ((rd_T138 l0 0).f2)).bind fun t117 => (if t117 = true then ((spec_l02Least.f ((rd_T138 l0 0).f3)).bind fun t120 => (if t120 = true then ((spec_l02Share.f ((rd_T138 l0 0).f4)).bind fun t123 => (if t123 = true then ((spec_l02Share.f ((rd_T138 l0 0).f5)).bind fun t126 => (some t126)) else (some false))) else (some false))) else (some false))) else (some false))) else (some false)) = some r := H
  have A3 := Aside0.mk A30
  clear A30
  by_cases c4 : t111 = true
  ·subst c4
   have H1 : ((spec_l02Areas.f k ((rd_T138 l0 0).f1)).bind fun t114 => (if t114 = true then ((spec_l02Above.f ((rd_T138 l0 0).f2)).bind fun t117 => (if t117 = true then ((spec_l02Least.f ((rd_T138 l0 0).f3)).bind fun t120 => (if t120 = true then ((spec_l02Share.f ((rd_T138 l0 0).f4)).bind fun t123 => (if t123 = true then ((spec_l02Share.f ((rd_T138 l0 0).f5)).bind fun t126 => (some t126)) else (some false))) else (some false))) else (some false))) else (some false))) = some r := by rw [if_pos rfl] at H; exact H
   clear H
   have H := H1
   clear H1
   replace H := Option.bind_eq_some_iff.mp H
   obtain ⟨t114, A50, H⟩ := H
   replace H : (if t114 = true then ((spec_l02Above.f ((rd_T138 l0 0).f2)).bind fun t117 => (if t117 = true then ((spec_l02Least.f ((rd_T138 l0 0).f3)).bind fun t120 => (if t120 = true then ((spec_l02Share.f ((rd_T138 l0 0).f4)).bind fun t123 => (if t123 = true then ((spec_l02Share.f ((rd_T138 l0 0).f5)).bind fun t126 => (some t126)) else (some false))) else (some false))) else (some false))) else (some false)) = some r := H
   have A5 := Aside0.mk A50
   clear A50
   by_cases c6 : t114 = true
   ·subst c6
    have H1 : ((spec_l02Above.f ((rd_T138 l0 0).f2)).bind fun t117 => (if t117 = true then ((spec_l02Least.f ((rd_T138 l0 0).f3)).bind fun t120 => (if t120 = true then ((spec_l02Share.f ((rd_T138 l0 0).f4)).bind fun t123 => (if t123 = true then ((spec_l02Share.f ((rd_T138 l0 0).f5)).bind fun t126 => (some t126)) else (some false))) else (some false))) else (some false))) = some r := by rw [if_pos rfl] at H; exact H
    clear H
    have H := H1
    clear H1
    replace H := Option.bind_eq_some_iff.mp H
    obtain ⟨t117, A70, H⟩ := H
    replace H : (if t117 = true then ((spec_l02Least.f ((rd_T138 l0 0).f3)).bind fun t120 => (if t120 = true then ((spec_l02Share.f ((rd_T138 l0 0).f4)).bind fun t123 => (if t123 = true then ((spec_l02Share.f ((rd_T138 l0 0).f5)).bind fun t126 => (some t126)) else (some false))) else (some false))) else (some false)) = some r := H
    have A7 := Aside0.mk A70
    clear A70
    by_cases c8 : t117 = true
    ·subst c8
     have H1 : ((spec_l02Least.f ((rd_T138 l0 0).f3)).bind fun t120 => (if t120 = true then ((spec_l02Share.f ((rd_T138 l0 0).f4)).bind fun t123 => (if t123 = true then ((spec_l02Share.f ((rd_T138 l0 0).f5)).bind fun t126 => (some t126)) else (some false))) else (some false))) = some r := by rw [if_pos rfl] at H; exact H
     clear H
     have H := H1
     clear H1
     replace H := Option.bind_eq_some_iff.mp H
     obtain ⟨t120, A90, H⟩ := H
     replace H : (if t120 = true then ((spec_l02Share.f ((rd_T138 l0 0).f4)).bind fun t123 => (if t123 = true then ((spec_l02Share.f ((rd_T138 l0 0).f5)).bind fun t126 => (some t126)) else (some false))) else (some false)) = some r := H
     have A9 := Aside0.mk A90
     clear A90
     by_cases c10 : t120 = true
     ·subst c10
      have H1 : ((spec_l02Share.f ((rd_T138 l0 0).f4)).bind fun t123 => (if t123 = true then ((spec_l02Share.f ((rd_T138 l0 0).f5)).bind fun t126 => (some t126)) else (some false))) = some r := by rw [if_pos rfl] at H; exact H
      clear H
      have H := H1
      clear H1
      replace H := Option.bind_eq_some_iff.mp H
      obtain ⟨t123, A110, H⟩ := H
      replace H : (if t123 = true then ((spec_l02Share.f ((rd_T138 l0 0).f5)).bind fun t126 => (some t126)) else (some false)) = some r := H
      have A11 := Aside0.mk A110
      clear A110
      by_cases c12 : t123 = true
      ·subst c12
       have H1 : ((spec_l02Share.f ((rd_T138 l0 0).f5)).bind fun t126 => (some t126)) = some r := by rw [if_pos rfl] at H; exact H
       clear H
       have H := H1
       clear H1
       replace H := Option.bind_eq_some_iff.mp H
       obtain ⟨t126, A130, H⟩ := H
       replace H : (some t126) = some r := H
       have A13 := Aside0.mk A130
       clear A130
       obtain rfl := Option.some.inj H
       have p109 : 0 ≤ (0 : Int) := (by omega)
       have q109 : 0 < (l0.length : Int) := of_decide_eq_true (by first | (with_reducible assumption) | assumption)
       obtain ⟨ad109, A109_1, c109_1, e109, hx109_0, hx109_1, hx109_2, hx109_3, hx109_4, hx109_5, hl109_1, hi109_1⟩ := at_T138 HR0.out 0 p109 q109
       cases e109
       have qi109 : (0 < l0.length) = True := eq_true (by omega)
       (try rw [show ((0 : Int)).toNat = 0 from rfl] at hx109_0)
       (try rw [show 0 * 6 = 0 from rfl] at hx109_0)
       (try rw [Addr.add_zero'] at hx109_0)
       (try rw [show ((0 : Int)).toNat = 0 from rfl] at hx109_1)
       (try rw [show 0 * 6 = 0 from rfl] at hx109_1)
       (try rw [Addr.add_zero'] at hx109_1)
       (try rw [show ((0 : Int)).toNat = 0 from rfl] at hx109_2)
       (try rw [show 0 * 6 = 0 from rfl] at hx109_2)
       (try rw [Addr.add_zero'] at hx109_2)
       (try rw [show ((0 : Int)).toNat = 0 from rfl] at hx109_3)
       (try rw [show 0 * 6 = 0 from rfl] at hx109_3)
       (try rw [Addr.add_zero'] at hx109_3)
       (try rw [show ((0 : Int)).toNat = 0 from rfl] at hx109_4)
       (try rw [show 0 * 6 = 0 from rfl] at hx109_4)
       (try rw [Addr.add_zero'] at hx109_4)
       (try rw [show ((0 : Int)).toNat = 0 from rfl] at hx109_5)
       (try rw [show 0 * 6 = 0 from rfl] at hx109_5)
       (try rw [Addr.add_zero'] at hx109_5)
       have HR109_1 := Aside0.mk hi109_1
       have HC109_1 := Aside0.mk hl109_1
       clear hi109_1 hl109_1
       replace p109 := eq_true p109
       replace q109 := eq_true q109
       have p110 : 0 ≤ (0 : Int) := (by omega)
       have q110 : 0 < (l0.length : Int) := of_decide_eq_true (by first | (with_reducible assumption) | assumption)
       obtain ⟨ad110, A110_1, c110_1, e110, hx110_0, hx110_1, hx110_2, hx110_3, hx110_4, hx110_5, hl110_1, hi110_1⟩ := at_T138 HR0.out 0 p110 q110
       obtain rfl : ad109 = ad110 := (by injection e110)
       have qi110 : (0 < l0.length) = True := eq_true (by omega)
       (try rw [show ((0 : Int)).toNat = 0 from rfl] at hx110_0)
       (try rw [show 0 * 6 = 0 from rfl] at hx110_0)
       (try rw [Addr.add_zero'] at hx110_0)
       (try rw [show ((0 : Int)).toNat = 0 from rfl] at hx110_1)
       (try rw [show 0 * 6 = 0 from rfl] at hx110_1)
       (try rw [Addr.add_zero'] at hx110_1)
       (try rw [show ((0 : Int)).toNat = 0 from rfl] at hx110_2)
       (try rw [show 0 * 6 = 0 from rfl] at hx110_2)
       (try rw [Addr.add_zero'] at hx110_2)
       (try rw [show ((0 : Int)).toNat = 0 from rfl] at hx110_3)
       (try rw [show 0 * 6 = 0 from rfl] at hx110_3)
       (try rw [Addr.add_zero'] at hx110_3)
       (try rw [show ((0 : Int)).toNat = 0 from rfl] at hx110_4)
       (try rw [show 0 * 6 = 0 from rfl] at hx110_4)
       (try rw [Addr.add_zero'] at hx110_4)
       (try rw [show ((0 : Int)).toNat = 0 from rfl] at hx110_5)
       (try rw [show 0 * 6 = 0 from rfl] at hx110_5)
       (try rw [Addr.add_zero'] at hx110_5)
       have HR110_1 := Aside0.mk hi110_1
       have HC110_1 := Aside0.mk hl110_1
       clear hi110_1 hl110_1
       replace p110 := eq_true p110
       replace q110 := eq_true q110
       have ea_ := Option.some.inj (hx109_1.symm.trans hx110_1)
       injection ea_ with ea_ en_ ec_
       subst ea_
       subst ec_
       clear en_
       go_enter Try.func166, Try.ntmps166
       go_wp2_with (first | ((with_reducible refine gate_callee (f := 197) rfl ?_); refine goesL_ (some 7) rfl rfl Try.func197 (by kernel_rfl) rfl #[.string ((rd_T138 l0 0).f0)] rfl (by (try simp only [List.map_toArray, List.map_cons, List.map_nil]); first | done | rfl | (simp only [List.length_drop, List.length_take]; rfl)) ?_; (with_reducible refine (spec_l06Name.calls k ((rd_T138 l0 0).f0) true _ A3.out).mono ?_); rintro e w' ⟨rfl, ⟨nd, rfl⟩⟩; refine ⟨_, rfl, ?_⟩; have p112 : 0 ≤ (0 : Int) := (by omega); have q112 : 0 < (l0.length : Int) := of_decide_eq_true (by first | (with_reducible assumption) | assumption); obtain ⟨ad112, A112_1, c112_1, e112, hx112_0, hx112_1, hx112_2, hx112_3, hx112_4, hx112_5, hl112_1, hi112_1⟩ := at_T138 HR0.out 0 p112 q112; obtain rfl : ad109 = ad112 := (by injection e112); have qi112 : (0 < l0.length) = True := eq_true (by omega); (try rw [show ((0 : Int)).toNat = 0 from rfl] at hx112_0); (try rw [show 0 * 6 = 0 from rfl] at hx112_0); (try rw [Addr.add_zero'] at hx112_0); (try rw [show ((0 : Int)).toNat = 0 from rfl] at hx112_1); (try rw [show 0 * 6 = 0 from rfl] at hx112_1); (try rw [Addr.add_zero'] at hx112_1); (try rw [show ((0 : Int)).toNat = 0 from rfl] at hx112_2); (try rw [show 0 * 6 = 0 from rfl] at hx112_2); (try rw [Addr.add_zero'] at hx112_2); (try rw [show ((0 : Int)).toNat = 0 from rfl] at hx112_3); (try rw [show 0 * 6 = 0 from rfl] at hx112_3); (try rw [Addr.add_zero'] at hx112_3); (try rw [show ((0 : Int)).toNat = 0 from rfl] at hx112_4); (try rw [show 0 * 6 = 0 from rfl] at hx112_4); (try rw [Addr.add_zero'] at hx112_4); (try rw [show ((0 : Int)).toNat = 0 from rfl] at hx112_5); (try rw [show 0 * 6 = 0 from rfl] at hx112_5); (try rw [Addr.add_zero'] at hx112_5); have HR112_1 := Aside0.mk hi112_1; have HC112_1 := Aside0.mk hl112_1; clear hi112_1 hl112_1; replace p112 := eq_true p112; replace q112 := eq_true q112; have ea_ := Option.some.inj (hx109_1.symm.trans hx112_1); injection ea_ with ea_ en_ ec_; subst ea_; subst ec_; clear en_; have p113 : 0 ≤ (0 : Int) := (by omega); have q113 : 0 < (l0.length : Int) := of_decide_eq_true (by first | (with_reducible assumption) | assumption); obtain ⟨ad113, A113_1, c113_1, e113, hx113_0, hx113_1, hx113_2, hx113_3, hx113_4, hx113_5, hl113_1, hi113_1⟩ := at_T138 HR0.out 0 p113 q113; obtain rfl : ad109 = ad113 := (by injection e113); have qi113 : (0 < l0.length) = True := eq_true (by omega); (try rw [show ((0 : Int)).toNat = 0 from rfl] at hx113_0); (try rw [show 0 * 6 = 0 from rfl] at hx113_0); (try rw [Addr.add_zero'] at hx113_0); (try rw [show ((0 : Int)).toNat = 0 from rfl] at hx113_1); (try rw [show 0 * 6 = 0 from rfl] at hx113_1); (try rw [Addr.add_zero'] at hx113_1); (try rw [show ((0 : Int)).toNat = 0 from rfl] at hx113_2); (try rw [show 0 * 6 = 0 from rfl] at hx113_2); (try rw [Addr.add_zero'] at hx113_2); (try rw [show ((0 : Int)).toNat = 0 from rfl] at hx113_3); (try rw [show 0 * 6 = 0 from rfl] at hx113_3); (try rw [Addr.add_zero'] at hx113_3); (try rw [show ((0 : Int)).toNat = 0 from rfl] at hx113_4); (try rw [show 0 * 6 = 0 from rfl] at hx113_4); (try rw [Addr.add_zero'] at hx113_4); (try rw [show ((0 : Int)).toNat = 0 from rfl] at hx113_5); (try rw [show 0 * 6 = 0 from rfl] at hx113_5); (try rw [Addr.add_zero'] at hx113_5); have HR113_1 := Aside0.mk hi113_1; have HC113_1 := Aside0.mk hl113_1; clear hi113_1 hl113_1; replace p113 := eq_true p113; replace q113 := eq_true q113; have ea_ := Option.some.inj (hx109_1.symm.trans hx113_1); injection ea_ with ea_ en_ ec_; subst ea_; subst ec_; clear en_) | (go_at_call 198; (with_reducible refine (spec_l02Areas.calls k _ _ ((rd_T138 l0 0).f1) true _ ?side1 ?side2 A5.out).mono ?_); (case side1 => repeat (first | exact HR113_1.out | (with_reducible refine Kd.C_alloc ?_ _) | (with_reducible refine Kd.C_drewN ?_ _) | (with_reducible refine Kd.C_drew ?_))); (case side2 => exact HC113_1.out); rintro e w' ⟨rfl, ⟨nd, rfl⟩⟩; have p115 : 0 ≤ (0 : Int) := (by omega); have q115 : 0 < (l0.length : Int) := of_decide_eq_true (by first | (with_reducible assumption) | assumption); obtain ⟨ad115, A115_1, c115_1, e115, hx115_0, hx115_1, hx115_2, hx115_3, hx115_4, hx115_5, hl115_1, hi115_1⟩ := at_T138 HR0.out 0 p115 q115; obtain rfl : ad109 = ad115 := (by injection e115); have qi115 : (0 < l0.length) = True := eq_true (by omega); (try rw [show ((0 : Int)).toNat = 0 from rfl] at hx115_0); (try rw [show 0 * 6 = 0 from rfl] at hx115_0); (try rw [Addr.add_zero'] at hx115_0); (try rw [show ((0 : Int)).toNat = 0 from rfl] at hx115_1); (try rw [show 0 * 6 = 0 from rfl] at hx115_1); (try rw [Addr.add_zero'] at hx115_1); (try rw [show ((0 : Int)).toNat = 0 from rfl] at hx115_2); (try rw [show 0 * 6 = 0 from rfl] at hx115_2); (try rw [Addr.add_zero'] at hx115_2); (try rw [show ((0 : Int)).toNat = 0 from rfl] at hx115_3); (try rw [show 0 * 6 = 0 from rfl] at hx115_3); (try rw [Addr.add_zero'] at hx115_3); (try rw [show ((0 : Int)).toNat = 0 from rfl] at hx115_4); (try rw [show 0 * 6 = 0 from rfl] at hx115_4); (try rw [Addr.add_zero'] at hx115_4); (try rw [show ((0 : Int)).toNat = 0 from rfl] at hx115_5); (try rw [show 0 * 6 = 0 from rfl] at hx115_5); (try rw [Addr.add_zero'] at hx115_5); have HR115_1 := Aside0.mk hi115_1; have HC115_1 := Aside0.mk hl115_1; clear hi115_1 hl115_1; replace p115 := eq_true p115; replace q115 := eq_true q115; have ea_ := Option.some.inj (hx109_1.symm.trans hx115_1); injection ea_ with ea_ en_ ec_; subst ea_; subst ec_; clear en_; have p116 : 0 ≤ (0 : Int) := (by omega); have q116 : 0 < (l0.length : Int) := of_decide_eq_true (by first | (with_reducible assumption) | assumption); obtain ⟨ad116, A116_1, c116_1, e116, hx116_0, hx116_1, hx116_2, hx116_3, hx116_4, hx116_5, hl116_1, hi116_1⟩ := at_T138 HR0.out 0 p116 q116; obtain rfl : ad109 = ad116 := (by injection e116); have qi116 : (0 < l0.length) = True := eq_true (by omega); (try rw [show ((0 : Int)).toNat = 0 from rfl] at hx116_0); (try rw [show 0 * 6 = 0 from rfl] at hx116_0); (try rw [Addr.add_zero'] at hx116_0); (try rw [show ((0 : Int)).toNat = 0 from rfl] at hx116_1); (try rw [show 0 * 6 = 0 from rfl] at hx116_1); (try rw [Addr.add_zero'] at hx116_1); (try rw [show ((0 : Int)).toNat = 0 from rfl] at hx116_2); (try rw [show 0 * 6 = 0 from rfl] at hx116_2); (try rw [Addr.add_zero'] at hx116_2); (try rw [show ((0 : Int)).toNat = 0 from rfl] at hx116_3); (try rw [show 0 * 6 = 0 from rfl] at hx116_3); (try rw [Addr.add_zero'] at hx116_3); (try rw [show ((0 : Int)).toNat = 0 from rfl] at hx116_4); (try rw [show 0 * 6 = 0 from rfl] at hx116_4); (try rw [Addr.add_zero'] at hx116_4); (try rw [show ((0 : Int)).toNat = 0 from rfl] at hx116_5); (try rw [show 0 * 6 = 0 from rfl] at hx116_5); (try rw [Addr.add_zero'] at hx116_5); have HR116_1 := Aside0.mk hi116_1; have HC116_1 := Aside0.mk hl116_1; clear hi116_1 hl116_1; replace p116 := eq_true p116; replace q116 := eq_true q116; have ea_ := Option.some.inj (hx109_1.symm.trans hx116_1); injection ea_ with ea_ en_ ec_; subst ea_; subst ec_; clear en_) | (go_at_call 146; (with_reducible refine (spec_l02Above.calls ((rd_T138 l0 0).f2) true _ A7.out).mono ?_); rintro e w' ⟨rfl, ⟨nd, rfl⟩⟩; have p118 : 0 ≤ (0 : Int) := (by omega); have q118 : 0 < (l0.length : Int) := of_decide_eq_true (by first | (with_reducible assumption) | assumption); obtain ⟨ad118, A118_1, c118_1, e118, hx118_0, hx118_1, hx118_2, hx118_3, hx118_4, hx118_5, hl118_1, hi118_1⟩ := at_T138 HR0.out 0 p118 q118; obtain rfl : ad109 = ad118 := (by injection e118); have qi118 : (0 < l0.length) = True := eq_true (by omega); (try rw [show ((0 : Int)).toNat = 0 from rfl] at hx118_0); (try rw [show 0 * 6 = 0 from rfl] at hx118_0); (try rw [Addr.add_zero'] at hx118_0); (try rw [show ((0 : Int)).toNat = 0 from rfl] at hx118_1); (try rw [show 0 * 6 = 0 from rfl] at hx118_1); (try rw [Addr.add_zero'] at hx118_1); (try rw [show ((0 : Int)).toNat = 0 from rfl] at hx118_2); (try rw [show 0 * 6 = 0 from rfl] at hx118_2); (try rw [Addr.add_zero'] at hx118_2); (try rw [show ((0 : Int)).toNat = 0 from rfl] at hx118_3); (try rw [show 0 * 6 = 0 from rfl] at hx118_3); (try rw [Addr.add_zero'] at hx118_3); (try rw [show ((0 : Int)).toNat = 0 from rfl] at hx118_4); (try rw [show 0 * 6 = 0 from rfl] at hx118_4); (try rw [Addr.add_zero'] at hx118_4); (try rw [show ((0 : Int)).toNat = 0 from rfl] at hx118_5); (try rw [show 0 * 6 = 0 from rfl] at hx118_5); (try rw [Addr.add_zero'] at hx118_5); have HR118_1 := Aside0.mk hi118_1; have HC118_1 := Aside0.mk hl118_1; clear hi118_1 hl118_1; replace p118 := eq_true p118; replace q118 := eq_true q118; have ea_ := Option.some.inj (hx109_1.symm.trans hx118_1); injection ea_ with ea_ en_ ec_; subst ea_; subst ec_; clear en_; have p119 : 0 ≤ (0 : Int) := (by omega); have q119 : 0 < (l0.length : Int) := of_decide_eq_true (by first | (with_reducible assumption) | assumption); obtain ⟨ad119, A119_1, c119_1, e119, hx119_0, hx119_1, hx119_2, hx119_3, hx119_4, hx119_5, hl119_1, hi119_1⟩ := at_T138 HR0.out 0 p119 q119; obtain rfl : ad109 = ad119 := (by injection e119); have qi119 : (0 < l0.length) = True := eq_true (by omega); (try rw [show ((0 : Int)).toNat = 0 from rfl] at hx119_0); (try rw [show 0 * 6 = 0 from rfl] at hx119_0); (try rw [Addr.add_zero'] at hx119_0); (try rw [show ((0 : Int)).toNat = 0 from rfl] at hx119_1); (try rw [show 0 * 6 = 0 from rfl] at hx119_1); (try rw [Addr.add_zero'] at hx119_1); (try rw [show ((0 : Int)).toNat = 0 from rfl] at hx119_2); (try rw [show 0 * 6 = 0 from rfl] at hx119_2); (try rw [Addr.add_zero'] at hx119_2); (try rw [show ((0 : Int)).toNat = 0 from rfl] at hx119_3); (try rw [show 0 * 6 = 0 from rfl] at hx119_3); (try rw [Addr.add_zero'] at hx119_3); (try rw [show ((0 : Int)).toNat = 0 from rfl] at hx119_4); (try rw [show 0 * 6 = 0 from rfl] at hx119_4); (try rw [Addr.add_zero'] at hx119_4); (try rw [show ((0 : Int)).toNat = 0 from rfl] at hx119_5); (try rw [show 0 * 6 = 0 from rfl] at hx119_5); (try rw [Addr.add_zero'] at hx119_5); have HR119_1 := Aside0.mk hi119_1; have HC119_1 := Aside0.mk hl119_1; clear hi119_1 hl119_1; replace p119 := eq_true p119; replace q119 := eq_true q119; have ea_ := Option.some.inj (hx109_1.symm.trans hx119_1); injection ea_ with ea_ en_ ec_; subst ea_; subst ec_; clear en_) | (go_at_call 199; (with_reducible refine (spec_l02Least.calls ((rd_T138 l0 0).f3) true _ A9.out).mono ?_); rintro e w' ⟨rfl, ⟨nd, rfl⟩⟩; have p121 : 0 ≤ (0 : Int) := (by omega); have q121 : 0 < (l0.length : Int) := of_decide_eq_true (by first | (with_reducible assumption) | assumption); obtain ⟨ad121, A121_1, c121_1, e121, hx121_0, hx121_1, hx121_2, hx121_3, hx121_4, hx121_5, hl121_1, hi121_1⟩ := at_T138 HR0.out 0 p121 q121; obtain rfl : ad109 = ad121 := (by injection e121); have qi121 : (0 < l0.length) = True := eq_true (by omega); (try rw [show ((0 : Int)).toNat = 0 from rfl] at hx121_0); (try rw [show 0 * 6 = 0 from rfl] at hx121_0); (try rw [Addr.add_zero'] at hx121_0); (try rw [show ((0 : Int)).toNat = 0 from rfl] at hx121_1); (try rw [show 0 * 6 = 0 from rfl] at hx121_1); (try rw [Addr.add_zero'] at hx121_1); (try rw [show ((0 : Int)).toNat = 0 from rfl] at hx121_2); (try rw [show 0 * 6 = 0 from rfl] at hx121_2); (try rw [Addr.add_zero'] at hx121_2); (try rw [show ((0 : Int)).toNat = 0 from rfl] at hx121_3); (try rw [show 0 * 6 = 0 from rfl] at hx121_3); (try rw [Addr.add_zero'] at hx121_3); (try rw [show ((0 : Int)).toNat = 0 from rfl] at hx121_4); (try rw [show 0 * 6 = 0 from rfl] at hx121_4); (try rw [Addr.add_zero'] at hx121_4); (try rw [show ((0 : Int)).toNat = 0 from rfl] at hx121_5); (try rw [show 0 * 6 = 0 from rfl] at hx121_5); (try rw [Addr.add_zero'] at hx121_5); have HR121_1 := Aside0.mk hi121_1; have HC121_1 := Aside0.mk hl121_1; clear hi121_1 hl121_1; replace p121 := eq_true p121; replace q121 := eq_true q121; have ea_ := Option.some.inj (hx109_1.symm.trans hx121_1); injection ea_ with ea_ en_ ec_; subst ea_; subst ec_; clear en_; have p122 : 0 ≤ (0 : Int) := (by omega); have q122 : 0 < (l0.length : Int) := of_decide_eq_true (by first | (with_reducible assumption) | assumption); obtain ⟨ad122, A122_1, c122_1, e122, hx122_0, hx122_1, hx122_2, hx122_3, hx122_4, hx122_5, hl122_1, hi122_1⟩ := at_T138 HR0.out 0 p122 q122; obtain rfl : ad109 = ad122 := (by injection e122); have qi122 : (0 < l0.length) = True := eq_true (by omega); (try rw [show ((0 : Int)).toNat = 0 from rfl] at hx122_0); (try rw [show 0 * 6 = 0 from rfl] at hx122_0); (try rw [Addr.add_zero'] at hx122_0); (try rw [show ((0 : Int)).toNat = 0 from rfl] at hx122_1); (try rw [show 0 * 6 = 0 from rfl] at hx122_1); (try rw [Addr.add_zero'] at hx122_1); (try rw [show ((0 : Int)).toNat = 0 from rfl] at hx122_2); (try rw [show 0 * 6 = 0 from rfl] at hx122_2); (try rw [Addr.add_zero'] at hx122_2); (try rw [show ((0 : Int)).toNat = 0 from rfl] at hx122_3); (try rw [show 0 * 6 = 0 from rfl] at hx122_3); (try rw [Addr.add_zero'] at hx122_3); (try rw [show ((0 : Int)).toNat = 0 from rfl] at hx122_4); (try rw [show 0 * 6 = 0 from rfl] at hx122_4); (try rw [Addr.add_zero'] at hx122_4); (try rw [show ((0 : Int)).toNat = 0 from rfl] at hx122_5); (try rw [show 0 * 6 = 0 from rfl] at hx122_5); (try rw [Addr.add_zero'] at hx122_5); have HR122_1 := Aside0.mk hi122_1; have HC122_1 := Aside0.mk hl122_1; clear hi122_1 hl122_1; replace p122 := eq_true p122; replace q122 := eq_true q122; have ea_ := Option.some.inj (hx109_1.symm.trans hx122_1); injection ea_ with ea_ en_ ec_; subst ea_; subst ec_; clear en_) | (go_at_call 188; (with_reducible refine (spec_l02Share.calls ((rd_T138 l0 0).f4) true _ A11.out).mono ?_); rintro e w' ⟨rfl, ⟨nd, rfl⟩⟩; have p124 : 0 ≤ (0 : Int) := (by omega); have q124 : 0 < (l0.length : Int) := of_decide_eq_true (by first | (with_reducible assumption) | assumption); obtain ⟨ad124, A124_1, c124_1, e124, hx124_0, hx124_1, hx124_2, hx124_3, hx124_4, hx124_5, hl124_1, hi124_1⟩ := at_T138 HR0.out 0 p124 q124; obtain rfl : ad109 = ad124 := (by injection e124); have qi124 : (0 < l0.length) = True := eq_true (by omega); (try rw [show ((0 : Int)).toNat = 0 from rfl] at hx124_0); (try rw [show 0 * 6 = 0 from rfl] at hx124_0); (try rw [Addr.add_zero'] at hx124_0); (try rw [show ((0 : Int)).toNat = 0 from rfl] at hx124_1); (try rw [show 0 * 6 = 0 from rfl] at hx124_1); (try rw [Addr.add_zero'] at hx124_1); (try rw [show ((0 : Int)).toNat = 0 from rfl] at hx124_2); (try rw [show 0 * 6 = 0 from rfl] at hx124_2); (try rw [Addr.add_zero'] at hx124_2); (try rw [show ((0 : Int)).toNat = 0 from rfl] at hx124_3); (try rw [show 0 * 6 = 0 from rfl] at hx124_3); (try rw [Addr.add_zero'] at hx124_3); (try rw [show ((0 : Int)).toNat = 0 from rfl] at hx124_4); (try rw [show 0 * 6 = 0 from rfl] at hx124_4); (try rw [Addr.add_zero'] at hx124_4); (try rw [show ((0 : Int)).toNat = 0 from rfl] at hx124_5); (try rw [show 0 * 6 = 0 from rfl] at hx124_5); (try rw [Addr.add_zero'] at hx124_5); have HR124_1 := Aside0.mk hi124_1; have HC124_1 := Aside0.mk hl124_1; clear hi124_1 hl124_1; replace p124 := eq_true p124; replace q124 := eq_true q124; have ea_ := Option.some.inj (hx109_1.symm.trans hx124_1); injection ea_ with ea_ en_ ec_; subst ea_; subst ec_; clear en_; have p125 : 0 ≤ (0 : Int) := (by omega); have q125 : 0 < (l0.length : Int) := of_decide_eq_true (by first | (with_reducible assumption) | assumption); obtain ⟨ad125, A125_1, c125_1, e125, hx125_0, hx125_1, hx125_2, hx125_3, hx125_4, hx125_5, hl125_1, hi125_1⟩ := at_T138 HR0.out 0 p125 q125; obtain rfl : ad109 = ad125 := (by injection e125); have qi125 : (0 < l0.length) = True := eq_true (by omega); (try rw [show ((0 : Int)).toNat = 0 from rfl] at hx125_0); (try rw [show 0 * 6 = 0 from rfl] at hx125_0); (try rw [Addr.add_zero'] at hx125_0); (try rw [show ((0 : Int)).toNat = 0 from rfl] at hx125_1); (try rw [show 0 * 6 = 0 from rfl] at hx125_1); (try rw [Addr.add_zero'] at hx125_1); (try rw [show ((0 : Int)).toNat = 0 from rfl] at hx125_2); (try rw [show 0 * 6 = 0 from rfl] at hx125_2); (try rw [Addr.add_zero'] at hx125_2); (try rw [show ((0 : Int)).toNat = 0 from rfl] at hx125_3); (try rw [show 0 * 6 = 0 from rfl] at hx125_3); (try rw [Addr.add_zero'] at hx125_3); (try rw [show ((0 : Int)).toNat = 0 from rfl] at hx125_4); (try rw [show 0 * 6 = 0 from rfl] at hx125_4); (try rw [Addr.add_zero'] at hx125_4); (try rw [show ((0 : Int)).toNat = 0 from rfl] at hx125_5); (try rw [show 0 * 6 = 0 from rfl] at hx125_5); (try rw [Addr.add_zero'] at hx125_5); have HR125_1 := Aside0.mk hi125_1; have HC125_1 := Aside0.mk hl125_1; clear hi125_1 hl125_1; replace p125 := eq_true p125; replace q125 := eq_true q125; have ea_ := Option.some.inj (hx109_1.symm.trans hx125_1); injection ea_ with ea_ en_ ec_; subst ea_; subst ec_; clear en_) | (go_at_call 188; (with_reducible refine (spec_l02Share.calls ((rd_T138 l0 0).f5) t126 _ A13.out).mono ?_); rintro e w' ⟨rfl, ⟨nd, rfl⟩⟩))
       go_ret
       exact ⟨by first | rfl | (simp; done) | (simp [*]; done), by repeat (first | exact Drawn0.refl _ | apply Drawn0.step)⟩
      ·replace c12 := Bool.eq_false_iff.mpr c12
       subst c12
       have H1 : (some false) = some r := by rw [if_neg (show ¬ (false = true) by decide)] at H; exact H
       clear H
       have H := H1
       clear H1
       obtain rfl := Option.some.inj H
       have p109 : 0 ≤ (0 : Int) := (by omega)
       have q109 : 0 < (l0.length : Int) := of_decide_eq_true (by first | (with_reducible assumption) | assumption)
       obtain ⟨ad109, A109_1, c109_1, e109, hx109_0, hx109_1, hx109_2, hx109_3, hx109_4, hx109_5, hl109_1, hi109_1⟩ := at_T138 HR0.out 0 p109 q109
       cases e109
       have qi109 : (0 < l0.length) = True := eq_true (by omega)
       (try rw [show ((0 : Int)).toNat = 0 from rfl] at hx109_0)
       (try rw [show 0 * 6 = 0 from rfl] at hx109_0)
       (try rw [Addr.add_zero'] at hx109_0)
       (try rw [show ((0 : Int)).toNat = 0 from rfl] at hx109_1)
       (try rw [show 0 * 6 = 0 from rfl] at hx109_1)
       (try rw [Addr.add_zero'] at hx109_1)
       (try rw [show ((0 : Int)).toNat = 0 from rfl] at hx109_2)
       (try rw [show 0 * 6 = 0 from rfl] at hx109_2)
       (try rw [Addr.add_zero'] at hx109_2)
       (try rw [show ((0 : Int)).toNat = 0 from rfl] at hx109_3)
       (try rw [show 0 * 6 = 0 from rfl] at hx109_3)
       (try rw [Addr.add_zero'] at hx109_3)
       (try rw [show ((0 : Int)).toNat = 0 from rfl] at hx109_4)
       (try rw [show 0 * 6 = 0 from rfl] at hx109_4)
       (try rw [Addr.add_zero'] at hx109_4)
       (try rw [show ((0 : Int)).toNat = 0 from rfl] at hx109_5)
       (try rw [show 0 * 6 = 0 from rfl] at hx109_5)
       (try rw [Addr.add_zero'] at hx109_5)
       have HR109_1 := Aside0.mk hi109_1
       have HC109_1 := Aside0.mk hl109_1
       clear hi109_1 hl109_1
       replace p109 := eq_true p109
       replace q109 := eq_true q109
       have p110 : 0 ≤ (0 : Int) := (by omega)
       have q110 : 0 < (l0.length : Int) := of_decide_eq_true (by first | (with_reducible assumption) | assumption)
       obtain ⟨ad110, A110_1, c110_1, e110, hx110_0, hx110_1, hx110_2, hx110_3, hx110_4, hx110_5, hl110_1, hi110_1⟩ := at_T138 HR0.out 0 p110 q110
       obtain rfl : ad109 = ad110 := (by injection e110)
       have qi110 : (0 < l0.length) = True := eq_true (by omega)
       (try rw [show ((0 : Int)).toNat = 0 from rfl] at hx110_0)
       (try rw [show 0 * 6 = 0 from rfl] at hx110_0)
       (try rw [Addr.add_zero'] at hx110_0)
       (try rw [show ((0 : Int)).toNat = 0 from rfl] at hx110_1)
       (try rw [show 0 * 6 = 0 from rfl] at hx110_1)
       (try rw [Addr.add_zero'] at hx110_1)
       (try rw [show ((0 : Int)).toNat = 0 from rfl] at hx110_2)
       (try rw [show 0 * 6 = 0 from rfl] at hx110_2)
       (try rw [Addr.add_zero'] at hx110_2)
       (try rw [show ((0 : Int)).toNat = 0 from rfl] at hx110_3)
       (try rw [show 0 * 6 = 0 from rfl] at hx110_3)
       (try rw [Addr.add_zero'] at hx110_3)
       (try rw [show ((0 : Int)).toNat = 0 from rfl] at hx110_4)
       (try rw [show 0 * 6 = 0 from rfl] at hx110_4)
       (try rw [Addr.add_zero'] at hx110_4)
       (try rw [show ((0 : Int)).toNat = 0 from rfl] at hx110_5)
       (try rw [show 0 * 6 = 0 from rfl] at hx110_5)
       (try rw [Addr.add_zero'] at hx110_5)
       have HR110_1 := Aside0.mk hi110_1
       have HC110_1 := Aside0.mk hl110_1
       clear hi110_1 hl110_1
       replace p110 := eq_true p110
       replace q110 := eq_true q110
       have ea_ := Option.some.inj (hx109_1.symm.trans hx110_1)
       injection ea_ with ea_ en_ ec_
       subst ea_
       subst ec_
       clear en_
       go_enter Try.func166, Try.ntmps166
       go_wp2_with (first | ((with_reducible refine gate_callee (f := 197) rfl ?_); refine goesL_ (some 7) rfl rfl Try.func197 (by kernel_rfl) rfl #[.string ((rd_T138 l0 0).f0)] rfl (by (try simp only [List.map_toArray, List.map_cons, List.map_nil]); first | done | rfl | (simp only [List.length_drop, List.length_take]; rfl)) ?_; (with_reducible refine (spec_l06Name.calls k ((rd_T138 l0 0).f0) true _ A3.out).mono ?_); rintro e w' ⟨rfl, ⟨nd, rfl⟩⟩; refine ⟨_, rfl, ?_⟩; have p112 : 0 ≤ (0 : Int) := (by omega); have q112 : 0 < (l0.length : Int) := of_decide_eq_true (by first | (with_reducible assumption) | assumption); obtain ⟨ad112, A112_1, c112_1, e112, hx112_0, hx112_1, hx112_2, hx112_3, hx112_4, hx112_5, hl112_1, hi112_1⟩ := at_T138 HR0.out 0 p112 q112; obtain rfl : ad109 = ad112 := (by injection e112); have qi112 : (0 < l0.length) = True := eq_true (by omega); (try rw [show ((0 : Int)).toNat = 0 from rfl] at hx112_0); (try rw [show 0 * 6 = 0 from rfl] at hx112_0); (try rw [Addr.add_zero'] at hx112_0); (try rw [show ((0 : Int)).toNat = 0 from rfl] at hx112_1); (try rw [show 0 * 6 = 0 from rfl] at hx112_1); (try rw [Addr.add_zero'] at hx112_1); (try rw [show ((0 : Int)).toNat = 0 from rfl] at hx112_2); (try rw [show 0 * 6 = 0 from rfl] at hx112_2); (try rw [Addr.add_zero'] at hx112_2); (try rw [show ((0 : Int)).toNat = 0 from rfl] at hx112_3); (try rw [show 0 * 6 = 0 from rfl] at hx112_3); (try rw [Addr.add_zero'] at hx112_3); (try rw [show ((0 : Int)).toNat = 0 from rfl] at hx112_4); (try rw [show 0 * 6 = 0 from rfl] at hx112_4); (try rw [Addr.add_zero'] at hx112_4); (try rw [show ((0 : Int)).toNat = 0 from rfl] at hx112_5); (try rw [show 0 * 6 = 0 from rfl] at hx112_5); (try rw [Addr.add_zero'] at hx112_5); have HR112_1 := Aside0.mk hi112_1; have HC112_1 := Aside0.mk hl112_1; clear hi112_1 hl112_1; replace p112 := eq_true p112; replace q112 := eq_true q112; have ea_ := Option.some.inj (hx109_1.symm.trans hx112_1); injection ea_ with ea_ en_ ec_; subst ea_; subst ec_; clear en_; have p113 : 0 ≤ (0 : Int) := (by omega); have q113 : 0 < (l0.length : Int) := of_decide_eq_true (by first | (with_reducible assumption) | assumption); obtain ⟨ad113, A113_1, c113_1, e113, hx113_0, hx113_1, hx113_2, hx113_3, hx113_4, hx113_5, hl113_1, hi113_1⟩ := at_T138 HR0.out 0 p113 q113; obtain rfl : ad109 = ad113 := (by injection e113); have qi113 : (0 < l0.length) = True := eq_true (by omega); (try rw [show ((0 : Int)).toNat = 0 from rfl] at hx113_0); (try rw [show 0 * 6 = 0 from rfl] at hx113_0); (try rw [Addr.add_zero'] at hx113_0); (try rw [show ((0 : Int)).toNat = 0 from rfl] at hx113_1); (try rw [show 0 * 6 = 0 from rfl] at hx113_1); (try rw [Addr.add_zero'] at hx113_1); (try rw [show ((0 : Int)).toNat = 0 from rfl] at hx113_2); (try rw [show 0 * 6 = 0 from rfl] at hx113_2); (try rw [Addr.add_zero'] at hx113_2); (try rw [show ((0 : Int)).toNat = 0 from rfl] at hx113_3); (try rw [show 0 * 6 = 0 from rfl] at hx113_3); (try rw [Addr.add_zero'] at hx113_3); (try rw [show ((0 : Int)).toNat = 0 from rfl] at hx113_4); (try rw [show 0 * 6 = 0 from rfl] at hx113_4); (try rw [Addr.add_zero'] at hx113_4); (try rw [show ((0 : Int)).toNat = 0 from rfl] at hx113_5); (try rw [show 0 * 6 = 0 from rfl] at hx113_5); (try rw [Addr.add_zero'] at hx113_5); have HR113_1 := Aside0.mk hi113_1; have HC113_1 := Aside0.mk hl113_1; clear hi113_1 hl113_1; replace p113 := eq_true p113; replace q113 := eq_true q113; have ea_ := Option.some.inj (hx109_1.symm.trans hx113_1); injection ea_ with ea_ en_ ec_; subst ea_; subst ec_; clear en_) | (go_at_call 198; (with_reducible refine (spec_l02Areas.calls k _ _ ((rd_T138 l0 0).f1) true _ ?side1 ?side2 A5.out).mono ?_); (case side1 => repeat (first | exact HR113_1.out | (with_reducible refine Kd.C_alloc ?_ _) | (with_reducible refine Kd.C_drewN ?_ _) | (with_reducible refine Kd.C_drew ?_))); (case side2 => exact HC113_1.out); rintro e w' ⟨rfl, ⟨nd, rfl⟩⟩; have p115 : 0 ≤ (0 : Int) := (by omega); have q115 : 0 < (l0.length : Int) := of_decide_eq_true (by first | (with_reducible assumption) | assumption); obtain ⟨ad115, A115_1, c115_1, e115, hx115_0, hx115_1, hx115_2, hx115_3, hx115_4, hx115_5, hl115_1, hi115_1⟩ := at_T138 HR0.out 0 p115 q115; obtain rfl : ad109 = ad115 := (by injection e115); have qi115 : (0 < l0.length) = True := eq_true (by omega); (try rw [show ((0 : Int)).toNat = 0 from rfl] at hx115_0); (try rw [show 0 * 6 = 0 from rfl] at hx115_0); (try rw [Addr.add_zero'] at hx115_0); (try rw [show ((0 : Int)).toNat = 0 from rfl] at hx115_1); (try rw [show 0 * 6 = 0 from rfl] at hx115_1); (try rw [Addr.add_zero'] at hx115_1); (try rw [show ((0 : Int)).toNat = 0 from rfl] at hx115_2); (try rw [show 0 * 6 = 0 from rfl] at hx115_2); (try rw [Addr.add_zero'] at hx115_2); (try rw [show ((0 : Int)).toNat = 0 from rfl] at hx115_3); (try rw [show 0 * 6 = 0 from rfl] at hx115_3); (try rw [Addr.add_zero'] at hx115_3); (try rw [show ((0 : Int)).toNat = 0 from rfl] at hx115_4); (try rw [show 0 * 6 = 0 from rfl] at hx115_4); (try rw [Addr.add_zero'] at hx115_4); (try rw [show ((0 : Int)).toNat = 0 from rfl] at hx115_5); (try rw [show 0 * 6 = 0 from rfl] at hx115_5); (try rw [Addr.add_zero'] at hx115_5); have HR115_1 := Aside0.mk hi115_1; have HC115_1 := Aside0.mk hl115_1; clear hi115_1 hl115_1; replace p115 := eq_true p115; replace q115 := eq_true q115; have ea_ := Option.some.inj (hx109_1.symm.trans hx115_1); injection ea_ with ea_ en_ ec_; subst ea_; subst ec_; clear en_; have p116 : 0 ≤ (0 : Int) := (by omega); have q116 : 0 < (l0.length : Int) := of_decide_eq_true (by first | (with_reducible assumption) | assumption); obtain ⟨ad116, A116_1, c116_1, e116, hx116_0, hx116_1, hx116_2, hx116_3, hx116_4, hx116_5, hl116_1, hi116_1⟩ := at_T138 HR0.out 0 p116 q116; obtain rfl : ad109 = ad116 := (by injection e116); have qi116 : (0 < l0.length) = True := eq_true (by omega); (try rw [show ((0 : Int)).toNat = 0 from rfl] at hx116_0); (try rw [show 0 * 6 = 0 from rfl] at hx116_0); (try rw [Addr.add_zero'] at hx116_0); (try rw [show ((0 : Int)).toNat = 0 from rfl] at hx116_1); (try rw [show 0 * 6 = 0 from rfl] at hx116_1); (try rw [Addr.add_zero'] at hx116_1); (try rw [show ((0 : Int)).toNat = 0 from rfl] at hx116_2); (try rw [show 0 * 6 = 0 from rfl] at hx116_2); (try rw [Addr.add_zero'] at hx116_2); (try rw [show ((0 : Int)).toNat = 0 from rfl] at hx116_3); (try rw [show 0 * 6 = 0 from rfl] at hx116_3); (try rw [Addr.add_zero'] at hx116_3); (try rw [show ((0 : Int)).toNat = 0 from rfl] at hx116_4); (try rw [show 0 * 6 = 0 from rfl] at hx116_4); (try rw [Addr.add_zero'] at hx116_4); (try rw [show ((0 : Int)).toNat = 0 from rfl] at hx116_5); (try rw [show 0 * 6 = 0 from rfl] at hx116_5); (try rw [Addr.add_zero'] at hx116_5); have HR116_1 := Aside0.mk hi116_1; have HC116_1 := Aside0.mk hl116_1; clear hi116_1 hl116_1; replace p116 := eq_true p116; replace q116 := eq_true q116; have ea_ := Option.some.inj (hx109_1.symm.trans hx116_1); injection ea_ with ea_ en_ ec_; subst ea_; subst ec_; clear en_) | (go_at_call 146; (with_reducible refine (spec_l02Above.calls ((rd_T138 l0 0).f2) true _ A7.out).mono ?_); rintro e w' ⟨rfl, ⟨nd, rfl⟩⟩; have p118 : 0 ≤ (0 : Int) := (by omega); have q118 : 0 < (l0.length : Int) := of_decide_eq_true (by first | (with_reducible assumption) | assumption); obtain ⟨ad118, A118_1, c118_1, e118, hx118_0, hx118_1, hx118_2, hx118_3, hx118_4, hx118_5, hl118_1, hi118_1⟩ := at_T138 HR0.out 0 p118 q118; obtain rfl : ad109 = ad118 := (by injection e118); have qi118 : (0 < l0.length) = True := eq_true (by omega); (try rw [show ((0 : Int)).toNat = 0 from rfl] at hx118_0); (try rw [show 0 * 6 = 0 from rfl] at hx118_0); (try rw [Addr.add_zero'] at hx118_0); (try rw [show ((0 : Int)).toNat = 0 from rfl] at hx118_1); (try rw [show 0 * 6 = 0 from rfl] at hx118_1); (try rw [Addr.add_zero'] at hx118_1); (try rw [show ((0 : Int)).toNat = 0 from rfl] at hx118_2); (try rw [show 0 * 6 = 0 from rfl] at hx118_2); (try rw [Addr.add_zero'] at hx118_2); (try rw [show ((0 : Int)).toNat = 0 from rfl] at hx118_3); (try rw [show 0 * 6 = 0 from rfl] at hx118_3); (try rw [Addr.add_zero'] at hx118_3); (try rw [show ((0 : Int)).toNat = 0 from rfl] at hx118_4); (try rw [show 0 * 6 = 0 from rfl] at hx118_4); (try rw [Addr.add_zero'] at hx118_4); (try rw [show ((0 : Int)).toNat = 0 from rfl] at hx118_5); (try rw [show 0 * 6 = 0 from rfl] at hx118_5); (try rw [Addr.add_zero'] at hx118_5); have HR118_1 := Aside0.mk hi118_1; have HC118_1 := Aside0.mk hl118_1; clear hi118_1 hl118_1; replace p118 := eq_true p118; replace q118 := eq_true q118; have ea_ := Option.some.inj (hx109_1.symm.trans hx118_1); injection ea_ with ea_ en_ ec_; subst ea_; subst ec_; clear en_; have p119 : 0 ≤ (0 : Int) := (by omega); have q119 : 0 < (l0.length : Int) := of_decide_eq_true (by first | (with_reducible assumption) | assumption); obtain ⟨ad119, A119_1, c119_1, e119, hx119_0, hx119_1, hx119_2, hx119_3, hx119_4, hx119_5, hl119_1, hi119_1⟩ := at_T138 HR0.out 0 p119 q119; obtain rfl : ad109 = ad119 := (by injection e119); have qi119 : (0 < l0.length) = True := eq_true (by omega); (try rw [show ((0 : Int)).toNat = 0 from rfl] at hx119_0); (try rw [show 0 * 6 = 0 from rfl] at hx119_0); (try rw [Addr.add_zero'] at hx119_0); (try rw [show ((0 : Int)).toNat = 0 from rfl] at hx119_1); (try rw [show 0 * 6 = 0 from rfl] at hx119_1); (try rw [Addr.add_zero'] at hx119_1); (try rw [show ((0 : Int)).toNat = 0 from rfl] at hx119_2); (try rw [show 0 * 6 = 0 from rfl] at hx119_2); (try rw [Addr.add_zero'] at hx119_2); (try rw [show ((0 : Int)).toNat = 0 from rfl] at hx119_3); (try rw [show 0 * 6 = 0 from rfl] at hx119_3); (try rw [Addr.add_zero'] at hx119_3); (try rw [show ((0 : Int)).toNat = 0 from rfl] at hx119_4); (try rw [show 0 * 6 = 0 from rfl] at hx119_4); (try rw [Addr.add_zero'] at hx119_4); (try rw [show ((0 : Int)).toNat = 0 from rfl] at hx119_5); (try rw [show 0 * 6 = 0 from rfl] at hx119_5); (try rw [Addr.add_zero'] at hx119_5); have HR119_1 := Aside0.mk hi119_1; have HC119_1 := Aside0.mk hl119_1; clear hi119_1 hl119_1; replace p119 := eq_true p119; replace q119 := eq_true q119; have ea_ := Option.some.inj (hx109_1.symm.trans hx119_1); injection ea_ with ea_ en_ ec_; subst ea_; subst ec_; clear en_) | (go_at_call 199; (with_reducible refine (spec_l02Least.calls ((rd_T138 l0 0).f3) true _ A9.out).mono ?_); rintro e w' ⟨rfl, ⟨nd, rfl⟩⟩; have p121 : 0 ≤ (0 : Int) := (by omega); have q121 : 0 < (l0.length : Int) := of_decide_eq_true (by first | (with_reducible assumption) | assumption); obtain ⟨ad121, A121_1, c121_1, e121, hx121_0, hx121_1, hx121_2, hx121_3, hx121_4, hx121_5, hl121_1, hi121_1⟩ := at_T138 HR0.out 0 p121 q121; obtain rfl : ad109 = ad121 := (by injection e121); have qi121 : (0 < l0.length) = True := eq_true (by omega); (try rw [show ((0 : Int)).toNat = 0 from rfl] at hx121_0); (try rw [show 0 * 6 = 0 from rfl] at hx121_0); (try rw [Addr.add_zero'] at hx121_0); (try rw [show ((0 : Int)).toNat = 0 from rfl] at hx121_1); (try rw [show 0 * 6 = 0 from rfl] at hx121_1); (try rw [Addr.add_zero'] at hx121_1); (try rw [show ((0 : Int)).toNat = 0 from rfl] at hx121_2); (try rw [show 0 * 6 = 0 from rfl] at hx121_2); (try rw [Addr.add_zero'] at hx121_2); (try rw [show ((0 : Int)).toNat = 0 from rfl] at hx121_3); (try rw [show 0 * 6 = 0 from rfl] at hx121_3); (try rw [Addr.add_zero'] at hx121_3); (try rw [show ((0 : Int)).toNat = 0 from rfl] at hx121_4); (try rw [show 0 * 6 = 0 from rfl] at hx121_4); (try rw [Addr.add_zero'] at hx121_4); (try rw [show ((0 : Int)).toNat = 0 from rfl] at hx121_5); (try rw [show 0 * 6 = 0 from rfl] at hx121_5); (try rw [Addr.add_zero'] at hx121_5); have HR121_1 := Aside0.mk hi121_1; have HC121_1 := Aside0.mk hl121_1; clear hi121_1 hl121_1; replace p121 := eq_true p121; replace q121 := eq_true q121; have ea_ := Option.some.inj (hx109_1.symm.trans hx121_1); injection ea_ with ea_ en_ ec_; subst ea_; subst ec_; clear en_; have p122 : 0 ≤ (0 : Int) := (by omega); have q122 : 0 < (l0.length : Int) := of_decide_eq_true (by first | (with_reducible assumption) | assumption); obtain ⟨ad122, A122_1, c122_1, e122, hx122_0, hx122_1, hx122_2, hx122_3, hx122_4, hx122_5, hl122_1, hi122_1⟩ := at_T138 HR0.out 0 p122 q122; obtain rfl : ad109 = ad122 := (by injection e122); have qi122 : (0 < l0.length) = True := eq_true (by omega); (try rw [show ((0 : Int)).toNat = 0 from rfl] at hx122_0); (try rw [show 0 * 6 = 0 from rfl] at hx122_0); (try rw [Addr.add_zero'] at hx122_0); (try rw [show ((0 : Int)).toNat = 0 from rfl] at hx122_1); (try rw [show 0 * 6 = 0 from rfl] at hx122_1); (try rw [Addr.add_zero'] at hx122_1); (try rw [show ((0 : Int)).toNat = 0 from rfl] at hx122_2); (try rw [show 0 * 6 = 0 from rfl] at hx122_2); (try rw [Addr.add_zero'] at hx122_2); (try rw [show ((0 : Int)).toNat = 0 from rfl] at hx122_3); (try rw [show 0 * 6 = 0 from rfl] at hx122_3); (try rw [Addr.add_zero'] at hx122_3); (try rw [show ((0 : Int)).toNat = 0 from rfl] at hx122_4); (try rw [show 0 * 6 = 0 from rfl] at hx122_4); (try rw [Addr.add_zero'] at hx122_4); (try rw [show ((0 : Int)).toNat = 0 from rfl] at hx122_5); (try rw [show 0 * 6 = 0 from rfl] at hx122_5); (try rw [Addr.add_zero'] at hx122_5); have HR122_1 := Aside0.mk hi122_1; have HC122_1 := Aside0.mk hl122_1; clear hi122_1 hl122_1; replace p122 := eq_true p122; replace q122 := eq_true q122; have ea_ := Option.some.inj (hx109_1.symm.trans hx122_1); injection ea_ with ea_ en_ ec_; subst ea_; subst ec_; clear en_) | (go_at_call 188; (with_reducible refine (spec_l02Share.calls ((rd_T138 l0 0).f4) false _ A11.out).mono ?_); rintro e w' ⟨rfl, ⟨nd, rfl⟩⟩))
       go_ret
       exact ⟨by first | rfl | (simp; done) | (simp [*]; done), by repeat (first | exact Drawn0.refl _ | apply Drawn0.step)⟩
     ·replace c10 := Bool.eq_false_iff.mpr c10
      subst c10
      have H1 : (some false) = some r := by rw [if_neg (show ¬ (false = true) by decide)] at H; exact H
      clear H
      have H := H1
      clear H1
      obtain rfl := Option.some.inj H
      have p109 : 0 ≤ (0 : Int) := (by omega)
      have q109 : 0 < (l0.length : Int) := of_decide_eq_true (by first | (with_reducible assumption) | assumption)
      obtain ⟨ad109, A109_1, c109_1, e109, hx109_0, hx109_1, hx109_2, hx109_3, hx109_4, hx109_5, hl109_1, hi109_1⟩ := at_T138 HR0.out 0 p109 q109
      cases e109
      have qi109 : (0 < l0.length) = True := eq_true (by omega)
      (try rw [show ((0 : Int)).toNat = 0 from rfl] at hx109_0)
      (try rw [show 0 * 6 = 0 from rfl] at hx109_0)
      (try rw [Addr.add_zero'] at hx109_0)
      (try rw [show ((0 : Int)).toNat = 0 from rfl] at hx109_1)
      (try rw [show 0 * 6 = 0 from rfl] at hx109_1)
      (try rw [Addr.add_zero'] at hx109_1)
      (try rw [show ((0 : Int)).toNat = 0 from rfl] at hx109_2)
      (try rw [show 0 * 6 = 0 from rfl] at hx109_2)
      (try rw [Addr.add_zero'] at hx109_2)
      (try rw [show ((0 : Int)).toNat = 0 from rfl] at hx109_3)
      (try rw [show 0 * 6 = 0 from rfl] at hx109_3)
      (try rw [Addr.add_zero'] at hx109_3)
      (try rw [show ((0 : Int)).toNat = 0 from rfl] at hx109_4)
      (try rw [show 0 * 6 = 0 from rfl] at hx109_4)
      (try rw [Addr.add_zero'] at hx109_4)
      (try rw [show ((0 : Int)).toNat = 0 from rfl] at hx109_5)
      (try rw [show 0 * 6 = 0 from rfl] at hx109_5)
      (try rw [Addr.add_zero'] at hx109_5)
      have HR109_1 := Aside0.mk hi109_1
      have HC109_1 := Aside0.mk hl109_1
      clear hi109_1 hl109_1
      replace p109 := eq_true p109
      replace q109 := eq_true q109
      have p110 : 0 ≤ (0 : Int) := (by omega)
      have q110 : 0 < (l0.length : Int) := of_decide_eq_true (by first | (with_reducible assumption) | assumption)
      obtain ⟨ad110, A110_1, c110_1, e110, hx110_0, hx110_1, hx110_2, hx110_3, hx110_4, hx110_5, hl110_1, hi110_1⟩ := at_T138 HR0.out 0 p110 q110
      obtain rfl : ad109 = ad110 := (by injection e110)
      have qi110 : (0 < l0.length) = True := eq_true (by omega)
      (try rw [show ((0 : Int)).toNat = 0 from rfl] at hx110_0)
      (try rw [show 0 * 6 = 0 from rfl] at hx110_0)
      (try rw [Addr.add_zero'] at hx110_0)
      (try rw [show ((0 : Int)).toNat = 0 from rfl] at hx110_1)
      (try rw [show 0 * 6 = 0 from rfl] at hx110_1)
      (try rw [Addr.add_zero'] at hx110_1)
      (try rw [show ((0 : Int)).toNat = 0 from rfl] at hx110_2)
      (try rw [show 0 * 6 = 0 from rfl] at hx110_2)
      (try rw [Addr.add_zero'] at hx110_2)
      (try rw [show ((0 : Int)).toNat = 0 from rfl] at hx110_3)
      (try rw [show 0 * 6 = 0 from rfl] at hx110_3)
      (try rw [Addr.add_zero'] at hx110_3)
      (try rw [show ((0 : Int)).toNat = 0 from rfl] at hx110_4)
      (try rw [show 0 * 6 = 0 from rfl] at hx110_4)
      (try rw [Addr.add_zero'] at hx110_4)
      (try rw [show ((0 : Int)).toNat = 0 from rfl] at hx110_5)
      (try rw [show 0 * 6 = 0 from rfl] at hx110_5)
      (try rw [Addr.add_zero'] at hx110_5)
      have HR110_1 := Aside0.mk hi110_1
      have HC110_1 := Aside0.mk hl110_1
      clear hi110_1 hl110_1
      replace p110 := eq_true p110
      replace q110 := eq_true q110
      have ea_ := Option.some.inj (hx109_1.symm.trans hx110_1)
      injection ea_ with ea_ en_ ec_
      subst ea_
      subst ec_
      clear en_
      go_enter Try.func166, Try.ntmps166
      go_wp2_with (first | ((with_reducible refine gate_callee (f := 197) rfl ?_); refine goesL_ (some 7) rfl rfl Try.func197 (by kernel_rfl) rfl #[.string ((rd_T138 l0 0).f0)] rfl (by (try simp only [List.map_toArray, List.map_cons, List.map_nil]); first | done | rfl | (simp only [List.length_drop, List.length_take]; rfl)) ?_; (with_reducible refine (spec_l06Name.calls k ((rd_T138 l0 0).f0) true _ A3.out).mono ?_); rintro e w' ⟨rfl, ⟨nd, rfl⟩⟩; refine ⟨_, rfl, ?_⟩; have p112 : 0 ≤ (0 : Int) := (by omega); have q112 : 0 < (l0.length : Int) := of_decide_eq_true (by first | (with_reducible assumption) | assumption); obtain ⟨ad112, A112_1, c112_1, e112, hx112_0, hx112_1, hx112_2, hx112_3, hx112_4, hx112_5, hl112_1, hi112_1⟩ := at_T138 HR0.out 0 p112 q112; obtain rfl : ad109 = ad112 := (by injection e112); have qi112 : (0 < l0.length) = True := eq_true (by omega); (try rw [show ((0 : Int)).toNat = 0 from rfl] at hx112_0); (try rw [show 0 * 6 = 0 from rfl] at hx112_0); (try rw [Addr.add_zero'] at hx112_0); (try rw [show ((0 : Int)).toNat = 0 from rfl] at hx112_1); (try rw [show 0 * 6 = 0 from rfl] at hx112_1); (try rw [Addr.add_zero'] at hx112_1); (try rw [show ((0 : Int)).toNat = 0 from rfl] at hx112_2); (try rw [show 0 * 6 = 0 from rfl] at hx112_2); (try rw [Addr.add_zero'] at hx112_2); (try rw [show ((0 : Int)).toNat = 0 from rfl] at hx112_3); (try rw [show 0 * 6 = 0 from rfl] at hx112_3); (try rw [Addr.add_zero'] at hx112_3); (try rw [show ((0 : Int)).toNat = 0 from rfl] at hx112_4); (try rw [show 0 * 6 = 0 from rfl] at hx112_4); (try rw [Addr.add_zero'] at hx112_4); (try rw [show ((0 : Int)).toNat = 0 from rfl] at hx112_5); (try rw [show 0 * 6 = 0 from rfl] at hx112_5); (try rw [Addr.add_zero'] at hx112_5); have HR112_1 := Aside0.mk hi112_1; have HC112_1 := Aside0.mk hl112_1; clear hi112_1 hl112_1; replace p112 := eq_true p112; replace q112 := eq_true q112; have ea_ := Option.some.inj (hx109_1.symm.trans hx112_1); injection ea_ with ea_ en_ ec_; subst ea_; subst ec_; clear en_; have p113 : 0 ≤ (0 : Int) := (by omega); have q113 : 0 < (l0.length : Int) := of_decide_eq_true (by first | (with_reducible assumption) | assumption); obtain ⟨ad113, A113_1, c113_1, e113, hx113_0, hx113_1, hx113_2, hx113_3, hx113_4, hx113_5, hl113_1, hi113_1⟩ := at_T138 HR0.out 0 p113 q113; obtain rfl : ad109 = ad113 := (by injection e113); have qi113 : (0 < l0.length) = True := eq_true (by omega); (try rw [show ((0 : Int)).toNat = 0 from rfl] at hx113_0); (try rw [show 0 * 6 = 0 from rfl] at hx113_0); (try rw [Addr.add_zero'] at hx113_0); (try rw [show ((0 : Int)).toNat = 0 from rfl] at hx113_1); (try rw [show 0 * 6 = 0 from rfl] at hx113_1); (try rw [Addr.add_zero'] at hx113_1); (try rw [show ((0 : Int)).toNat = 0 from rfl] at hx113_2); (try rw [show 0 * 6 = 0 from rfl] at hx113_2); (try rw [Addr.add_zero'] at hx113_2); (try rw [show ((0 : Int)).toNat = 0 from rfl] at hx113_3); (try rw [show 0 * 6 = 0 from rfl] at hx113_3); (try rw [Addr.add_zero'] at hx113_3); (try rw [show ((0 : Int)).toNat = 0 from rfl] at hx113_4); (try rw [show 0 * 6 = 0 from rfl] at hx113_4); (try rw [Addr.add_zero'] at hx113_4); (try rw [show ((0 : Int)).toNat = 0 from rfl] at hx113_5); (try rw [show 0 * 6 = 0 from rfl] at hx113_5); (try rw [Addr.add_zero'] at hx113_5); have HR113_1 := Aside0.mk hi113_1; have HC113_1 := Aside0.mk hl113_1; clear hi113_1 hl113_1; replace p113 := eq_true p113; replace q113 := eq_true q113; have ea_ := Option.some.inj (hx109_1.symm.trans hx113_1); injection ea_ with ea_ en_ ec_; subst ea_; subst ec_; clear en_) | (go_at_call 198; (with_reducible refine (spec_l02Areas.calls k _ _ ((rd_T138 l0 0).f1) true _ ?side1 ?side2 A5.out).mono ?_); (case side1 => repeat (first | exact HR113_1.out | (with_reducible refine Kd.C_alloc ?_ _) | (with_reducible refine Kd.C_drewN ?_ _) | (with_reducible refine Kd.C_drew ?_))); (case side2 => exact HC113_1.out); rintro e w' ⟨rfl, ⟨nd, rfl⟩⟩; have p115 : 0 ≤ (0 : Int) := (by omega); have q115 : 0 < (l0.length : Int) := of_decide_eq_true (by first | (with_reducible assumption) | assumption); obtain ⟨ad115, A115_1, c115_1, e115, hx115_0, hx115_1, hx115_2, hx115_3, hx115_4, hx115_5, hl115_1, hi115_1⟩ := at_T138 HR0.out 0 p115 q115; obtain rfl : ad109 = ad115 := (by injection e115); have qi115 : (0 < l0.length) = True := eq_true (by omega); (try rw [show ((0 : Int)).toNat = 0 from rfl] at hx115_0); (try rw [show 0 * 6 = 0 from rfl] at hx115_0); (try rw [Addr.add_zero'] at hx115_0); (try rw [show ((0 : Int)).toNat = 0 from rfl] at hx115_1); (try rw [show 0 * 6 = 0 from rfl] at hx115_1); (try rw [Addr.add_zero'] at hx115_1); (try rw [show ((0 : Int)).toNat = 0 from rfl] at hx115_2); (try rw [show 0 * 6 = 0 from rfl] at hx115_2); (try rw [Addr.add_zero'] at hx115_2); (try rw [show ((0 : Int)).toNat = 0 from rfl] at hx115_3); (try rw [show 0 * 6 = 0 from rfl] at hx115_3); (try rw [Addr.add_zero'] at hx115_3); (try rw [show ((0 : Int)).toNat = 0 from rfl] at hx115_4); (try rw [show 0 * 6 = 0 from rfl] at hx115_4); (try rw [Addr.add_zero'] at hx115_4); (try rw [show ((0 : Int)).toNat = 0 from rfl] at hx115_5); (try rw [show 0 * 6 = 0 from rfl] at hx115_5); (try rw [Addr.add_zero'] at hx115_5); have HR115_1 := Aside0.mk hi115_1; have HC115_1 := Aside0.mk hl115_1; clear hi115_1 hl115_1; replace p115 := eq_true p115; replace q115 := eq_true q115; have ea_ := Option.some.inj (hx109_1.symm.trans hx115_1); injection ea_ with ea_ en_ ec_; subst ea_; subst ec_; clear en_; have p116 : 0 ≤ (0 : Int) := (by omega); have q116 : 0 < (l0.length : Int) := of_decide_eq_true (by first | (with_reducible assumption) | assumption); obtain ⟨ad116, A116_1, c116_1, e116, hx116_0, hx116_1, hx116_2, hx116_3, hx116_4, hx116_5, hl116_1, hi116_1⟩ := at_T138 HR0.out 0 p116 q116; obtain rfl : ad109 = ad116 := (by injection e116); have qi116 : (0 < l0.length) = True := eq_true (by omega); (try rw [show ((0 : Int)).toNat = 0 from rfl] at hx116_0); (try rw [show 0 * 6 = 0 from rfl] at hx116_0); (try rw [Addr.add_zero'] at hx116_0); (try rw [show ((0 : Int)).toNat = 0 from rfl] at hx116_1); (try rw [show 0 * 6 = 0 from rfl] at hx116_1); (try rw [Addr.add_zero'] at hx116_1); (try rw [show ((0 : Int)).toNat = 0 from rfl] at hx116_2); (try rw [show 0 * 6 = 0 from rfl] at hx116_2); (try rw [Addr.add_zero'] at hx116_2); (try rw [show ((0 : Int)).toNat = 0 from rfl] at hx116_3); (try rw [show 0 * 6 = 0 from rfl] at hx116_3); (try rw [Addr.add_zero'] at hx116_3); (try rw [show ((0 : Int)).toNat = 0 from rfl] at hx116_4); (try rw [show 0 * 6 = 0 from rfl] at hx116_4); (try rw [Addr.add_zero'] at hx116_4); (try rw [show ((0 : Int)).toNat = 0 from rfl] at hx116_5); (try rw [show 0 * 6 = 0 from rfl] at hx116_5); (try rw [Addr.add_zero'] at hx116_5); have HR116_1 := Aside0.mk hi116_1; have HC116_1 := Aside0.mk hl116_1; clear hi116_1 hl116_1; replace p116 := eq_true p116; replace q116 := eq_true q116; have ea_ := Option.some.inj (hx109_1.symm.trans hx116_1); injection ea_ with ea_ en_ ec_; subst ea_; subst ec_; clear en_) | (go_at_call 146; (with_reducible refine (spec_l02Above.calls ((rd_T138 l0 0).f2) true _ A7.out).mono ?_); rintro e w' ⟨rfl, ⟨nd, rfl⟩⟩; have p118 : 0 ≤ (0 : Int) := (by omega); have q118 : 0 < (l0.length : Int) := of_decide_eq_true (by first | (with_reducible assumption) | assumption); obtain ⟨ad118, A118_1, c118_1, e118, hx118_0, hx118_1, hx118_2, hx118_3, hx118_4, hx118_5, hl118_1, hi118_1⟩ := at_T138 HR0.out 0 p118 q118; obtain rfl : ad109 = ad118 := (by injection e118); have qi118 : (0 < l0.length) = True := eq_true (by omega); (try rw [show ((0 : Int)).toNat = 0 from rfl] at hx118_0); (try rw [show 0 * 6 = 0 from rfl] at hx118_0); (try rw [Addr.add_zero'] at hx118_0); (try rw [show ((0 : Int)).toNat = 0 from rfl] at hx118_1); (try rw [show 0 * 6 = 0 from rfl] at hx118_1); (try rw [Addr.add_zero'] at hx118_1); (try rw [show ((0 : Int)).toNat = 0 from rfl] at hx118_2); (try rw [show 0 * 6 = 0 from rfl] at hx118_2); (try rw [Addr.add_zero'] at hx118_2); (try rw [show ((0 : Int)).toNat = 0 from rfl] at hx118_3); (try rw [show 0 * 6 = 0 from rfl] at hx118_3); (try rw [Addr.add_zero'] at hx118_3); (try rw [show ((0 : Int)).toNat = 0 from rfl] at hx118_4); (try rw [show 0 * 6 = 0 from rfl] at hx118_4); (try rw [Addr.add_zero'] at hx118_4); (try rw [show ((0 : Int)).toNat = 0 from rfl] at hx118_5); (try rw [show 0 * 6 = 0 from rfl] at hx118_5); (try rw [Addr.add_zero'] at hx118_5); have HR118_1 := Aside0.mk hi118_1; have HC118_1 := Aside0.mk hl118_1; clear hi118_1 hl118_1; replace p118 := eq_true p118; replace q118 := eq_true q118; have ea_ := Option.some.inj (hx109_1.symm.trans hx118_1); injection ea_ with ea_ en_ ec_; subst ea_; subst ec_; clear en_; have p119 : 0 ≤ (0 : Int) := (by omega); have q119 : 0 < (l0.length : Int) := of_decide_eq_true (by first | (with_reducible assumption) | assumption); obtain ⟨ad119, A119_1, c119_1, e119, hx119_0, hx119_1, hx119_2, hx119_3, hx119_4, hx119_5, hl119_1, hi119_1⟩ := at_T138 HR0.out 0 p119 q119; obtain rfl : ad109 = ad119 := (by injection e119); have qi119 : (0 < l0.length) = True := eq_true (by omega); (try rw [show ((0 : Int)).toNat = 0 from rfl] at hx119_0); (try rw [show 0 * 6 = 0 from rfl] at hx119_0); (try rw [Addr.add_zero'] at hx119_0); (try rw [show ((0 : Int)).toNat = 0 from rfl] at hx119_1); (try rw [show 0 * 6 = 0 from rfl] at hx119_1); (try rw [Addr.add_zero'] at hx119_1); (try rw [show ((0 : Int)).toNat = 0 from rfl] at hx119_2); (try rw [show 0 * 6 = 0 from rfl] at hx119_2); (try rw [Addr.add_zero'] at hx119_2); (try rw [show ((0 : Int)).toNat = 0 from rfl] at hx119_3); (try rw [show 0 * 6 = 0 from rfl] at hx119_3); (try rw [Addr.add_zero'] at hx119_3); (try rw [show ((0 : Int)).toNat = 0 from rfl] at hx119_4); (try rw [show 0 * 6 = 0 from rfl] at hx119_4); (try rw [Addr.add_zero'] at hx119_4); (try rw [show ((0 : Int)).toNat = 0 from rfl] at hx119_5); (try rw [show 0 * 6 = 0 from rfl] at hx119_5); (try rw [Addr.add_zero'] at hx119_5); have HR119_1 := Aside0.mk hi119_1; have HC119_1 := Aside0.mk hl119_1; clear hi119_1 hl119_1; replace p119 := eq_true p119; replace q119 := eq_true q119; have ea_ := Option.some.inj (hx109_1.symm.trans hx119_1); injection ea_ with ea_ en_ ec_; subst ea_; subst ec_; clear en_) | (go_at_call 199; (with_reducible refine (spec_l02Least.calls ((rd_T138 l0 0).f3) false _ A9.out).mono ?_); rintro e w' ⟨rfl, ⟨nd, rfl⟩⟩))
      go_ret
      exact ⟨by first | rfl | (simp; done) | (simp [*]; done), by repeat (first | exact Drawn0.refl _ | apply Drawn0.step)⟩
    ·replace c8 := Bool.eq_false_iff.mpr c8
     subst c8
     have H1 : (some false) = some r := by rw [if_neg (show ¬ (false = true) by decide)] at H; exact H
     clear H
     have H := H1
     clear H1
     obtain rfl := Option.some.inj H
     have p109 : 0 ≤ (0 : Int) := (by omega)
     have q109 : 0 < (l0.length : Int) := of_decide_eq_true (by first | (with_reducible assumption) | assumption)
     obtain ⟨ad109, A109_1, c109_1, e109, hx109_0, hx109_1, hx109_2, hx109_3, hx109_4, hx109_5, hl109_1, hi109_1⟩ := at_T138 HR0.out 0 p109 q109
     cases e109
     have qi109 : (0 < l0.length) = True := eq_true (by omega)
     (try rw [show ((0 : Int)).toNat = 0 from rfl] at hx109_0)
     (try rw [show 0 * 6 = 0 from rfl] at hx109_0)
     (try rw [Addr.add_zero'] at hx109_0)
     (try rw [show ((0 : Int)).toNat = 0 from rfl] at hx109_1)
     (try rw [show 0 * 6 = 0 from rfl] at hx109_1)
     (try rw [Addr.add_zero'] at hx109_1)
     (try rw [show ((0 : Int)).toNat = 0 from rfl] at hx109_2)
     (try rw [show 0 * 6 = 0 from rfl] at hx109_2)
     (try rw [Addr.add_zero'] at hx109_2)
     (try rw [show ((0 : Int)).toNat = 0 from rfl] at hx109_3)
     (try rw [show 0 * 6 = 0 from rfl] at hx109_3)
     (try rw [Addr.add_zero'] at hx109_3)
     (try rw [show ((0 : Int)).toNat = 0 from rfl] at hx109_4)
     (try rw [show 0 * 6 = 0 from rfl] at hx109_4)
     (try rw [Addr.add_zero'] at hx109_4)
     (try rw [show ((0 : Int)).toNat = 0 from rfl] at hx109_5)
     (try rw [show 0 * 6 = 0 from rfl] at hx109_5)
     (try rw [Addr.add_zero'] at hx109_5)
     have HR109_1 := Aside0.mk hi109_1
     have HC109_1 := Aside0.mk hl109_1
     clear hi109_1 hl109_1
     replace p109 := eq_true p109
     replace q109 := eq_true q109
     have p110 : 0 ≤ (0 : Int) := (by omega)
     have q110 : 0 < (l0.length : Int) := of_decide_eq_true (by first | (with_reducible assumption) | assumption)
     obtain ⟨ad110, A110_1, c110_1, e110, hx110_0, hx110_1, hx110_2, hx110_3, hx110_4, hx110_5, hl110_1, hi110_1⟩ := at_T138 HR0.out 0 p110 q110
     obtain rfl : ad109 = ad110 := (by injection e110)
     have qi110 : (0 < l0.length) = True := eq_true (by omega)
     (try rw [show ((0 : Int)).toNat = 0 from rfl] at hx110_0)
     (try rw [show 0 * 6 = 0 from rfl] at hx110_0)
     (try rw [Addr.add_zero'] at hx110_0)
     (try rw [show ((0 : Int)).toNat = 0 from rfl] at hx110_1)
     (try rw [show 0 * 6 = 0 from rfl] at hx110_1)
     (try rw [Addr.add_zero'] at hx110_1)
     (try rw [show ((0 : Int)).toNat = 0 from rfl] at hx110_2)
     (try rw [show 0 * 6 = 0 from rfl] at hx110_2)
     (try rw [Addr.add_zero'] at hx110_2)
     (try rw [show ((0 : Int)).toNat = 0 from rfl] at hx110_3)
     (try rw [show 0 * 6 = 0 from rfl] at hx110_3)
     (try rw [Addr.add_zero'] at hx110_3)
     (try rw [show ((0 : Int)).toNat = 0 from rfl] at hx110_4)
     (try rw [show 0 * 6 = 0 from rfl] at hx110_4)
     (try rw [Addr.add_zero'] at hx110_4)
     (try rw [show ((0 : Int)).toNat = 0 from rfl] at hx110_5)
     (try rw [show 0 * 6 = 0 from rfl] at hx110_5)
     (try rw [Addr.add_zero'] at hx110_5)
     have HR110_1 := Aside0.mk hi110_1
     have HC110_1 := Aside0.mk hl110_1
     clear hi110_1 hl110_1
     replace p110 := eq_true p110
     replace q110 := eq_true q110
     have ea_ := Option.some.inj (hx109_1.symm.trans hx110_1)
     injection ea_ with ea_ en_ ec_
     subst ea_
     subst ec_
     clear en_
     go_enter Try.func166, Try.ntmps166
     go_wp2_with (first | ((with_reducible refine gate_callee (f := 197) rfl ?_); refine goesL_ (some 7) rfl rfl Try.func197 (by kernel_rfl) rfl #[.string ((rd_T138 l0 0).f0)] rfl (by (try simp only [List.map_toArray, List.map_cons, List.map_nil]); first | done | rfl | (simp only [List.length_drop, List.length_take]; rfl)) ?_; (with_reducible refine (spec_l06Name.calls k ((rd_T138 l0 0).f0) true _ A3.out).mono ?_); rintro e w' ⟨rfl, ⟨nd, rfl⟩⟩; refine ⟨_, rfl, ?_⟩; have p112 : 0 ≤ (0 : Int) := (by omega); have q112 : 0 < (l0.length : Int) := of_decide_eq_true (by first | (with_reducible assumption) | assumption); obtain ⟨ad112, A112_1, c112_1, e112, hx112_0, hx112_1, hx112_2, hx112_3, hx112_4, hx112_5, hl112_1, hi112_1⟩ := at_T138 HR0.out 0 p112 q112; obtain rfl : ad109 = ad112 := (by injection e112); have qi112 : (0 < l0.length) = True := eq_true (by omega); (try rw [show ((0 : Int)).toNat = 0 from rfl] at hx112_0); (try rw [show 0 * 6 = 0 from rfl] at hx112_0); (try rw [Addr.add_zero'] at hx112_0); (try rw [show ((0 : Int)).toNat = 0 from rfl] at hx112_1); (try rw [show 0 * 6 = 0 from rfl] at hx112_1); (try rw [Addr.add_zero'] at hx112_1); (try rw [show ((0 : Int)).toNat = 0 from rfl] at hx112_2); (try rw [show 0 * 6 = 0 from rfl] at hx112_2); (try rw [Addr.add_zero'] at hx112_2); (try rw [show ((0 : Int)).toNat = 0 from rfl] at hx112_3); (try rw [show 0 * 6 = 0 from rfl] at hx112_3); (try rw [Addr.add_zero'] at hx112_3); (try rw [show ((0 : Int)).toNat = 0 from rfl] at hx112_4); (try rw [show 0 * 6 = 0 from rfl] at hx112_4); (try rw [Addr.add_zero'] at hx112_4); (try rw [show ((0 : Int)).toNat = 0 from rfl] at hx112_5); (try rw [show 0 * 6 = 0 from rfl] at hx112_5); (try rw [Addr.add_zero'] at hx112_5); have HR112_1 := Aside0.mk hi112_1; have HC112_1 := Aside0.mk hl112_1; clear hi112_1 hl112_1; replace p112 := eq_true p112; replace q112 := eq_true q112; have ea_ := Option.some.inj (hx109_1.symm.trans hx112_1); injection ea_ with ea_ en_ ec_; subst ea_; subst ec_; clear en_; have p113 : 0 ≤ (0 : Int) := (by omega); have q113 : 0 < (l0.length : Int) := of_decide_eq_true (by first | (with_reducible assumption) | assumption); obtain ⟨ad113, A113_1, c113_1, e113, hx113_0, hx113_1, hx113_2, hx113_3, hx113_4, hx113_5, hl113_1, hi113_1⟩ := at_T138 HR0.out 0 p113 q113; obtain rfl : ad109 = ad113 := (by injection e113); have qi113 : (0 < l0.length) = True := eq_true (by omega); (try rw [show ((0 : Int)).toNat = 0 from rfl] at hx113_0); (try rw [show 0 * 6 = 0 from rfl] at hx113_0); (try rw [Addr.add_zero'] at hx113_0); (try rw [show ((0 : Int)).toNat = 0 from rfl] at hx113_1); (try rw [show 0 * 6 = 0 from rfl] at hx113_1); (try rw [Addr.add_zero'] at hx113_1); (try rw [show ((0 : Int)).toNat = 0 from rfl] at hx113_2); (try rw [show 0 * 6 = 0 from rfl] at hx113_2); (try rw [Addr.add_zero'] at hx113_2); (try rw [show ((0 : Int)).toNat = 0 from rfl] at hx113_3); (try rw [show 0 * 6 = 0 from rfl] at hx113_3); (try rw [Addr.add_zero'] at hx113_3); (try rw [show ((0 : Int)).toNat = 0 from rfl] at hx113_4); (try rw [show 0 * 6 = 0 from rfl] at hx113_4); (try rw [Addr.add_zero'] at hx113_4); (try rw [show ((0 : Int)).toNat = 0 from rfl] at hx113_5); (try rw [show 0 * 6 = 0 from rfl] at hx113_5); (try rw [Addr.add_zero'] at hx113_5); have HR113_1 := Aside0.mk hi113_1; have HC113_1 := Aside0.mk hl113_1; clear hi113_1 hl113_1; replace p113 := eq_true p113; replace q113 := eq_true q113; have ea_ := Option.some.inj (hx109_1.symm.trans hx113_1); injection ea_ with ea_ en_ ec_; subst ea_; subst ec_; clear en_) | (go_at_call 198; (with_reducible refine (spec_l02Areas.calls k _ _ ((rd_T138 l0 0).f1) true _ ?side1 ?side2 A5.out).mono ?_); (case side1 => repeat (first | exact HR113_1.out | (with_reducible refine Kd.C_alloc ?_ _) | (with_reducible refine Kd.C_drewN ?_ _) | (with_reducible refine Kd.C_drew ?_))); (case side2 => exact HC113_1.out); rintro e w' ⟨rfl, ⟨nd, rfl⟩⟩; have p115 : 0 ≤ (0 : Int) := (by omega); have q115 : 0 < (l0.length : Int) := of_decide_eq_true (by first | (with_reducible assumption) | assumption); obtain ⟨ad115, A115_1, c115_1, e115, hx115_0, hx115_1, hx115_2, hx115_3, hx115_4, hx115_5, hl115_1, hi115_1⟩ := at_T138 HR0.out 0 p115 q115; obtain rfl : ad109 = ad115 := (by injection e115); have qi115 : (0 < l0.length) = True := eq_true (by omega); (try rw [show ((0 : Int)).toNat = 0 from rfl] at hx115_0); (try rw [show 0 * 6 = 0 from rfl] at hx115_0); (try rw [Addr.add_zero'] at hx115_0); (try rw [show ((0 : Int)).toNat = 0 from rfl] at hx115_1); (try rw [show 0 * 6 = 0 from rfl] at hx115_1); (try rw [Addr.add_zero'] at hx115_1); (try rw [show ((0 : Int)).toNat = 0 from rfl] at hx115_2); (try rw [show 0 * 6 = 0 from rfl] at hx115_2); (try rw [Addr.add_zero'] at hx115_2); (try rw [show ((0 : Int)).toNat = 0 from rfl] at hx115_3); (try rw [show 0 * 6 = 0 from rfl] at hx115_3); (try rw [Addr.add_zero'] at hx115_3); (try rw [show ((0 : Int)).toNat = 0 from rfl] at hx115_4); (try rw [show 0 * 6 = 0 from rfl] at hx115_4); (try rw [Addr.add_zero'] at hx115_4); (try rw [show ((0 : Int)).toNat = 0 from rfl] at hx115_5); (try rw [show 0 * 6 = 0 from rfl] at hx115_5); (try rw [Addr.add_zero'] at hx115_5); have HR115_1 := Aside0.mk hi115_1; have HC115_1 := Aside0.mk hl115_1; clear hi115_1 hl115_1; replace p115 := eq_true p115; replace q115 := eq_true q115; have ea_ := Option.some.inj (hx109_1.symm.trans hx115_1); injection ea_ with ea_ en_ ec_; subst ea_; subst ec_; clear en_; have p116 : 0 ≤ (0 : Int) := (by omega); have q116 : 0 < (l0.length : Int) := of_decide_eq_true (by first | (with_reducible assumption) | assumption); obtain ⟨ad116, A116_1, c116_1, e116, hx116_0, hx116_1, hx116_2, hx116_3, hx116_4, hx116_5, hl116_1, hi116_1⟩ := at_T138 HR0.out 0 p116 q116; obtain rfl : ad109 = ad116 := (by injection e116); have qi116 : (0 < l0.length) = True := eq_true (by omega); (try rw [show ((0 : Int)).toNat = 0 from rfl] at hx116_0); (try rw [show 0 * 6 = 0 from rfl] at hx116_0); (try rw [Addr.add_zero'] at hx116_0); (try rw [show ((0 : Int)).toNat = 0 from rfl] at hx116_1); (try rw [show 0 * 6 = 0 from rfl] at hx116_1); (try rw [Addr.add_zero'] at hx116_1); (try rw [show ((0 : Int)).toNat = 0 from rfl] at hx116_2); (try rw [show 0 * 6 = 0 from rfl] at hx116_2); (try rw [Addr.add_zero'] at hx116_2); (try rw [show ((0 : Int)).toNat = 0 from rfl] at hx116_3); (try rw [show 0 * 6 = 0 from rfl] at hx116_3); (try rw [Addr.add_zero'] at hx116_3); (try rw [show ((0 : Int)).toNat = 0 from rfl] at hx116_4); (try rw [show 0 * 6 = 0 from rfl] at hx116_4); (try rw [Addr.add_zero'] at hx116_4); (try rw [show ((0 : Int)).toNat = 0 from rfl] at hx116_5); (try rw [show 0 * 6 = 0 from rfl] at hx116_5); (try rw [Addr.add_zero'] at hx116_5); have HR116_1 := Aside0.mk hi116_1; have HC116_1 := Aside0.mk hl116_1; clear hi116_1 hl116_1; replace p116 := eq_true p116; replace q116 := eq_true q116; have ea_ := Option.some.inj (hx109_1.symm.trans hx116_1); injection ea_ with ea_ en_ ec_; subst ea_; subst ec_; clear en_) | (go_at_call 146; (with_reducible refine (spec_l02Above.calls ((rd_T138 l0 0).f2) false _ A7.out).mono ?_); rintro e w' ⟨rfl, ⟨nd, rfl⟩⟩))
     go_ret
     exact ⟨by first | rfl | (simp; done) | (simp [*]; done), by repeat (first | exact Drawn0.refl _ | apply Drawn0.step)⟩
   ·replace c6 := Bool.eq_false_iff.mpr c6
    subst c6
    have H1 : (some false) = some r := by rw [if_neg (show ¬ (false = true) by decide)] at H; exact H
    clear H
    have H := H1
    clear H1
    obtain rfl := Option.some.inj H
    have p109 : 0 ≤ (0 : Int) := (by omega)
    have q109 : 0 < (l0.length : Int) := of_decide_eq_true (by first | (with_reducible assumption) | assumption)
    obtain ⟨ad109, A109_1, c109_1, e109, hx109_0, hx109_1, hx109_2, hx109_3, hx109_4, hx109_5, hl109_1, hi109_1⟩ := at_T138 HR0.out 0 p109 q109
    cases e109
    have qi109 : (0 < l0.length) = True := eq_true (by omega)
    (try rw [show ((0 : Int)).toNat = 0 from rfl] at hx109_0)
    (try rw [show 0 * 6 = 0 from rfl] at hx109_0)
    (try rw [Addr.add_zero'] at hx109_0)
    (try rw [show ((0 : Int)).toNat = 0 from rfl] at hx109_1)
    (try rw [show 0 * 6 = 0 from rfl] at hx109_1)
    (try rw [Addr.add_zero'] at hx109_1)
    (try rw [show ((0 : Int)).toNat = 0 from rfl] at hx109_2)
    (try rw [show 0 * 6 = 0 from rfl] at hx109_2)
    (try rw [Addr.add_zero'] at hx109_2)
    (try rw [show ((0 : Int)).toNat = 0 from rfl] at hx109_3)
    (try rw [show 0 * 6 = 0 from rfl] at hx109_3)
    (try rw [Addr.add_zero'] at hx109_3)
    (try rw [show ((0 : Int)).toNat = 0 from rfl] at hx109_4)
    (try rw [show 0 * 6 = 0 from rfl] at hx109_4)
    (try rw [Addr.add_zero'] at hx109_4)
    (try rw [show ((0 : Int)).toNat = 0 from rfl] at hx109_5)
    (try rw [show 0 * 6 = 0 from rfl] at hx109_5)
    (try rw [Addr.add_zero'] at hx109_5)
    have HR109_1 := Aside0.mk hi109_1
    have HC109_1 := Aside0.mk hl109_1
    clear hi109_1 hl109_1
    replace p109 := eq_true p109
    replace q109 := eq_true q109
    have p110 : 0 ≤ (0 : Int) := (by omega)
    have q110 : 0 < (l0.length : Int) := of_decide_eq_true (by first | (with_reducible assumption) | assumption)
    obtain ⟨ad110, A110_1, c110_1, e110, hx110_0, hx110_1, hx110_2, hx110_3, hx110_4, hx110_5, hl110_1, hi110_1⟩ := at_T138 HR0.out 0 p110 q110
    obtain rfl : ad109 = ad110 := (by injection e110)
    have qi110 : (0 < l0.length) = True := eq_true (by omega)
    (try rw [show ((0 : Int)).toNat = 0 from rfl] at hx110_0)
    (try rw [show 0 * 6 = 0 from rfl] at hx110_0)
    (try rw [Addr.add_zero'] at hx110_0)
    (try rw [show ((0 : Int)).toNat = 0 from rfl] at hx110_1)
    (try rw [show 0 * 6 = 0 from rfl] at hx110_1)
    (try rw [Addr.add_zero'] at hx110_1)
    (try rw [show ((0 : Int)).toNat = 0 from rfl] at hx110_2)
    (try rw [show 0 * 6 = 0 from rfl] at hx110_2)
    (try rw [Addr.add_zero'] at hx110_2)
    (try rw [show ((0 : Int)).toNat = 0 from rfl] at hx110_3)
    (try rw [show 0 * 6 = 0 from rfl] at hx110_3)
    (try rw [Addr.add_zero'] at hx110_3)
    (try rw [show ((0 : Int)).toNat = 0 from rfl] at hx110_4)
    (try rw [show 0 * 6 = 0 from rfl] at hx110_4)
    (try rw [Addr.add_zero'] at hx110_4)
    (try rw [show ((0 : Int)).toNat = 0 from rfl] at hx110_5)
    (try rw [show 0 * 6 = 0 from rfl] at hx110_5)
    (try rw [Addr.add_zero'] at hx110_5)
    have HR110_1 := Aside0.mk hi110_1
    have HC110_1 := Aside0.mk hl110_1
    clear hi110_1 hl110_1
    replace p110 := eq_true p110
    replace q110 := eq_true q110
    have ea_ := Option.some.inj (hx109_1.symm.trans hx110_1)
    injection ea_ with ea_ en_ ec_
    subst ea_
    subst ec_
    clear en_
    go_enter Try.func166, Try.ntmps166
    go_wp2_with (first | ((with_reducible refine gate_callee (f := 197) rfl ?_); refine goesL_ (some 7) rfl rfl Try.func197 (by kernel_rfl) rfl #[.string ((rd_T138 l0 0).f0)] rfl (by (try simp only [List.map_toArray, List.map_cons, List.map_nil]); first | done | rfl | (simp only [List.length_drop, List.length_take]; rfl)) ?_; (with_reducible refine (spec_l06Name.calls k ((rd_T138 l0 0).f0) true _ A3.out).mono ?_); rintro e w' ⟨rfl, ⟨nd, rfl⟩⟩; refine ⟨_, rfl, ?_⟩; have p112 : 0 ≤ (0 : Int) := (by omega); have q112 : 0 < (l0.length : Int) := of_decide_eq_true (by first | (with_reducible assumption) | assumption); obtain ⟨ad112, A112_1, c112_1, e112, hx112_0, hx112_1, hx112_2, hx112_3, hx112_4, hx112_5, hl112_1, hi112_1⟩ := at_T138 HR0.out 0 p112 q112; obtain rfl : ad109 = ad112 := (by injection e112); have qi112 : (0 < l0.length) = True := eq_true (by omega); (try rw [show ((0 : Int)).toNat = 0 from rfl] at hx112_0); (try rw [show 0 * 6 = 0 from rfl] at hx112_0); (try rw [Addr.add_zero'] at hx112_0); (try rw [show ((0 : Int)).toNat = 0 from rfl] at hx112_1); (try rw [show 0 * 6 = 0 from rfl] at hx112_1); (try rw [Addr.add_zero'] at hx112_1); (try rw [show ((0 : Int)).toNat = 0 from rfl] at hx112_2); (try rw [show 0 * 6 = 0 from rfl] at hx112_2); (try rw [Addr.add_zero'] at hx112_2); (try rw [show ((0 : Int)).toNat = 0 from rfl] at hx112_3); (try rw [show 0 * 6 = 0 from rfl] at hx112_3); (try rw [Addr.add_zero'] at hx112_3); (try rw [show ((0 : Int)).toNat = 0 from rfl] at hx112_4); (try rw [show 0 * 6 = 0 from rfl] at hx112_4); (try rw [Addr.add_zero'] at hx112_4); (try rw [show ((0 : Int)).toNat = 0 from rfl] at hx112_5); (try rw [show 0 * 6 = 0 from rfl] at hx112_5); (try rw [Addr.add_zero'] at hx112_5); have HR112_1 := Aside0.mk hi112_1; have HC112_1 := Aside0.mk hl112_1; clear hi112_1 hl112_1; replace p112 := eq_true p112; replace q112 := eq_true q112; have ea_ := Option.some.inj (hx109_1.symm.trans hx112_1); injection ea_ with ea_ en_ ec_; subst ea_; subst ec_; clear en_; have p113 : 0 ≤ (0 : Int) := (by omega); have q113 : 0 < (l0.length : Int) := of_decide_eq_true (by first | (with_reducible assumption) | assumption); obtain ⟨ad113, A113_1, c113_1, e113, hx113_0, hx113_1, hx113_2, hx113_3, hx113_4, hx113_5, hl113_1, hi113_1⟩ := at_T138 HR0.out 0 p113 q113; obtain rfl : ad109 = ad113 := (by injection e113); have qi113 : (0 < l0.length) = True := eq_true (by omega); (try rw [show ((0 : Int)).toNat = 0 from rfl] at hx113_0); (try rw [show 0 * 6 = 0 from rfl] at hx113_0); (try rw [Addr.add_zero'] at hx113_0); (try rw [show ((0 : Int)).toNat = 0 from rfl] at hx113_1); (try rw [show 0 * 6 = 0 from rfl] at hx113_1); (try rw [Addr.add_zero'] at hx113_1); (try rw [show ((0 : Int)).toNat = 0 from rfl] at hx113_2); (try rw [show 0 * 6 = 0 from rfl] at hx113_2); (try rw [Addr.add_zero'] at hx113_2); (try rw [show ((0 : Int)).toNat = 0 from rfl] at hx113_3); (try rw [show 0 * 6 = 0 from rfl] at hx113_3); (try rw [Addr.add_zero'] at hx113_3); (try rw [show ((0 : Int)).toNat = 0 from rfl] at hx113_4); (try rw [show 0 * 6 = 0 from rfl] at hx113_4); (try rw [Addr.add_zero'] at hx113_4); (try rw [show ((0 : Int)).toNat = 0 from rfl] at hx113_5); (try rw [show 0 * 6 = 0 from rfl] at hx113_5); (try rw [Addr.add_zero'] at hx113_5); have HR113_1 := Aside0.mk hi113_1; have HC113_1 := Aside0.mk hl113_1; clear hi113_1 hl113_1; replace p113 := eq_true p113; replace q113 := eq_true q113; have ea_ := Option.some.inj (hx109_1.symm.trans hx113_1); injection ea_ with ea_ en_ ec_; subst ea_; subst ec_; clear en_) | (go_at_call 198; (with_reducible refine (spec_l02Areas.calls k _ _ ((rd_T138 l0 0).f1) false _ ?side1 ?side2 A5.out).mono ?_); (case side1 => repeat (first | exact HR113_1.out | (with_reducible refine Kd.C_alloc ?_ _) | (with_reducible refine Kd.C_drewN ?_ _) | (with_reducible refine Kd.C_drew ?_))); (case side2 => exact HC113_1.out); rintro e w' ⟨rfl, ⟨nd, rfl⟩⟩))
    go_ret
    exact ⟨by first | rfl | (simp; done) | (simp [*]; done), by repeat (first | exact Drawn0.refl _ | apply Drawn0.step)⟩
  ·replace c4 := Bool.eq_false_iff.mpr c4
   subst c4
   have H1 : (some false) = some r := by rw [if_neg (show ¬ (false = true) by decide)] at H; exact H
   clear H
   have H := H1
   clear H1
   obtain rfl := Option.some.inj H
   have p109 : 0 ≤ (0 : Int) := (by omega)
   have q109 : 0 < (l0.length : Int) := of_decide_eq_true (by first | (with_reducible assumption) | assumption)
   obtain ⟨ad109, A109_1, c109_1, e109, hx109_0, hx109_1, hx109_2, hx109_3, hx109_4, hx109_5, hl109_1, hi109_1⟩ := at_T138 HR0.out 0 p109 q109
   cases e109
   have qi109 : (0 < l0.length) = True := eq_true (by omega)
   (try rw [show ((0 : Int)).toNat = 0 from rfl] at hx109_0)
   (try rw [show 0 * 6 = 0 from rfl] at hx109_0)
   (try rw [Addr.add_zero'] at hx109_0)
   (try rw [show ((0 : Int)).toNat = 0 from rfl] at hx109_1)
   (try rw [show 0 * 6 = 0 from rfl] at hx109_1)
   (try rw [Addr.add_zero'] at hx109_1)
   (try rw [show ((0 : Int)).toNat = 0 from rfl] at hx109_2)
   (try rw [show 0 * 6 = 0 from rfl] at hx109_2)
   (try rw [Addr.add_zero'] at hx109_2)
   (try rw [show ((0 : Int)).toNat = 0 from rfl] at hx109_3)
   (try rw [show 0 * 6 = 0 from rfl] at hx109_3)
   (try rw [Addr.add_zero'] at hx109_3)
   (try rw [show ((0 : Int)).toNat = 0 from rfl] at hx109_4)
   (try rw [show 0 * 6 = 0 from rfl] at hx109_4)
   (try rw [Addr.add_zero'] at hx109_4)
   (try rw [show ((0 : Int)).toNat = 0 from rfl] at hx109_5)
   (try rw [show 0 * 6 = 0 from rfl] at hx109_5)
   (try rw [Addr.add_zero'] at hx109_5)
   have HR109_1 := Aside0.mk hi109_1
   have HC109_1 := Aside0.mk hl109_1
   clear hi109_1 hl109_1
   replace p109 := eq_true p109
   replace q109 := eq_true q109
   have p110 : 0 ≤ (0 : Int) := (by omega)
   have q110 : 0 < (l0.length : Int) := of_decide_eq_true (by first | (with_reducible assumption) | assumption)
   obtain ⟨ad110, A110_1, c110_1, e110, hx110_0, hx110_1, hx110_2, hx110_3, hx110_4, hx110_5, hl110_1, hi110_1⟩ := at_T138 HR0.out 0 p110 q110
   obtain rfl : ad109 = ad110 := (by injection e110)
   have qi110 : (0 < l0.length) = True := eq_true (by omega)
   (try rw [show ((0 : Int)).toNat = 0 from rfl] at hx110_0)
   (try rw [show 0 * 6 = 0 from rfl] at hx110_0)
   (try rw [Addr.add_zero'] at hx110_0)
   (try rw [show ((0 : Int)).toNat = 0 from rfl] at hx110_1)
   (try rw [show 0 * 6 = 0 from rfl] at hx110_1)
   (try rw [Addr.add_zero'] at hx110_1)
   (try rw [show ((0 : Int)).toNat = 0 from rfl] at hx110_2)
   (try rw [show 0 * 6 = 0 from rfl] at hx110_2)
   (try rw [Addr.add_zero'] at hx110_2)
   (try rw [show ((0 : Int)).toNat = 0 from rfl] at hx110_3)
   (try rw [show 0 * 6 = 0 from rfl] at hx110_3)
   (try rw [Addr.add_zero'] at hx110_3)
   (try rw [show ((0 : Int)).toNat = 0 from rfl] at hx110_4)
   (try rw [show 0 * 6 = 0 from rfl] at hx110_4)
   (try rw [Addr.add_zero'] at hx110_4)
   (try rw [show ((0 : Int)).toNat = 0 from rfl] at hx110_5)
   (try rw [show 0 * 6 = 0 from rfl] at hx110_5)
   (try rw [Addr.add_zero'] at hx110_5)
   have HR110_1 := Aside0.mk hi110_1
   have HC110_1 := Aside0.mk hl110_1
   clear hi110_1 hl110_1
   replace p110 := eq_true p110
   replace q110 := eq_true q110
   have ea_ := Option.some.inj (hx109_1.symm.trans hx110_1)
   injection ea_ with ea_ en_ ec_
   subst ea_
   subst ec_
   clear en_
   go_enter Try.func166, Try.ntmps166
   go_wp2_with (first | ((with_reducible refine gate_callee (f := 197) rfl ?_); refine goesL_ (some 7) rfl rfl Try.func197 (by kernel_rfl) rfl #[.string ((rd_T138 l0 0).f0)] rfl (by (try simp only [List.map_toArray, List.map_cons, List.map_nil]); first | done | rfl | (simp only [List.length_drop, List.length_take]; rfl)) ?_; (with_reducible refine (spec_l06Name.calls k ((rd_T138 l0 0).f0) false _ A3.out).mono ?_); rintro e w' ⟨rfl, ⟨nd, rfl⟩⟩; refine ⟨_, rfl, ?_⟩))
   go_ret
   exact ⟨by first | rfl | (simp; done) | (simp [*]; done), by repeat (first | exact Drawn0.refl _ | apply Drawn0.step)⟩
 ·rw [if_neg c2] at H
  exact absurd H (by simp)
end Go.Proofs.Ytoiaojdkgagblaa.PFnExactStretchSounds
