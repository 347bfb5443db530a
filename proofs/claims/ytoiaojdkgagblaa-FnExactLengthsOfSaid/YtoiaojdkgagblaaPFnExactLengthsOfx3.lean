import Derived.Test.YtoiaojdkgagblaaPFnExactLengthsOfx0
import Derived.Test.YtoiaojdkgagblaaPFnExactLengthsOfx2
namespace Go.Proofs.Ytoiaojdkgagblaa.PFnExactLengthsOf
open Go.RowKit Go.Proofs.YtoiaojdkgagblaaW.PrintWords Go.Proofs.YtoiaojdkgagblaaW.PrintLast Go.Proofs.YtoiaojdkgagblaaW.PrintMore
open Go.Proofs.YtoiaojdkgagblaaW.PrintFl
attribute [local go_sem high] binOp_feq binOp_fne binOp_fls binOp_fle binOp_fgr binOp_fge binOp_sle binOp_sgt
attribute [local go_sem] run_fopr run_fconv run_fint run_stf run_stc ext_f32bits ext_f64bits ext_f32frombits
attribute [local go_sem] max2_int min2_int max_two min_two max_three min_three max_four min_four
set_option linter.unusedVariables false
set_option linter.unusedSimpArgs false
mutual
def spec_l02Areas.l0 : Nat → List Nat → Int → Option (Bool)
 | 0, _, _ => none
 | k + 1, x0, x3 => if x3 < (x0.length : Int) then (spec_l02Areas.j1 k x0 x3 (decide ((x0.length : Int) ≤ 16))) else (spec_l02Areas.j1 k x0 x3 false)
def spec_l02Areas.j1 : Nat → List Nat → Int → Bool → Option (Bool)
 | 0, _, _, _ => none
 | k + 1, x0, x3, x12 => if x12 = true then (if 0 ≤ x3 then (if x3 < (x0.length : Int) then ((spec_l02Above.f (rdOf (0 : Nat) x0 x3)).bind fun t141 => (if t141 = true then (spec_l02Areas.l0 k x0 (wrap64 (x3 + 1))) else (some false))) else (none)) else (none)) else (if (x0.length : Int) ≥ 1 then (some (decide ((x0.length : Int) ≤ 16))) else (some false))
end
def spec_l02Areas.f (k : Nat) (l0 : List Nat) : Option (Bool) := spec_l02Areas.l0 k l0 0
theorem spec_l02Areas.mono_l : ∀ k, (∀ y0 y1, LeO (spec_l02Areas.l0 k y0 y1) (spec_l02Areas.l0 (k + 1) y0 y1)) ∧ (∀ y0 y1 y2, LeO (spec_l02Areas.j1 k y0 y1 y2) (spec_l02Areas.j1 (k + 1) y0 y1 y2))
 | 0 => ⟨fun _ _ r h => by simp [spec_l02Areas.l0] at h, fun _ _ _ r h => by simp [spec_l02Areas.j1] at h⟩
 | k + 1 => by
  obtain ⟨ih0, ih1⟩ := spec_l02Areas.mono_l k
  refine ⟨?_, ?_⟩
  ·intro y0 y1
   unfold spec_l02Areas.l0
   repeat' first
   | (with_reducible exact ih0 _ _)
   | (with_reducible exact ih1 _ _ _)
   | (with_reducible exact LeO.refl _)
   | (with_reducible exact LeO.none _)
   | (with_reducible refine LeO.ite ?_ ?_)
   | (with_reducible refine LeO.bind ?_ (fun _ => ?_))
   | exact ih0 _ _
   | exact ih1 _ _ _
   | exact LeO.none _
   | refine LeO.ite ?_ ?_
   | refine LeO.bind ?_ (fun _ => ?_)
  ·intro y0 y1 y2
   unfold spec_l02Areas.j1
   repeat' first
   | (with_reducible exact ih0 _ _)
   | (with_reducible exact ih1 _ _ _)
   | (with_reducible exact LeO.refl _)
   | (with_reducible exact LeO.none _)
   | (with_reducible refine LeO.ite ?_ ?_)
   | (with_reducible refine LeO.bind ?_ (fun _ => ?_))
   | exact ih0 _ _
   | exact ih1 _ _ _
   | exact LeO.none _
   | refine LeO.ite ?_ ?_
   | refine LeO.bind ?_ (fun _ => ?_)
theorem spec_l02Areas.mono : ∀ a0 k, LeO (spec_l02Areas.f k a0) (spec_l02Areas.f (k + 1) a0) := by
 intro a0 k
 obtain ⟨ih0, ih1⟩ := spec_l02Areas.mono_l k
 unfold spec_l02Areas.f
 repeat' first
   | (with_reducible exact ih0 _ _)
   | (with_reducible exact ih1 _ _ _)
   | (with_reducible exact LeO.refl _)
   | (with_reducible exact LeO.none _)
   | (with_reducible refine LeO.ite ?_ ?_)
   | (with_reducible refine LeO.bind ?_ (fun _ => ?_))
   | exact ih0 _ _
   | exact ih1 _ _ _
   | exact LeO.none _
   | refine LeO.ite ?_ ?_
   | refine LeO.bind ?_ (fun _ => ?_)
set_option maxHeartbeats 8000000 in
set_option maxRecDepth 100000 in
theorem spec_l02Areas.calls (k : Nat) (A0 : Option Addr) (c0 : Nat) (l0 : List Nat) (r : Bool) (w : World) (hr0 : Kd.C (Kd.float .f32) w A0 l0.length l0) (hc0 : l0.length ≤ c0) (h : spec_l02Areas.f k l0 = some r) :
  Calls Try.prog 198 #[.slice A0 l0.length c0] w fun e w' => e = .returned (.bool r) ∧ Drawn0 w w' := by
 have hu36 := Try.underlying36
 have HR0 := Aside0.mk hr0
 have HC0 := Aside0.mk hc0
 clear hr0 hc0
 have H : (spec_l02Areas.l0 k l0 0) = some r := h
 clear h
 have H' := Aside0.mk H
 clear H
 go_enter Try.func198, Try.ntmps198
 go_wp2
 go_loopg [3] k (fun kq v3 w' => ∃ (x3_1 : Int), v3 = .int .i64 x3_1 ∧ Aside0 (spec_l02Areas.l0 kq l0 x3_1 = some r) ∧ Aside0 (kq ≤ k) ∧ Drawn0 w w')
 case atStart => exact ⟨(0), (by first | rfl | (simp; done) | (simp [*]; done)), H', ⟨Nat.le_refl _⟩, by repeat (first | exact Drawn0.refl _ | apply Drawn0.step)⟩
 case round =>
  clear H'
  try clear c1
  obtain ⟨x3_1, rfl, HA, HK1, ⟨m1, rfl⟩⟩ := hrel
  cases gk with
  | zero => exact absurd HA.out (by simp [spec_l02Areas.l0])
  | succ k1 =>
   have H := HA.out
   clear HA
   simp only [spec_l02Areas.l0] at H
   have HC2 := Aside0.mk H
   clear H
   go_upto_region 2 with (fail)
   go_cut [12] (fun v12 wc => ∃ (kq : Nat) (x12_1 : Bool), v12 = .bool x12_1 ∧ Aside0 (spec_l02Areas.j1 kq l0 x3_1 x12_1 = some r) ∧ Aside0 (kq ≤ k1) ∧ Drawn0 w wc)
   case first =>
    have H := HC2.out
    clear HC2
    by_cases c3 : x3_1 < (l0.length : Int)
    ·rw [if_pos c3] at H
     have c3b0 : decide (x3_1 < (l0.length : Int)) = true := decide_eq_true c3
     clear c3
     (first | rw [c3b0] | (simp only [i64_w, i32_w]; rw [c3b0]) | skip)
     have H' := Aside0.mk H
     clear H
     go_wp2
     go_meet
     case rel => exact ⟨_, (decide ((l0.length : Int) ≤ 16)), (by first | rfl | (simp; done) | (simp [*]; done)), H', ⟨by have := HK1.out; first | omega | exact Nat.le_refl _⟩, by repeat (first | exact Drawn0.refl _ | apply Drawn0.step)⟩
    ·rw [if_neg c3] at H
     have c3b0 : decide (x3_1 < (l0.length : Int)) = false := decide_eq_false c3
     clear c3
     (first | rw [c3b0] | (simp only [i64_w, i32_w]; rw [c3b0]) | skip)
     have H' := Aside0.mk H
     clear H
     go_wp2
     go_meet
     case rel => exact ⟨_, (false), (by first | rfl | (simp; done) | (simp [*]; done)), H', ⟨by have := HK1.out; first | omega | exact Nat.le_refl _⟩, by repeat (first | exact Drawn0.refl _ | apply Drawn0.step)⟩
   case rest =>
    clear HC2
    try clear c1
    try clear p2
    try clear c3
    try clear c3b0
    obtain ⟨kq, x12_1, rfl, HA, HJ1, ⟨mc1, rfl⟩⟩ := hcut
    cases kq with
    | zero => exact absurd HA.out (by simp [spec_l02Areas.j1])
    | succ kj1 =>
     have H := HA.out
     clear HA
     simp only [spec_l02Areas.j1] at H
     by_cases c4 : x12_1 = true
     ·subst c4
      have H1 : (if 0 ≤ x3_1 then (if x3_1 < (l0.length : Int) then ((spec_l02Above.f (rdOf (0 : Nat) l0 x3_1)).bind fun t141 => (if t141 = true then (spec_l02Areas.l0 kj1 l0 (wrap64 (x3_1 + 1))) else (some false))) else (none)) else (none)) = some r := by rw [if_pos rfl] at H; exact H
      clear H
      have H := H1
      clear H1
      by_cases c5 : 0 ≤ x3_1
      ·rw [if_pos c5] at H
       have c5b0 : decide (0 ≤ x3_1) = true := decide_eq_true c5
       clear c5
       by_cases c6 : x3_1 < (l0.length : Int)
       ·rw [if_pos c6] at H
        have c6b0 : decide (x3_1 < (l0.length : Int)) = true := decide_eq_true c6
        clear c6
        replace H := Option.bind_eq_some_iff.mp H
        obtain ⟨t141, A70, H⟩ := H
        replace H : (if t141 = true then (spec_l02Areas.l0 kj1 l0 (wrap64 (x3_1 + 1))) else (some false)) = some r := H
        have A7 := Aside0.mk A70
        clear A70
        by_cases c8 : t141 = true
        ·subst c8
         have H1 : (spec_l02Areas.l0 kj1 l0 (wrap64 (x3_1 + 1))) = some r := by rw [if_pos rfl] at H; exact H
         clear H
         have H := H1
         clear H1
         have H' := Aside0.mk H
         clear H
         have p140 : 0 ≤ (x3_1 : Int) := of_decide_eq_true (by first | (with_reducible assumption) | assumption)
         have q140 : x3_1 < (l0.length : Int) := of_decide_eq_true (by first | (with_reducible assumption) | assumption)
         obtain ⟨ad140, e140, hx140_0⟩ := Kd.at_float HR0.out x3_1 p140 q140
         cases e140
         replace p140 := eq_true p140
         replace q140 := eq_true q140
         go_wp2_with (first | ((with_reducible refine gate_callee (f := 146) rfl ?_); refine goesL_ (some 19) rfl rfl Try.func146 (by kernel_rfl) rfl #[.float .f32 (rdOf (0 : Nat) l0 x3_1)] rfl (by (try simp only [List.map_toArray, List.map_cons, List.map_nil]); first | done | rfl | (simp only [List.length_drop, List.length_take]; rfl)) ?_; (with_reducible refine (spec_l02Above.calls (rdOf (0 : Nat) l0 x3_1) true _ A7.out).mono ?_); rintro e w' ⟨rfl, ⟨nd, rfl⟩⟩; refine ⟨_, rfl, ?_⟩))
         go_roundg kj1
         case measure => have := HK1.out; have := HJ1.out; omega
         case rel => exact ⟨(wrap64 (x3_1 + 1)), (by first | rfl | (simp; done) | (simp [*]; done)), H', ⟨by have := HK1.out; have := HJ1.out; omega⟩, by repeat (first | exact Drawn0.refl _ | apply Drawn0.step)⟩
        ·replace c8 := Bool.eq_false_iff.mpr c8
         subst c8
         have H1 : (some false) = some r := by rw [if_neg (show ¬ (false = true) by decide)] at H; exact H
         clear H
         have H := H1
         clear H1
         obtain rfl := Option.some.inj H
         have p140 : 0 ≤ (x3_1 : Int) := of_decide_eq_true (by first | (with_reducible assumption) | assumption)
         have q140 : x3_1 < (l0.length : Int) := of_decide_eq_true (by first | (with_reducible assumption) | assumption)
         obtain ⟨ad140, e140, hx140_0⟩ := Kd.at_float HR0.out x3_1 p140 q140
         cases e140
         replace p140 := eq_true p140
         replace q140 := eq_true q140
         go_wp2_with (first | ((with_reducible refine gate_callee (f := 146) rfl ?_); refine goesL_ (some 19) rfl rfl Try.func146 (by kernel_rfl) rfl #[.float .f32 (rdOf (0 : Nat) l0 x3_1)] rfl (by (try simp only [List.map_toArray, List.map_cons, List.map_nil]); first | done | rfl | (simp only [List.length_drop, List.length_take]; rfl)) ?_; (with_reducible refine (spec_l02Above.calls (rdOf (0 : Nat) l0 x3_1) false _ A7.out).mono ?_); rintro e w' ⟨rfl, ⟨nd, rfl⟩⟩; refine ⟨_, rfl, ?_⟩))
         go_ret
         exact ⟨by first | rfl | (simp; done) | (simp [*]; done), by repeat (first | exact Drawn0.refl _ | apply Drawn0.step)⟩
       ·rw [if_neg c6] at H
        exact absurd H (by simp)
      ·rw [if_neg c5] at H
       exact absurd H (by simp)
     ·replace c4 := Bool.eq_false_iff.mpr c4
      subst c4
      have H1 : (if (l0.length : Int) ≥ 1 then (some (decide ((l0.length : Int) ≤ 16))) else (some false)) = some r := by rw [if_neg (show ¬ (false = true) by decide)] at H; exact H
      clear H
      have H := H1
      clear H1
      by_cases c9 : (l0.length : Int) ≥ 1
      ·rw [if_pos c9] at H
       have c9b0 : decide (1 ≤ (l0.length : Int)) = true := decide_eq_true c9
       have c9b1 : decide (1 ≤ l0.length) = true := decide_eq_true (by omega)
       clear c9
       obtain rfl := Option.some.inj H
       go_wp2
       go_ret
       exact ⟨by first | rfl | (simp; done) | (simp [*]; done), by repeat (first | exact Drawn0.refl _ | apply Drawn0.step)⟩
      ·rw [if_neg c9] at H
       have c9b0 : decide (1 ≤ (l0.length : Int)) = false := decide_eq_false c9
       have c9b1 : decide (1 ≤ l0.length) = false := decide_eq_false (by omega)
       clear c9
       obtain rfl := Option.some.inj H
       go_wp2
       go_ret
       exact ⟨by first | rfl | (simp; done) | (simp [*]; done), by repeat (first | exact Drawn0.refl _ | apply Drawn0.step)⟩
def spec_l02Least.f (a0 : Nat) : Option (Bool) := (spec_l01Finite.f a0).bind fun t142 => (if t142 = true then (some (fge .f32 a0 0)) else (some false))
set_option maxHeartbeats 8000000 in
set_option maxRecDepth 100000 in
theorem spec_l02Least.calls (a0 : Nat) (r : Bool) (w : World) (h : spec_l02Least.f a0 = some r) :
    Calls Try.prog 199 #[.float .f32 a0] w fun e w' => e = .returned (.bool r) ∧ Drawn0 w w' := by
  have H : ((spec_l01Finite.f a0).bind fun t142 => (if t142 = true then (some (fge .f32 a0 0)) else (some false))) = some r := h
  clear h
  replace H := Option.bind_eq_some_iff.mp H
  obtain ⟨t142, A20, H⟩ := H
  replace H : (if t142 = true then (some (fge .f32 a0 0)) else (some false)) = some r := H
  have A2 := Aside0.mk A20
  clear A20
  by_cases c3 : t142 = true
  · subst c3
    have H1 : (some (fge .f32 a0 0)) = some r := by rw [if_pos rfl] at H; exact H
    clear H
    have H := H1
    clear H1
    obtain rfl := Option.some.inj H
    go_enter Try.func199, Try.ntmps199
    go_wp2_with (first | ((with_reducible refine gate_callee (f := 77) rfl ?_); refine goesL_ (some 4) rfl rfl Try.func77 (by kernel_rfl) rfl #[.float .f32 a0] rfl (by (try simp only [List.map_toArray, List.map_cons, List.map_nil]); first | done | rfl | (simp only [List.length_drop, List.length_take]; rfl)) ?_; (with_reducible refine (spec_l01Finite.calls a0 true _ A2.out).mono ?_); rintro e w' ⟨rfl, ⟨nd, rfl⟩⟩; refine ⟨_, rfl, ?_⟩))
    go_ret
    exact ⟨by first | rfl | (simp; done) | (simp [*]; done), by repeat (first | exact Drawn0.refl _ | apply Drawn0.step)⟩
  · replace c3 := Bool.eq_false_iff.mpr c3
    subst c3
    have H1 : (some false) = some r := by rw [if_neg (show ¬ (false = true) by decide)] at H; exact H
    clear H
    have H := H1
    clear H1
    obtain rfl := Option.some.inj H
    go_enter Try.func199, Try.ntmps199
    go_wp2_with (first | ((with_reducible refine gate_callee (f := 77) rfl ?_); refine goesL_ (some 4) rfl rfl Try.func77 (by kernel_rfl) rfl #[.float .f32 a0] rfl (by (try simp only [List.map_toArray, List.map_cons, List.map_nil]); first | done | rfl | (simp only [List.length_drop, List.length_take]; rfl)) ?_; (with_reducible refine (spec_l01Finite.calls a0 false _ A2.out).mono ?_); rintro e w' ⟨rfl, ⟨nd, rfl⟩⟩; refine ⟨_, rfl, ?_⟩))
    go_ret
    exact ⟨by first | rfl | (simp; done) | (simp [*]; done), by repeat (first | exact Drawn0.refl _ | apply Drawn0.step)⟩
def spec_l06Sound.f (k : Nat) (l0 : List (S138)) : Option (Bool) := if 0 < (l0.length : Int) then ((spec_l06Name.f k ((rd_T138 l0 0).f0)).bind fun t145 => (if t145 = true then ((spec_l02Areas.f k ((rd_T138 l0 0).f1)).bind fun t148 => (if t148 = true then ((spec_l02Above.f ((rd_T138 l0 0).f2)).bind fun t151 => (if t151 = true then ((spec_l02Least.f ((rd_T138 l0 0).f3)).bind fun t154 => (if t154 = true then ((spec_l02Share.f ((rd_T138 l0 0).f4)).bind fun t157 => (if t157 = true then ((spec_l02Share.f ((rd_T138 l0 0).f5)).bind fun t160 => (some t160)) else (some false))) else (some false))) else (some false))) else (some false))) else (some false))) else (none)
theorem spec_l06Sound.mono : ∀ a0 k, LeO (spec_l06Sound.f k a0) (spec_l06Sound.f (k + 1) a0) := by
 intro a0 k
 unfold spec_l06Sound.f
 repeat' first
   | (with_reducible exact spec_l02Areas.mono _ _)
   | (with_reducible exact spec_l06Name.mono _ _)
   | (with_reducible exact LeO.refl _)
   | (with_reducible exact LeO.none _)
   | (with_reducible refine LeO.ite ?_ ?_)
   | (with_reducible refine LeO.bind ?_ (fun _ => ?_))
   | exact spec_l02Areas.mono _ _
   | exact spec_l06Name.mono _ _
   | exact LeO.none _
   | refine LeO.ite ?_ ?_
   | refine LeO.bind ?_ (fun _ => ?_)
set_option maxHeartbeats 8000000 in
set_option maxRecDepth 100000 in
theorem spec_l06Sound.calls (k : Nat) (A0 : Option Addr) (l0 : List (S138)) (r : Bool) (w : World) (hr0 : Kd.C k138 w A0 l0.length l0) (h : spec_l06Sound.f k l0 = some r) :
  Calls Try.prog 166 #[.pointer A0] w fun e w' => e = .returned (.bool r) ∧ Drawn0 w w' := by
 have hu9 := Try.underlying9
 have hu26 := Try.underlying26
 have hu36 := Try.underlying36
 have HR0 := Aside0.mk hr0
 clear hr0
 have H : (if 0 < (l0.length : Int) then ((spec_l06Name.f k ((rd_T138 l0 0).f0)).bind fun t145 => (if t145 = true then ((spec_l02Areas.f k ((rd_T138 l0 0).f1)).bind fun t148 => (if t148 = true then ((spec_l02Above.f ((rd_T138 l0 0).f2)).bind fun t151 => (if t151 = true then ((spec_l02Least.f ((rd_T138 l0 0).f3)).bind fun t154 => (if t154 = true then ((spec_l02Share.f ((rd_T138 l0 0).f4)).bind fun t157 => (if t157 = true then ((spec_l02Share.f ((rd_T138 l0 0).f5)).bind fun t160 => (some t160)) else (some false))) else (some false))) else (some false))) else (some false))) else (some false))) else (none)) = some r := h
 clear h
 by_cases c2 : 0 < (l0.length : Int)
 ·rw [if_pos c2] at H
  have c2b0 : decide (0 < (l0.length : Int)) = true := decide_eq_true c2
  have c2b1 : decide (0 < l0.length) = true := decide_eq_true (by omega)
  clear c2
  replace H := Option.bind_eq_some_iff.mp H
  obtain ⟨t145, A30, H⟩ := H
  replace H : (if t145 = true then ((spec_l02Areas.f k ((rd_T138 l0 0).f1)).bind fun t148 => (if t148 = true then ((spec_l02Above.f ((rd_T138 l0 0).f2)).bind fun t151 => (if t151 = true then ((spec_l02Least.f ((rd_T138 l0 0).f3)).bind fun t154 => (if t154 = true then ((spec_l02Share.f ((rd_T138 l0 0).f4)).bind fun t157 => (if t157 = true then ((spec_l02Share.f ((rd_T138 l0 0).f5)).bind fun t160 => (some t160)) else (some false))) else (some false))) else (some false))) else (some false))) else (some false)) = some r := H
  have A3 := Aside0.mk A30
  clear A30
  by_cases c4 : t145 = true
  ·subst c4
   have H1 : ((spec_l02Areas.f k ((rd_T138 l0 0).f1)).bind fun t148 => (if t148 = true then ((spec_l02Above.f ((rd_T138 l0 0).f2)).bind fun t151 => (if t151 = true then ((spec_l02Least.f ((rd_T138 l0 0).f3)).bind fun t154 => (if t154 = true then ((spec_l02Share.f ((rd_T138 l0 0).f4)).bind fun t157 => (if t157 = true then ((spec_l02Share.f ((rd_T138 l0 0).f5)).bind fun t160 => (some t160)) else (some false))) else (some false))) else (some false))) else (some false))) = some r := by rw [if_pos rfl] at H; exact H
   clear H
   have H := H1
   clear H1
   replace H := Option.bind_eq_some_iff.mp H
   obtain ⟨t148, A50, H⟩ := H
   replace H : (if t148 = true then ((spec_l02Above.f ((rd_T138 l0 0).f2)).bind fun t151 => (if t151 = true then ((spec_l02Least.f ((rd_T138 l0 0).f3)).bind fun t154 => (if t154 = true then ((spec_l02Share.f ((rd_T138 l0 0).f4)).bind fun t157 => (if t157 = true then ((spec_l02Share.f ((rd_T138 l0 0).f5)).bind fun t160 => (some t160)) else (some false))) else (some false))) else (some false))) else (some false)) = some r := H
   have A5 := Aside0.mk A50
   clear A50
   by_cases c6 : t148 = true
   ·subst c6
    have H1 : ((spec_l02Above.f ((rd_T138 l0 0).f2)).bind fun t151 => (if t151 = true then ((spec_l02Least.f ((rd_T138 l0 0).f3)).bind fun t154 => (if t154 = true then ((spec_l02Share.f ((rd_T138 l0 0).f4)).bind fun t157 => (if t157 = true then ((spec_l02Share.f ((rd_T138 l0 0).f5)).bind fun t160 => (some t160)) else (some false))) else (some false))) else (some false))) = some r := by rw [if_pos rfl] at H; exact H
    clear H
    have H := H1
    clear H1
    replace H := Option.bind_eq_some_iff.mp H
    obtain ⟨t151, A70, H⟩ := H
    replace H : (if t151 = true then ((spec_l02Least.f ((rd_T138 l0 0).f3)).bind fun t154 => (if t154 = true then ((spec_l02Share.f ((rd_T138 l0 0).f4)).bind fun t157 => (if t157 = true then ((spec_l02Share.f ((rd_T138 l0 0).f5)).bind fun t160 => (some t160)) else (some false))) else (some false))) else (some false)) = some r := H
    have A7 := Aside0.mk A70
    clear A70
    by_cases c8 : t151 = true
    ·subst c8
     have H1 : ((spec_l02Least.f ((rd_T138 l0 0).f3)).bind fun t154 => (if t154 = true then ((spec_l02Share.f ((rd_T138 l0 0).f4)).bind fun t157 => (if t157 = true then ((spec_l02Share.f ((rd_T138 l0 0).f5)).bind fun t160 => (some t160)) else (some false))) else (some false))) = some r := by rw [if_pos rfl] at H; exact H
     clear H
     have H := H1
     clear H1
     replace H := Option.bind_eq_some_iff.mp H
     obtain ⟨t154, A90, H⟩ := H
     replace H : (if t154 = true then ((spec_l02Share.f ((rd_T138 l0 0).f4)).bind fun t157 => (if t157 = true then ((spec_l02Share.f ((rd_T138 l0 0).f5)).bind fun t160 => (some t160)) else (some false))) else (some false)) = some r := H
     have A9 := Aside0.mk A90
     clear A90
     by_cases c10 : t154 = true
     ·subst c10
      have H1 : ((spec_l02Share.f ((rd_T138 l0 0).f4)).bind fun t157 => (if t157 = true then ((spec_l02Share.f ((rd_T138 l0 0).f5)).bind fun t160 => (some t160)) else (some false))) = some r := by rw [if_pos rfl] at H; exact H
      clear H
      have H := H1
      clear H1
      replace H := Option.bind_eq_some_iff.mp H
      obtain ⟨t157, A110, H⟩ := H
      replace H : (if t157 = true then ((spec_l02Share.f ((rd_T138 l0 0).f5)).bind fun t160 => (some t160)) else (some false)) = some r := H
      have A11 := Aside0.mk A110
      clear A110
      by_cases c12 : t157 = true
      ·subst c12
       have H1 : ((spec_l02Share.f ((rd_T138 l0 0).f5)).bind fun t160 => (some t160)) = some r := by rw [if_pos rfl] at H; exact H
       clear H
       have H := H1
       clear H1
       replace H := Option.bind_eq_some_iff.mp H
       obtain ⟨t160, A130, H⟩ := H
       replace H : (some t160) = some r := H
       have A13 := Aside0.mk A130
       clear A130
       obtain rfl := Option.some.inj H
       have p143 : 0 ≤ (0 : Int) := (by omega)
       have q143 : 0 < (l0.length : Int) := of_decide_eq_true (by first | (with_reducible assumption) | assumption)
       obtain ⟨ad143, A143_1, c143_1, e143, hx143_0, hx143_1, hx143_2, hx143_3, hx143_4, hx143_5, hl143_1, hi143_1⟩ := at_T138 HR0.out 0 p143 q143
       cases e143
       have qi143 : (0 < l0.length) = True := eq_true (by omega)
       (try rw [show ((0 : Int)).toNat = 0 from rfl] at hx143_0)
       (try rw [show 0 * 6 = 0 from rfl] at hx143_0)
       (try rw [Addr.add_zero'] at hx143_0)
       (try rw [show ((0 : Int)).toNat = 0 from rfl] at hx143_1)
       (try rw [show 0 * 6 = 0 from rfl] at hx143_1)
       (try rw [Addr.add_zero'] at hx143_1)
       (try rw [show ((0 : Int)).toNat = 0 from rfl] at hx143_2)
       (try rw [show 0 * 6 = 0 from rfl] at hx143_2)
       (try rw [Addr.add_zero'] at hx143_2)
       (try rw [show ((0 : Int)).toNat = 0 from rfl] at hx143_3)
       (try rw [show 0 * 6 = 0 from rfl] at hx143_3)
       (try rw [Addr.add_zero'] at hx143_3)
       (try rw [show ((0 : Int)).toNat = 0 from rfl] at hx143_4)
       (try rw [show 0 * 6 = 0 from rfl] at hx143_4)
       (try rw [Addr.add_zero'] at hx143_4)
       (try rw [show ((0 : Int)).toNat = 0 from rfl] at hx143_5)
       (try rw [show 0 * 6 = 0 from rfl] at hx143_5)
       (try rw [Addr.add_zero'] at hx143_5)
       have HR143_1 := Aside0.mk hi143_1
       have HC143_1 := Aside0.mk hl143_1
       clear hi143_1 hl143_1
       replace p143 := eq_true p143
       replace q143 := eq_true q143
       have p144 : 0 ≤ (0 : Int) := (by omega)
       have q144 : 0 < (l0.length : Int) := of_decide_eq_true (by first | (with_reducible assumption) | assumption)
       obtain ⟨ad144, A144_1, c144_1, e144, hx144_0, hx144_1, hx144_2, hx144_3, hx144_4, hx144_5, hl144_1, hi144_1⟩ := at_T138 HR0.out 0 p144 q144
       obtain rfl : ad143 = ad144 := (by injection e144)
       have qi144 : (0 < l0.length) = True := eq_true (by omega)
       (try rw [show ((0 : Int)).toNat = 0 from rfl] at hx144_0)
       (try rw [show 0 * 6 = 0 from rfl] at hx144_0)
       (try rw [Addr.add_zero'] at hx144_0)
       (try rw [show ((0 : Int)).toNat = 0 from rfl] at hx144_1)
       (try rw [show 0 * 6 = 0 from rfl] at hx144_1)
       (try rw [Addr.add_zero'] at hx144_1)
       (try rw [show ((0 : Int)).toNat = 0 from rfl] at hx144_2)
       (try rw [show 0 * 6 = 0 from rfl] at hx144_2)
       (try rw [Addr.add_zero'] at hx144_2)
       (try rw [show ((0 : Int)).toNat = 0 from rfl] at hx144_3)
       (try rw [show 0 * 6 = 0 from rfl] at hx144_3)
       (try rw [Addr.add_zero'] at hx144_3)
       (try rw [show ((0 : Int)).toNat = 0 from rfl] at hx144_4)
       (try rw [show 0 * 6 = 0 from rfl] at hx144_4)
       (try rw [Addr.add_zero'] at hx144_4)
       (try rw [show ((0 : Int)).toNat = 0 from rfl] at hx144_5)
       (try rw [show 0 * 6 = 0 from rfl] at hx144_5)
       (try rw [Addr.add_zero'] at hx144_5)
       have HR144_1 := Aside0.mk hi144_1
       have HC144_1 := Aside0.mk hl144_1
       clear hi144_1 hl144_1
       replace p144 := eq_true p144
       replace q144 := eq_true q144
       have ea_ := Option.some.inj (hx143_1.symm.trans hx144_1)
       injection ea_ with ea_ en_ ec_
       subst ea_
       subst ec_
       clear en_
       go_enter Try.func166, Try.ntmps166
       go_wp2_with (first | ((with_reducible refine gate_callee (f := 197) rfl ?_); refine goesL_ (some 7) rfl rfl Try.func197 (by kernel_rfl) rfl #[.string ((rd_T138 l0 0).f0)] rfl (by (try simp only [List.map_toArray, List.map_cons, List.map_nil]); first | done | rfl | (simp only [List.length_drop, List.length_take]; rfl)) ?_; (with_reducible refine (spec_l06Name.calls k ((rd_T138 l0 0).f0) true _ A3.out).mono ?_); rintro e w' ⟨rfl, ⟨nd, rfl⟩⟩; refine ⟨_, rfl, ?_⟩; have p146 : 0 ≤ (0 : Int) := (by omega); have q146 : 0 < (l0.length : Int) := of_decide_eq_true (by first | (with_reducible assumption) | assumption); obtain ⟨ad146, A146_1, c146_1, e146, hx146_0, hx146_1, hx146_2, hx146_3, hx146_4, hx146_5, hl146_1, hi146_1⟩ := at_T138 HR0.out 0 p146 q146; obtain rfl : ad143 = ad146 := (by injection e146); have qi146 : (0 < l0.length) = True := eq_true (by omega); (try rw [show ((0 : Int)).toNat = 0 from rfl] at hx146_0); (try rw [show 0 * 6 = 0 from rfl] at hx146_0); (try rw [Addr.add_zero'] at hx146_0); (try rw [show ((0 : Int)).toNat = 0 from rfl] at hx146_1); (try rw [show 0 * 6 = 0 from rfl] at hx146_1); (try rw [Addr.add_zero'] at hx146_1); (try rw [show ((0 : Int)).toNat = 0 from rfl] at hx146_2); (try rw [show 0 * 6 = 0 from rfl] at hx146_2); (try rw [Addr.add_zero'] at hx146_2); (try rw [show ((0 : Int)).toNat = 0 from rfl] at hx146_3); (try rw [show 0 * 6 = 0 from rfl] at hx146_3); (try rw [Addr.add_zero'] at hx146_3); (try rw [show ((0 : Int)).toNat = 0 from rfl] at hx146_4); (try rw [show 0 * 6 = 0 from rfl] at hx146_4); (try rw [Addr.add_zero'] at hx146_4); (try rw [show ((0 : Int)).toNat = 0 from rfl] at hx146_5); (try rw [show 0 * 6 = 0 from rfl] at hx146_5); (try rw [Addr.add_zero'] at hx146_5); have HR146_1 := Aside0.mk hi146_1; have HC146_1 := Aside0.mk hl146_1; clear hi146_1 hl146_1; replace p146 := eq_true p146; replace q146 := eq_true q146; have ea_ := Option.some.inj (hx143_1.symm.trans hx146_1); injection ea_ with ea_ en_ ec_; subst ea_; subst ec_; clear en_; have p147 : 0 ≤ (0 : Int) := (by omega); have q147 : 0 < (l0.length : Int) := of_decide_eq_true (by first | (with_reducible assumption) | assumption); obtain ⟨ad147, A147_1, c147_1, e147, hx147_0, hx147_1, hx147_2, hx147_3, hx147_4, hx147_5, hl147_1, hi147_1⟩ := at_T138 HR0.out 0 p147 q147; obtain rfl : ad143 = ad147 := (by injection e147); have qi147 : (0 < l0.length) = True := eq_true (by omega); (try rw [show ((0 : Int)).toNat = 0 from rfl] at hx147_0); (try rw [show 0 * 6 = 0 from rfl] at hx147_0); (try rw [Addr.add_zero'] at hx147_0); (try rw [show ((0 : Int)).toNat = 0 from rfl] at hx147_1); (try rw [show 0 * 6 = 0 from rfl] at hx147_1); (try rw [Addr.add_zero'] at hx147_1); (try rw [show ((0 : Int)).toNat = 0 from rfl] at hx147_2); (try rw [show 0 * 6 = 0 from rfl] at hx147_2); (try rw [Addr.add_zero'] at hx147_2); (try rw [show ((0 : Int)).toNat = 0 from rfl] at hx147_3); (try rw [show 0 * 6 = 0 from rfl] at hx147_3); (try rw [Addr.add_zero'] at hx147_3); (try rw [show ((0 : Int)).toNat = 0 from rfl] at hx147_4); (try rw [show 0 * 6 = 0 from rfl] at hx147_4); (try rw [Addr.add_zero'] at hx147_4); (try rw [show ((0 : Int)).toNat = 0 from rfl] at hx147_5); (try rw [show 0 * 6 = 0 from rfl] at hx147_5); (try rw [Addr.add_zero'] at hx147_5); have HR147_1 := Aside0.mk hi147_1; have HC147_1 := Aside0.mk hl147_1; clear hi147_1 hl147_1; replace p147 := eq_true p147; replace q147 := eq_true q147; have ea_ := Option.some.inj (hx143_1.symm.trans hx147_1); injection ea_ with ea_ en_ ec_; subst ea_; subst ec_; clear en_) | (go_at_call 198; (with_reducible refine (spec_l02Areas.calls k _ _ ((rd_T138 l0 0).f1) true _ ?side1 ?side2 A5.out).mono ?_); (case side1 => repeat (first | exact HR147_1.out | (with_reducible refine Kd.C_alloc ?_ _) | (with_reducible refine Kd.C_drewN ?_ _) | (with_reducible refine Kd.C_drew ?_))); (case side2 => exact HC147_1.out); rintro e w' ⟨rfl, ⟨nd, rfl⟩⟩; have p149 : 0 ≤ (0 : Int) := (by omega); have q149 : 0 < (l0.length : Int) := of_decide_eq_true (by first | (with_reducible assumption) | assumption); obtain ⟨ad149, A149_1, c149_1, e149, hx149_0, hx149_1, hx149_2, hx149_3, hx149_4, hx149_5, hl149_1, hi149_1⟩ := at_T138 HR0.out 0 p149 q149; obtain rfl : ad143 = ad149 := (by injection e149); have qi149 : (0 < l0.length) = True := eq_true (by omega); (try rw [show ((0 : Int)).toNat = 0 from rfl] at hx149_0); (try rw [show 0 * 6 = 0 from rfl] at hx149_0); (try rw [Addr.add_zero'] at hx149_0); (try rw [show ((0 : Int)).toNat = 0 from rfl] at hx149_1); (try rw [show 0 * 6 = 0 from rfl] at hx149_1); (try rw [Addr.add_zero'] at hx149_1); (try rw [show ((0 : Int)).toNat = 0 from rfl] at hx149_2); (try rw [show 0 * 6 = 0 from rfl] at hx149_2); (try rw [Addr.add_zero'] at hx149_2); (try rw [show ((0 : Int)).toNat = 0 from rfl] at hx149_3); (try rw [show 0 * 6 = 0 from rfl] at hx149_3); (try rw [Addr.add_zero'] at hx149_3); (try rw [show ((0 : Int)).toNat = 0 from rfl] at hx149_4); (try rw [show 0 * 6 = 0 from rfl] at hx149_4); (try rw [Addr.add_zero'] at hx149_4); (try rw [show ((0 : Int)).toNat = 0 from rfl] at hx149_5); (try rw [show 0 * 6 = 0 from rfl] at hx149_5); (try rw [Addr.add_zero'] at hx149_5); have HR149_1 := Aside0.mk hi149_1; have HC149_1 := Aside0.mk hl149_1; clear hi149_1 hl149_1; replace p149 := eq_true p149; replace q149 := eq_true q149; have ea_ := Option.some.inj (hx143_1.symm.trans hx149_1); injection ea_ with ea_ en_ ec_; subst ea_; subst ec_; clear en_; have p150 : 0 ≤ (0 : Int) := (by omega); have q150 : 0 < (l0.length : Int) := of_decide_eq_true (by first | (with_reducible assumption) | assumption); obtain ⟨ad150, A150_1, c150_1, e150, hx150_0, hx150_1, hx150_2, hx150_3, hx150_4, hx150_5, hl150_1, hi150_1⟩ := at_T138 HR0.out 0 p150 q150; obtain rfl : ad143 = ad150 := (by injection e150); have qi150 : (0 < l0.length) = True := eq_true (by omega); (try rw [show ((0 : Int)).toNat = 0 from rfl] at hx150_0); (try rw [show 0 * 6 = 0 from rfl] at hx150_0); (try rw [Addr.add_zero'] at hx150_0); (try rw [show ((0 : Int)).toNat = 0 from rfl] at hx150_1); (try rw [show 0 * 6 = 0 from rfl] at hx150_1); (try rw [Addr.add_zero'] at hx150_1); (try rw [show ((0 : Int)).toNat = 0 from rfl] at hx150_2); (try rw [show 0 * 6 = 0 from rfl] at hx150_2); (try rw [Addr.add_zero'] at hx150_2); (try rw [show ((0 : Int)).toNat = 0 from rfl] at hx150_3); (try rw [show 0 * 6 = 0 from rfl] at hx150_3); (try rw [Addr.add_zero'] at hx150_3); (try rw [show ((0 : Int)).toNat = 0 from rfl] at hx150_4); (try rw [show 0 * 6 = 0 from rfl] at hx150_4); (try rw [Addr.add_zero'] at hx150_4); (try rw [show ((0 : Int)).toNat = 0 from rfl] at hx150_5); (try rw [show 0 * 6 = 0 from rfl] at hx150_5); (try rw [Addr.add_zero'] at hx150_5); have HR150_1 := Aside0.mk hi150_1; have HC150_1 := Aside0.mk hl150_1; clear hi150_1 hl150_1; replace p150 := eq_true p150; replace q150 := eq_true q150; have ea_ := Option.some.inj (hx143_1.symm.trans hx150_1); injection ea_ with ea_ en_ ec_; subst ea_; subst ec_; clear en_) | (go_at_call 146; (with_reducible refine (spec_l02Above.calls ((rd_T138 l0 0).f2) true _ A7.out).mono ?_); rintro e w' ⟨rfl, ⟨nd, rfl⟩⟩; have p152 : 0 ≤ (0 : Int) := (by omega); have q152 : 0 < (l0.length : Int) := of_decide_eq_true (by first | (with_reducible assumption) | assumption); obtain ⟨ad152, A152_1, c152_1, e152, hx152_0, hx152_1, hx152_2, hx152_3, hx152_4, hx152_5, hl152_1, hi152_1⟩ := at_T138 HR0.out 0 p152 q152; obtain rfl : ad143 = ad152 := (by injection e152); have qi152 : (0 < l0.length) = True := eq_true (by omega); (try rw [show ((0 : Int)).toNat = 0 from rfl] at hx152_0); (try rw [show 0 * 6 = 0 from rfl] at hx152_0); (try rw [Addr.add_zero'] at hx152_0); (try rw [show ((0 : Int)).toNat = 0 from rfl] at hx152_1); (try rw [show 0 * 6 = 0 from rfl] at hx152_1); (try rw [Addr.add_zero'] at hx152_1); (try rw [show ((0 : Int)).toNat = 0 from rfl] at hx152_2); (try rw [show 0 * 6 = 0 from rfl] at hx152_2); (try rw [Addr.add_zero'] at hx152_2); (try rw [show ((0 : Int)).toNat = 0 from rfl] at hx152_3); (try rw [show 0 * 6 = 0 from rfl] at hx152_3); (try rw [Addr.add_zero'] at hx152_3); (try rw [show ((0 : Int)).toNat = 0 from rfl] at hx152_4); (try rw [show 0 * 6 = 0 from rfl] at hx152_4); (try rw [Addr.add_zero'] at hx152_4); (try rw [show ((0 : Int)).toNat = 0 from rfl] at hx152_5); (try rw [show 0 * 6 = 0 from rfl] at hx152_5); (try rw [Addr.add_zero'] at hx152_5); have HR152_1 := Aside0.mk hi152_1; have HC152_1 := Aside0.mk hl152_1; clear hi152_1 hl152_1; replace p152 := eq_true p152; replace q152 := eq_true q152; have ea_ := Option.some.inj (hx143_1.symm.trans hx152_1); injection ea_ with ea_ en_ ec_; subst ea_; subst ec_; clear en_; have p153 : 0 ≤ (0 : Int) := (by omega); have q153 : 0 < (l0.length : Int) := of_decide_eq_true (by first | (with_reducible assumption) | assumption); obtain ⟨ad153, A153_1, c153_1, e153, hx153_0, hx153_1, hx153_2, hx153_3, hx153_4, hx153_5, hl153_1, hi153_1⟩ := at_T138 HR0.out 0 p153 q153; obtain rfl : ad143 = ad153 := (by injection e153); have qi153 : (0 < l0.length) = True := eq_true (by omega); (try rw [show ((0 : Int)).toNat = 0 from rfl] at hx153_0); (try rw [show 0 * 6 = 0 from rfl] at hx153_0); (try rw [Addr.add_zero'] at hx153_0); (try rw [show ((0 : Int)).toNat = 0 from rfl] at hx153_1); (try rw [show 0 * 6 = 0 from rfl] at hx153_1); (try rw [Addr.add_zero'] at hx153_1); (try rw [show ((0 : Int)).toNat = 0 from rfl] at hx153_2); (try rw [show 0 * 6 = 0 from rfl] at hx153_2); (try rw [Addr.add_zero'] at hx153_2); (try rw [show ((0 : Int)).toNat = 0 from rfl] at hx153_3); (try rw [show 0 * 6 = 0 from rfl] at hx153_3); (try rw [Addr.add_zero'] at hx153_3); (try rw [show ((0 : Int)).toNat = 0 from rfl] at hx153_4); (try rw [show 0 * 6 = 0 from rfl] at hx153_4); (try rw [Addr.add_zero'] at hx153_4); (try rw [show ((0 : Int)).toNat = 0 from rfl] at hx153_5); (try rw [show 0 * 6 = 0 from rfl] at hx153_5); (try rw [Addr.add_zero'] at hx153_5); have HR153_1 := Aside0.mk hi153_1; have HC153_1 := Aside0.mk hl153_1; clear hi153_1 hl153_1; replace p153 := eq_true p153; replace q153 := eq_true q153; have ea_ := Option.some.inj (hx143_1.symm.trans hx153_1); injection ea_ with ea_ en_ ec_; subst ea_; subst ec_; clear en_) | (go_at_call 199; (with_reducible refine (spec_l02Least.calls ((rd_T138 l0 0).f3) true _ A9.out).mono ?_); rintro e w' ⟨rfl, ⟨nd, rfl⟩⟩; have p155 : 0 ≤ (0 : Int) := (by omega); have q155 : 0 < (l0.length : Int) := of_decide_eq_true (by first | (with_reducible assumption) | assumption); obtain ⟨ad155, A155_1, c155_1, e155, hx155_0, hx155_1, hx155_2, hx155_3, hx155_4, hx155_5, hl155_1, hi155_1⟩ := at_T138 HR0.out 0 p155 q155; obtain rfl : ad143 = ad155 := (by injection e155); have qi155 : (0 < l0.length) = True := eq_true (by omega); (try rw [show ((0 : Int)).toNat = 0 from rfl] at hx155_0); (try rw [show 0 * 6 = 0 from rfl] at hx155_0); (try rw [Addr.add_zero'] at hx155_0); (try rw [show ((0 : Int)).toNat = 0 from rfl] at hx155_1); (try rw [show 0 * 6 = 0 from rfl] at hx155_1); (try rw [Addr.add_zero'] at hx155_1); (try rw [show ((0 : Int)).toNat = 0 from rfl] at hx155_2); (try rw [show 0 * 6 = 0 from rfl] at hx155_2); (try rw [Addr.add_zero'] at hx155_2); (try rw [show ((0 : Int)).toNat = 0 from rfl] at hx155_3); (try rw [show 0 * 6 = 0 from rfl] at hx155_3); (try rw [Addr.add_zero'] at hx155_3); (try rw [show ((0 : Int)).toNat = 0 from rfl] at hx155_4); (try rw [show 0 * 6 = 0 from rfl] at hx155_4); (try rw [Addr.add_zero'] at hx155_4); (try rw [show ((0 : Int)).toNat = 0 from rfl] at hx155_5); (try rw [show 0 * 6 = 0 from rfl] at hx155_5); (try rw [Addr.add_zero'] at hx155_5); have HR155_1 := Aside0.mk hi155_1; have HC155_1 := Aside0.mk hl155_1; clear hi155_1 hl155_1; replace p155 := eq_true p155; replace q155 := eq_true q155; have ea_ := Option.some.inj (hx143_1.symm.trans hx155_1); injection ea_ with ea_ en_ ec_; subst ea_; subst ec_; clear en_; have p156 : 0 ≤ (0 : Int) := (by omega); have q156 : 0 < (l0.length : Int) := of_decide_eq_true (by first | (with_reducible assumption) | assumption); obtain ⟨ad156, A156_1, c156_1, e156, hx156_0, hx156_1, hx156_2, hx156_3, hx156_4, hx156_5, hl156_1, hi156_1⟩ := at_T138 HR0.out 0 p156 q156; obtain rfl : ad143 = ad156 := (by injection e156); have qi156 : (0 < l0.length) = True := eq_true (by omega); (try rw [show ((0 : Int)).toNat = 0 from rfl] at hx156_0); (try rw [show 0 * 6 = 0 from rfl] at hx156_0); (try rw [Addr.add_zero'] at hx156_0); (try rw [show ((0 : Int)).toNat = 0 from rfl] at hx156_1); (try rw [show 0 * 6 = 0 from rfl] at hx156_1); (try rw [Addr.add_zero'] at hx156_1); (try rw [show ((0 : Int)).toNat = 0 from rfl] at hx156_2); (try rw [show 0 * 6 = 0 from rfl] at hx156_2); (try rw [Addr.add_zero'] at hx156_2); (try rw [show ((0 : Int)).toNat = 0 from rfl] at hx156_3); (try rw [show 0 * 6 = 0 from rfl] at hx156_3); (try rw [Addr.add_zero'] at hx156_3); (try rw [show ((0 : Int)).toNat = 0 from rfl] at hx156_4); (try rw [show 0 * 6 = 0 from rfl] at hx156_4); (try rw [Addr.add_zero'] at hx156_4); (try rw [show ((0 : Int)).toNat = 0 from rfl] at hx156_5); (try rw [show 0 * 6 = 0 from rfl] at hx156_5); (try rw [Addr.add_zero'] at hx156_5); have HR156_1 := Aside0.mk hi156_1; have HC156_1 := Aside0.mk hl156_1; clear hi156_1 hl156_1; replace p156 := eq_true p156; replace q156 := eq_true q156; have ea_ := Option.some.inj (hx143_1.symm.trans hx156_1); injection ea_ with ea_ en_ ec_; subst ea_; subst ec_; clear en_) | (go_at_call 188; (with_reducible refine (spec_l02Share.calls ((rd_T138 l0 0).f4) true _ A11.out).mono ?_); rintro e w' ⟨rfl, ⟨nd, rfl⟩⟩; have p158 : 0 ≤ (0 : Int) := (by omega); have q158 : 0 < (l0.length : Int) := of_decide_eq_true (by first | (with_reducible assumption) | assumption); obtain ⟨ad158, A158_1, c158_1, e158, hx158_0, hx158_1, hx158_2, hx158_3, hx158_4, hx158_5, hl158_1, hi158_1⟩ := at_T138 HR0.out 0 p158 q158; obtain rfl : ad143 = ad158 := (by injection e158); have qi158 : (0 < l0.length) = True := eq_true (by omega); (try rw [show ((0 : Int)).toNat = 0 from rfl] at hx158_0); (try rw [show 0 * 6 = 0 from rfl] at hx158_0); (try rw [Addr.add_zero'] at hx158_0); (try rw [show ((0 : Int)).toNat = 0 from rfl] at hx158_1); (try rw [show 0 * 6 = 0 from rfl] at hx158_1); (try rw [Addr.add_zero'] at hx158_1); (try rw [show ((0 : Int)).toNat = 0 from rfl] at hx158_2); (try rw [show 0 * 6 = 0 from rfl] at hx158_2); (try rw [Addr.add_zero'] at hx158_2); (try rw [show ((0 : Int)).toNat = 0 from rfl] at hx158_3); (try rw [show 0 * 6 = 0 from rfl] at hx158_3); (try rw [Addr.add_zero'] at hx158_3); (try rw [show ((0 : Int)).toNat = 0 from rfl] at hx158_4); (try rw [show 0 * 6 = 0 from rfl] at hx158_4); (try rw [Addr.add_zero'] at hx158_4); (try rw [show ((0 : Int)).toNat = 0 from rfl] at hx158_5); (try rw [show 0 * 6 = 0 from rfl] at hx158_5); (try rw [Addr.add_zero'] at hx158_5); have HR158_1 := Aside0.mk hi158_1; have HC158_1 := Aside0.mk hl158_1; clear hi158_1 hl158_1; replace p158 := eq_true p158; replace q158 := eq_true q158; have ea_ := Option.some.inj (hx143_1.symm.trans hx158_1); injection ea_ with ea_ en_ ec_; subst ea_; subst ec_; clear en_; have p159 : 0 ≤ (0 : Int) := (by omega); have q159 : 0 < (l0.length : Int) := of_decide_eq_true (by first | (with_reducible assumption) | assumption); obtain ⟨ad159, A159_1, c159_1, e159, hx159_0, hx159_1, hx159_2, hx159_3, hx159_4, hx159_5, hl159_1, hi159_1⟩ := at_T138 HR0.out 0 p159 q159; obtain rfl : ad143 = ad159 := (by injection e159); have qi159 : (0 < l0.length) = True := eq_true (by omega); (try rw [show ((0 : Int)).toNat = 0 from rfl] at hx159_0); (try rw [show 0 * 6 = 0 from rfl] at hx159_0); (try rw [Addr.add_zero'] at hx159_0); (try rw [show ((0 : Int)).toNat = 0 from rfl] at hx159_1); (try rw [show 0 * 6 = 0 from rfl] at hx159_1); (try rw [Addr.add_zero'] at hx159_1); (try rw [show ((0 : Int)).toNat = 0 from rfl] at hx159_2); (try rw [show 0 * 6 = 0 from rfl] at hx159_2); (try rw [Addr.add_zero'] at hx159_2); (try rw [show ((0 : Int)).toNat = 0 from rfl] at hx159_3); (try rw [show 0 * 6 = 0 from rfl] at hx159_3); (try rw [Addr.add_zero'] at hx159_3); (try rw [show ((0 : Int)).toNat = 0 from rfl] at hx159_4); (try rw [show 0 * 6 = 0 from rfl] at hx159_4); (try rw [Addr.add_zero'] at hx159_4); (try rw [show ((0 : Int)).toNat = 0 from rfl] at hx159_5); (try rw [show 0 * 6 = 0 from rfl] at hx159_5); (try rw [Addr.add_zero'] at hx159_5); have HR159_1 := Aside0.mk hi159_1; have HC159_1 := Aside0.mk hl159_1; clear hi159_1 hl159_1; replace p159 := eq_true p159; replace q159 := eq_true q159; have ea_ := Option.some.inj (hx143_1.symm.trans hx159_1); injection ea_ with ea_ en_ ec_; subst ea_; subst ec_; clear en_) | (go_at_call 188; (with_reducible refine (spec_l02Share.calls ((rd_T138 l0 0).f5) t160 _ A13.out).mono ?_); rintro e w' ⟨rfl, ⟨nd, rfl⟩⟩))
       go_ret
       exact ⟨by first | rfl | (simp; done) | (simp [*]; done), by repeat (first | exact Drawn0.refl _ | apply Drawn0.step)⟩
      ·replace c12 := Bool.eq_false_iff.mpr c12
       subst c12
       have H1 : (some false) = some r := by rw [if_neg (show ¬ (false = true) by decide)] at H; exact H
       clear H
       have H := H1
       clear H1
       obtain rfl := Option.some.inj H
       have p143 : 0 ≤ (0 : Int) := (by omega)
       have q143 : 0 < (l0.length : Int) := of_decide_eq_true (by first | (with_reducible assumption) | assumption)
       obtain ⟨ad143, A143_1, c143_1, e143, hx143_0, hx143_1, hx143_2, hx143_3, hx143_4, hx143_5, hl143_1, hi143_1⟩ := at_T138 HR0.out 0 p143 q143
       cases e143
       have qi143 : (0 < l0.length) = True := eq_true (by omega)
       (try rw [show ((0 : Int)).toNat = 0 from rfl] at hx143_0)
       (try rw [show 0 * 6 = 0 from rfl] at hx143_0)
       (try rw [Addr.add_zero'] at hx143_0)
       (try rw [show ((0 : Int)).toNat = 0 from rfl] at hx143_1)
       (try rw [show 0 * 6 = 0 from rfl] at hx143_1)
       (try rw [Addr.add_zero'] at hx143_1)
       (try rw [show ((0 : Int)).toNat = 0 from rfl] at hx143_2)
       (try rw [show 0 * 6 = 0 from rfl] at hx143_2)
       (try rw [Addr.add_zero'] at hx143_2)
       (try rw [show ((0 : Int)).toNat = 0 from rfl] at hx143_3)
       (try rw [show 0 * 6 = 0 from rfl] at hx143_3)
       (try rw [Addr.add_zero'] at hx143_3)
       (try rw [show ((0 : Int)).toNat = 0 from rfl] at hx143_4)
       (try rw [show 0 * 6 = 0 from rfl] at hx143_4)
       (try rw [Addr.add_zero'] at hx143_4)
       (try rw [show ((0 : Int)).toNat = 0 from rfl] at hx143_5)
       (try rw [show 0 * 6 = 0 from rfl] at hx143_5)
       (try rw [Addr.add_zero'] at hx143_5)
       have HR143_1 := Aside0.mk hi143_1
       have HC143_1 := Aside0.mk hl143_1
       clear hi143_1 hl143_1
       replace p143 := eq_true p143
       replace q143 := eq_true q143
       have p144 : 0 ≤ (0 : Int) := (by omega)
       have q144 : 0 < (l0.length : Int) := of_decide_eq_true (by first | (with_reducible assumption) | assumption)
       obtain ⟨ad144, A144_1, c144_1, e144, hx144_0, hx144_1, hx144_2, hx144_3, hx144_4, hx144_5, hl144_1, hi144_1⟩ := at_T138 HR0.out 0 p144 q144
       obtain rfl : ad143 = ad144 := (by injection e144)
       have qi144 : (0 < l0.length) = True := eq_true (by omega)
       (try rw [show ((0 : Int)).toNat = 0 from rfl] at hx144_0)
       (try rw [show 0 * 6 = 0 from rfl] at hx144_0)
       (try rw [Addr.add_zero'] at hx144_0)
       (try rw [show ((0 : Int)).toNat = 0 from rfl] at hx144_1)
       (try rw [show 0 * 6 = 0 from rfl] at hx144_1)
       (try rw [Addr.add_zero'] at hx144_1)
       (try rw [show ((0 : Int)).toNat = 0 from rfl] at hx144_2)
       (try rw [show 0 * 6 = 0 from rfl] at hx144_2)
       (try rw [Addr.add_zero'] at hx144_2)
       (try rw [show ((0 : Int)).toNat = 0 from rfl] at hx144_3)
       (try rw [show 0 * 6 = 0 from rfl] at hx144_3)
       (try rw [Addr.add_zero'] at hx144_3)
       (try rw [show ((0 : Int)).toNat = 0 from rfl] at hx144_4)
       (try rw [show 0 * 6 = 0 from rfl] at hx144_4)
       (try rw [Addr.add_zero'] at hx144_4)
       (try rw [show ((0 : Int)).toNat = 0 from rfl] at hx144_5)
       (try rw [show 0 * 6 = 0 from rfl] at hx144_5)
       (try rw [Addr.add_zero'] at hx144_5)
       have HR144_1 := Aside0.mk hi144_1
       have HC144_1 := Aside0.mk hl144_1
       clear hi144_1 hl144_1
       replace p144 := eq_true p144
       replace q144 := eq_true q144
       have ea_ := Option.some.inj (hx143_1.symm.trans hx144_1)
       injection ea_ with ea_ en_ ec_
       subst ea_
       subst ec_
       clear en_
       go_enter Try.func166, Try.ntmps166
       go_wp2_with (first | ((with_reducible refine gate_callee (f := 197) rfl ?_); refine goesL_ (some 7) rfl rfl Try.func197 (by kernel_rfl) rfl #[.string ((rd_T138 l0 0).f0)] rfl (by (try simp only [List.map_toArray, List.map_cons, List.map_nil]); first | done | rfl | (simp only [List.length_drop, List.length_take]; rfl)) ?_; (with_reducible refine (spec_l06Name.calls k ((rd_T138 l0 0).f0) true _ A3.out).mono ?_); rintro e w' ⟨rfl, ⟨nd, rfl⟩⟩; refine ⟨_, rfl, ?_⟩; have p146 : 0 ≤ (0 : Int) := (by omega); have q146 : 0 < (l0.length : Int) := of_decide_eq_true (by first | (with_reducible assumption) | assumption); obtain ⟨ad146, A146_1, c146_1, e146, hx146_0, hx146_1, hx146_2, hx146_3, hx146_4, hx146_5, hl146_1, hi146_1⟩ := at_T138 HR0.out 0 p146 q146; obtain rfl : ad143 = ad146 := (by injection e146); have qi146 : (0 < l0.length) = True := eq_true (by omega); (try rw [show ((0 : Int)).toNat = 0 from rfl] at hx146_0); (try rw [show 0 * 6 = 0 from rfl] at hx146_0); (try rw [Addr.add_zero'] at hx146_0); (try rw [show ((0 : Int)).toNat = 0 from rfl] at hx146_1); (try rw [show 0 * 6 = 0 from rfl] at hx146_1); (try rw [Addr.add_zero'] at hx146_1); (try rw [show ((0 : Int)).toNat = 0 from rfl] at hx146_2); (try rw [show 0 * 6 = 0 from rfl] at hx146_2); (try rw [Addr.add_zero'] at hx146_2); (try rw [show ((0 : Int)).toNat = 0 from rfl] at hx146_3); (try rw [show 0 * 6 = 0 from rfl] at hx146_3); (try rw [Addr.add_zero'] at hx146_3); (try rw [show ((0 : Int)).toNat = 0 from rfl] at hx146_4); (try rw [show 0 * 6 = 0 from rfl] at hx146_4); (try rw [Addr.add_zero'] at hx146_4); (try rw [show ((0 : Int)).toNat = 0 from rfl] at hx146_5); (try rw [show 0 * 6 = 0 from rfl] at hx146_5); (try rw [Addr.add_zero'] at hx146_5); have HR146_1 := Aside0.mk hi146_1; have HC146_1 := Aside0.mk hl146_1; clear hi146_1 hl146_1; replace p146 := eq_true p146; replace q146 := eq_true q146; have ea_ := Option.some.inj (hx143_1.symm.trans hx146_1); injection ea_ with ea_ en_ ec_; subst ea_; subst ec_; clear en_; have p147 : 0 ≤ (0 : Int) := (by omega); have q147 : 0 < (l0.length : Int) := of_decide_eq_true (by first | (with_reducible assumption) | assumption); obtain ⟨ad147, A147_1, c147_1, e147, hx147_0, hx147_1, hx147_2, hx147_3, hx147_4, hx147_5, hl147_1, hi147_1⟩ := at_T138 HR0.out 0 p147 q147; obtain rfl : ad143 = ad147 := (by injection e147); have qi147 : (0 < l0.length) = True := eq_true (by omega); (try rw [show ((0 : Int)).toNat = 0 from rfl] at hx147_0); (try rw [show 0 * 6 = 0 from rfl] at hx147_0); (try rw [Addr.add_zero'] at hx147_0); (try rw [show ((0 : Int)).toNat = 0 from rfl] at hx147_1); (try rw [show 0 * 6 = 0 from rfl] at hx147_1); (try rw [Addr.add_zero'] at hx147_1); (try rw [show ((0 : Int)).toNat = 0 from rfl] at hx147_2); (try rw [show 0 * 6 = 0 from rfl] at hx147_2); (try rw [Addr.add_zero'] at hx147_2); (try rw [show ((0 : Int)).toNat = 0 from rfl] at hx147_3); (try rw [show 0 * 6 = 0 from rfl] at hx147_3); (try rw [Addr.add_zero'] at hx147_3); (try rw [show ((0 : Int)).toNat = 0 from rfl] at hx147_4); (try rw [show 0 * 6 = 0 from rfl] at hx147_4); (try rw [Addr.add_zero'] at hx147_4); (try rw [show ((0 : Int)).toNat = 0 from rfl] at hx147_5); (try rw [show 0 * 6 = 0 from rfl] at hx147_5); (try rw [Addr.add_zero'] at hx147_5); have HR147_1 := Aside0.mk hi147_1; have HC147_1 := Aside0.mk hl147_1; clear hi147_1 hl147_1; replace p147 := eq_true p147; replace q147 := eq_true q147; have ea_ := Option.some.inj (hx143_1.symm.trans hx147_1); injection ea_ with ea_ en_ ec_; subst ea_; subst ec_; clear en_) | (go_at_call 198; (with_reducible refine (spec_l02Areas.calls k _ _ ((rd_T138 l0 0).f1) true _ ?side1 ?side2 A5.out).mono ?_); (case side1 => repeat (first | exact HR147_1.out | (with_reducible refine Kd.C_alloc ?_ _) | (with_reducible refine Kd.C_drewN ?_ _) | (with_reducible refine Kd.C_drew ?_))); (case side2 => exact HC147_1.out); rintro e w' ⟨rfl, ⟨nd, rfl⟩⟩; have p149 : 0 ≤ (0 : Int) := (by omega); have q149 : 0 < (l0.length : Int) := of_decide_eq_true (by first | (with_reducible assumption) | assumption); obtain ⟨ad149, A149_1, c149_1, e149, hx149_0, hx149_1, hx149_2, hx149_3, hx149_4, hx149_5, hl149_1, hi149_1⟩ := at_T138 HR0.out 0 p149 q149; obtain rfl : ad143 = ad149 := (by injection e149); have qi149 : (0 < l0.length) = True := eq_true (by omega); (try rw [show ((0 : Int)).toNat = 0 from rfl] at hx149_0); (try rw [show 0 * 6 = 0 from rfl] at hx149_0); (try rw [Addr.add_zero'] at hx149_0); (try rw [show ((0 : Int)).toNat = 0 from rfl] at hx149_1); (try rw [show 0 * 6 = 0 from rfl] at hx149_1); (try rw [Addr.add_zero'] at hx149_1); (try rw [show ((0 : Int)).toNat = 0 from rfl] at hx149_2); (try rw [show 0 * 6 = 0 from rfl] at hx149_2); (try rw [Addr.add_zero'] at hx149_2); (try rw [show ((0 : Int)).toNat = 0 from rfl] at hx149_3); (try rw [show 0 * 6 = 0 from rfl] at hx149_3); (try rw [Addr.add_zero'] at hx149_3); (try rw [show ((0 : Int)).toNat = 0 from rfl] at hx149_4); (try rw [show 0 * 6 = 0 from rfl] at hx149_4); (try rw [Addr.add_zero'] at hx149_4); (try rw [show ((0 : Int)).toNat = 0 from rfl] at hx149_5); (try rw [show 0 * 6 = 0 from rfl] at hx149_5); (try rw [Addr.add_zero'] at hx149_5); have HR149_1 := Aside0.mk hi149_1; have HC149_1 := Aside0.mk hl149_1; clear hi149_1 hl149_1; replace p149 := eq_true p149; replace q149 := eq_true q149; have ea_ := Option.some.inj (hx143_1.symm.trans hx149_1); injection ea_ with ea_ en_ ec_; subst ea_; subst ec_; clear en_; have p150 : 0 ≤ (0 : Int) := (by omega); have q150 : 0 < (l0.length : Int) := of_decide_eq_true (by first | (with_reducible assumption) | assumption); obtain ⟨ad150, A150_1, c150_1, e150, hx150_0, hx150_1, hx150_2, hx150_3, hx150_4, hx150_5, hl150_1, hi150_1⟩ := at_T138 HR0.out 0 p150 q150; obtain rfl : ad143 = ad150 := (by injection e150); have qi150 : (0 < l0.length) = True := eq_true (by omega); (try rw [show ((0 : Int)).toNat = 0 from rfl] at hx150_0); (try rw [show 0 * 6 = 0 from rfl] at hx150_0); (try rw [Addr.add_zero'] at hx150_0); (try rw [show ((0 : Int)).toNat = 0 from rfl] at hx150_1); (try rw [show 0 * 6 = 0 from rfl] at hx150_1); (try rw [Addr.add_zero'] at hx150_1); (try rw [show ((0 : Int)).toNat = 0 from rfl] at hx150_2); (try rw [show 0 * 6 = 0 from rfl] at hx150_2); (try rw [Addr.add_zero'] at hx150_2); (try rw [show ((0 : Int)).toNat = 0 from rfl] at hx150_3); (try rw [show 0 * 6 = 0 from rfl] at hx150_3); (try rw [Addr.add_zero'] at hx150_3); (try rw [show ((0 : Int)).toNat = 0 from rfl] at hx150_4); (try rw [show 0 * 6 = 0 from rfl] at hx150_4); (try rw [Addr.add_zero'] at hx150_4); (try rw [show ((0 : Int)).toNat = 0 from rfl] at hx150_5); (try rw [show 0 * 6 = 0 from rfl] at hx150_5); (try rw [Addr.add_zero'] at hx150_5); have HR150_1 := Aside0.mk hi150_1; have HC150_1 := Aside0.mk hl150_1; clear hi150_1 hl150_1; replace p150 := eq_true p150; replace q150 := eq_true q150; have ea_ := Option.some.inj (hx143_1.symm.trans hx150_1); injection ea_ with ea_ en_ ec_; subst ea_; subst ec_; clear en_) | (go_at_call 146; (with_reducible refine (spec_l02Above.calls ((rd_T138 l0 0).f2) true _ A7.out).mono ?_); rintro e w' ⟨rfl, ⟨nd, rfl⟩⟩; have p152 : 0 ≤ (0 : Int) := (by omega); have q152 : 0 < (l0.length : Int) := of_decide_eq_true (by first | (with_reducible assumption) | assumption); obtain ⟨ad152, A152_1, c152_1, e152, hx152_0, hx152_1, hx152_2, hx152_3, hx152_4, hx152_5, hl152_1, hi152_1⟩ := at_T138 HR0.out 0 p152 q152; obtain rfl : ad143 = ad152 := (by injection e152); have qi152 : (0 < l0.length) = True := eq_true (by omega); (try rw [show ((0 : Int)).toNat = 0 from rfl] at hx152_0); (try rw [show 0 * 6 = 0 from rfl] at hx152_0); (try rw [Addr.add_zero'] at hx152_0); (try rw [show ((0 : Int)).toNat = 0 from rfl] at hx152_1); (try rw [show 0 * 6 = 0 from rfl] at hx152_1); (try rw [Addr.add_zero'] at hx152_1); (try rw [show ((0 : Int)).toNat = 0 from rfl] at hx152_2); (try rw [show 0 * 6 = 0 from rfl] at hx152_2); (try rw [Addr.add_zero'] at hx152_2); (try rw [show ((0 : Int)).toNat = 0 from rfl] at hx152_3); (try rw [show 0 * 6 = 0 from rfl] at hx152_3); (try rw [Addr.add_zero'] at hx152_3); (try rw [show ((0 : Int)).toNat = 0 from rfl] at hx152_4); (try rw [show 0 * 6 = 0 from rfl] at hx152_4); (try rw [Addr.add_zero'] at hx152_4); (try rw [show ((0 : Int)).toNat = 0 from rfl] at hx152_5); (try rw [show 0 * 6 = 0 from rfl] at hx152_5); (try rw [Addr.add_zero'] at hx152_5); have HR152_1 := Aside0.mk hi152_1; have HC152_1 := Aside0.mk hl152_1; clear hi152_1 hl152_1; replace p152 := eq_true p152; replace q152 := eq_true q152; have ea_ := Option.some.inj (hx143_1.symm.trans hx152_1); injection ea_ with ea_ en_ ec_; subst ea_; subst ec_; clear en_; have p153 : 0 ≤ (0 : Int) := (by omega); have q153 : 0 < (l0.length : Int) := of_decide_eq_true (by first | (with_reducible assumption) | assumption); obtain ⟨ad153, A153_1, c153_1, e153, hx153_0, hx153_1, hx153_2, hx153_3, hx153_4, hx153_5, hl153_1, hi153_1⟩ := at_T138 HR0.out 0 p153 q153; obtain rfl : ad143 = ad153 := (by injection e153); have qi153 : (0 < l0.length) = True := eq_true (by omega); (try rw [show ((0 : Int)).toNat = 0 from rfl] at hx153_0); (try rw [show 0 * 6 = 0 from rfl] at hx153_0); (try rw [Addr.add_zero'] at hx153_0); (try rw [show ((0 : Int)).toNat = 0 from rfl] at hx153_1); (try rw [show 0 * 6 = 0 from rfl] at hx153_1); (try rw [Addr.add_zero'] at hx153_1); (try rw [show ((0 : Int)).toNat = 0 from rfl] at hx153_2); (try rw [show 0 * 6 = 0 from rfl] at hx153_2); (try rw [Addr.add_zero'] at hx153_2); (try rw [show ((0 : Int)).toNat = 0 from rfl] at hx153_3); (try rw [show 0 * 6 = 0 from rfl] at hx153_3); (try rw [Addr.add_zero'] at hx153_3); (try rw [show ((0 : Int)).toNat = 0 from rfl] at hx153_4); (try rw [show 0 * 6 = 0 from rfl] at hx153_4); (try rw [Addr.add_zero'] at hx153_4); (try rw [show ((0 : Int)).toNat = 0 from rfl] at hx153_5); (try rw [show 0 * 6 = 0 from rfl] at hx153_5); (try rw [Addr.add_zero'] at hx153_5); have HR153_1 := Aside0.mk hi153_1; have HC153_1 := Aside0.mk hl153_1; clear hi153_1 hl153_1; replace p153 := eq_true p153; replace q153 := eq_true q153; have ea_ := Option.some.inj (hx143_1.symm.trans hx153_1); injection ea_ with ea_ en_ ec_; subst ea_; subst ec_; clear en_) | (go_at_call 199; (with_reducible refine (spec_l02Least.calls ((rd_T138 l0 0).f3) true _ A9.out).mono ?_); rintro e w' ⟨rfl, ⟨nd, rfl⟩⟩; have p155 : 0 ≤ (0 : Int) := (by omega); have q155 : 0 < (l0.length : Int) := of_decide_eq_true (by first | (with_reducible assumption) | assumption); obtain ⟨ad155, A155_1, c155_1, e155, hx155_0, hx155_1, hx155_2, hx155_3, hx155_4, hx155_5, hl155_1, hi155_1⟩ := at_T138 HR0.out 0 p155 q155; obtain rfl : ad143 = ad155 := (by injection e155); have qi155 : (0 < l0.length) = True := eq_true (by omega); (try rw [show ((0 : Int)).toNat = 0 from rfl] at hx155_0); (try rw [show 0 * 6 = 0 from rfl] at hx155_0); (try rw [Addr.add_zero'] at hx155_0); (try rw [show ((0 : Int)).toNat = 0 from rfl] at hx155_1); (try rw [show 0 * 6 = 0 from rfl] at hx155_1); (try rw [Addr.add_zero'] at hx155_1); (try rw [show ((0 : Int)).toNat = 0 from rfl] at hx155_2); (try rw [show 0 * 6 = 0 from rfl] at hx155_2); (try rw [Addr.add_zero'] at hx155_2); (try rw [show ((0 : Int)).toNat = 0 from rfl] at hx155_3); (try rw [show 0 * 6 = 0 from rfl] at hx155_3); (try rw [Addr.add_zero'] at hx155_3); (try rw [show ((0 : Int)).toNat = 0 from rfl] at hx155_4); (try rw [show 0 * 6 = 0 from rfl] at hx155_4); (try rw [Addr.add_zero'] at hx155_4); (try rw [show ((0 : Int)).toNat = 0 from rfl] at hx155_5); (try rw [show 0 * 6 = 0 from rfl] at hx155_5); (try rw [Addr.add_zero'] at hx155_5); have HR155_1 := Aside0.mk hi155_1; have HC155_1 := Aside0.mk hl155_1; clear hi155_1 hl155_1; replace p155 := eq_true p155; replace q155 := eq_true q155; have ea_ := Option.some.inj (hx143_1.symm.trans hx155_1); injection ea_ with ea_ en_ ec_; subst ea_; subst ec_; clear en_; have p156 : 0 ≤ (0 : Int) := (by omega); have q156 : 0 < (l0.length : Int) := of_decide_eq_true (by first | (with_reducible assumption) | assumption); obtain ⟨ad156, A156_1, c156_1, e156, hx156_0, hx156_1, hx156_2, hx156_3, hx156_4, hx156_5, hl156_1, hi156_1⟩ := at_T138 HR0.out 0 p156 q156; obtain rfl : ad143 = ad156 := (by injection e156); have qi156 : (0 < l0.length) = True := eq_true (by omega); (try rw [show ((0 : Int)).toNat = 0 from rfl] at hx156_0); (try rw [show 0 * 6 = 0 from rfl] at hx156_0); (try rw [Addr.add_zero'] at hx156_0); (try rw [show ((0 : Int)).toNat = 0 from rfl] at hx156_1); (try rw [show 0 * 6 = 0 from rfl] at hx156_1); (try rw [Addr.add_zero'] at hx156_1); (try rw [show ((0 : Int)).toNat = 0 from rfl] at hx156_2); (try rw [show 0 * 6 = 0 from rfl] at hx156_2); (try rw [Addr.add_zero'] at hx156_2); (try rw [show ((0 : Int)).toNat = 0 from rfl] at hx156_3); (try rw [show 0 * 6 = 0 from rfl] at hx156_3); (try rw [Addr.add_zero'] at hx156_3); (try rw [show ((0 : Int)).toNat = 0 from rfl] at hx156_4); (try rw [show 0 * 6 = 0 from rfl] at hx156_4); (try rw [Addr.add_zero'] at hx156_4); (try rw [show ((0 : Int)).toNat = 0 from rfl] at hx156_5); (try rw [show 0 * 6 = 0 from rfl] at hx156_5); (try rw [Addr.add_zero'] at hx156_5); have HR156_1 := Aside0.mk hi156_1; have HC156_1 := Aside0.mk hl156_1; clear hi156_1 hl156_1; replace p156 := eq_true p156; replace q156 := eq_true q156; have ea_ := Option.some.inj (hx143_1.symm.trans hx156_1); injection ea_ with ea_ en_ ec_; subst ea_; subst ec_; clear en_) | (go_at_call 188; (with_reducible refine (spec_l02Share.calls ((rd_T138 l0 0).f4) false _ A11.out).mono ?_); rintro e w' ⟨rfl, ⟨nd, rfl⟩⟩))
       go_ret
       exact ⟨by first | rfl | (simp; done) | (simp [*]; done), by repeat (first | exact Drawn0.refl _ | apply Drawn0.step)⟩
     ·replace c10 := Bool.eq_false_iff.mpr c10
      subst c10
      have H1 : (some false) = some r := by rw [if_neg (show ¬ (false = true) by decide)] at H; exact H
      clear H
      have H := H1
      clear H1
      obtain rfl := Option.some.inj H
      have p143 : 0 ≤ (0 : Int) := (by omega)
      have q143 : 0 < (l0.length : Int) := of_decide_eq_true (by first | (with_reducible assumption) | assumption)
      obtain ⟨ad143, A143_1, c143_1, e143, hx143_0, hx143_1, hx143_2, hx143_3, hx143_4, hx143_5, hl143_1, hi143_1⟩ := at_T138 HR0.out 0 p143 q143
      cases e143
      have qi143 : (0 < l0.length) = True := eq_true (by omega)
      (try rw [show ((0 : Int)).toNat = 0 from rfl] at hx143_0)
      (try rw [show 0 * 6 = 0 from rfl] at hx143_0)
      (try rw [Addr.add_zero'] at hx143_0)
      (try rw [show ((0 : Int)).toNat = 0 from rfl] at hx143_1)
      (try rw [show 0 * 6 = 0 from rfl] at hx143_1)
      (try rw [Addr.add_zero'] at hx143_1)
      (try rw [show ((0 : Int)).toNat = 0 from rfl] at hx143_2)
      (try rw [show 0 * 6 = 0 from rfl] at hx143_2)
      (try rw [Addr.add_zero'] at hx143_2)
      (try rw [show ((0 : Int)).toNat = 0 from rfl] at hx143_3)
      (try rw [show 0 * 6 = 0 from rfl] at hx143_3)
      (try rw [Addr.add_zero'] at hx143_3)
      (try rw [show ((0 : Int)).toNat = 0 from rfl] at hx143_4)
      (try rw [show 0 * 6 = 0 from rfl] at hx143_4)
      (try rw [Addr.add_zero'] at hx143_4)
      (try rw [show ((0 : Int)).toNat = 0 from rfl] at hx143_5)
      (try rw [show 0 * 6 = 0 from rfl] at hx143_5)
      (try rw [Addr.add_zero'] at hx143_5)
      have HR143_1 := Aside0.mk hi143_1
      have HC143_1 := Aside0.mk hl143_1
      clear hi143_1 hl143_1
      replace p143 := eq_true p143
      replace q143 := eq_true q143
      have p144 : 0 ≤ (0 : Int) := (by omega)
      have q144 : 0 < (l0.length : Int) := of_decide_eq_true (by first | (with_reducible assumption) | assumption)
      obtain ⟨ad144, A144_1, c144_1, e144, hx144_0, hx144_1, hx144_2, hx144_3, hx144_4, hx144_5, hl144_1, hi144_1⟩ := at_T138 HR0.out 0 p144 q144
      obtain rfl : ad143 = ad144 := (by injection e144)
      have qi144 : (0 < l0.length) = True := eq_true (by omega)
      (try rw [show ((0 : Int)).toNat = 0 from rfl] at hx144_0)
      (try rw [show 0 * 6 = 0 from rfl] at hx144_0)
      (try rw [Addr.add_zero'] at hx144_0)
      (try rw [show ((0 : Int)).toNat = 0 from rfl] at hx144_1)
      (try rw [show 0 * 6 = 0 from rfl] at hx144_1)
      (try rw [Addr.add_zero'] at hx144_1)
      (try rw [show ((0 : Int)).toNat = 0 from rfl] at hx144_2)
      (try rw [show 0 * 6 = 0 from rfl] at hx144_2)
      (try rw [Addr.add_zero'] at hx144_2)
      (try rw [show ((0 : Int)).toNat = 0 from rfl] at hx144_3)
      (try rw [show 0 * 6 = 0 from rfl] at hx144_3)
      (try rw [Addr.add_zero'] at hx144_3)
      (try rw [show ((0 : Int)).toNat = 0 from rfl] at hx144_4)
      (try rw [show 0 * 6 = 0 from rfl] at hx144_4)
      (try rw [Addr.add_zero'] at hx144_4)
      (try rw [show ((0 : Int)).toNat = 0 from rfl] at hx144_5)
      (try rw [show 0 * 6 = 0 from rfl] at hx144_5)
      (try rw [Addr.add_zero'] at hx144_5)
      have HR144_1 := Aside0.mk hi144_1
      have HC144_1 := Aside0.mk hl144_1
      clear hi144_1 hl144_1
      replace p144 := eq_true p144
      replace q144 := eq_true q144
      have ea_ := Option.some.inj (hx143_1.symm.trans hx144_1)
      injection ea_ with ea_ en_ ec_
      subst ea_
      subst ec_
      clear en_
      go_enter Try.func166, Try.ntmps166
      go_wp2_with (first | ((with_reducible refine gate_callee (f := 197) rfl ?_); refine goesL_ (some 7) rfl rfl Try.func197 (by kernel_rfl) rfl #[.string ((rd_T138 l0 0).f0)] rfl (by (try simp only [List.map_toArray, List.map_cons, List.map_nil]); first | done | rfl | (simp only [List.length_drop, List.length_take]; rfl)) ?_; (with_reducible refine (spec_l06Name.calls k ((rd_T138 l0 0).f0) true _ A3.out).mono ?_); rintro e w' ⟨rfl, ⟨nd, rfl⟩⟩; refine ⟨_, rfl, ?_⟩; have p146 : 0 ≤ (0 : Int) := (by omega); have q146 : 0 < (l0.length : Int) := of_decide_eq_true (by first | (with_reducible assumption) | assumption); obtain ⟨ad146, A146_1, c146_1, e146, hx146_0, hx146_1, hx146_2, hx146_3, hx146_4, hx146_5, hl146_1, hi146_1⟩ := at_T138 HR0.out 0 p146 q146; obtain rfl : ad143 = ad146 := (by injection e146); have qi146 : (0 < l0.length) = True := eq_true (by omega); (try rw [show ((0 : Int)).toNat = 0 from rfl] at hx146_0); (try rw [show 0 * 6 = 0 from rfl] at hx146_0); (try rw [Addr.add_zero'] at hx146_0); (try rw [show ((0 : Int)).toNat = 0 from rfl] at hx146_1); (try rw [show 0 * 6 = 0 from rfl] at hx146_1); (try rw [Addr.add_zero'] at hx146_1); (try rw [show ((0 : Int)).toNat = 0 from rfl] at hx146_2); (try rw [show 0 * 6 = 0 from rfl] at hx146_2); (try rw [Addr.add_zero'] at hx146_2); (try rw [show ((0 : Int)).toNat = 0 from rfl] at hx146_3); (try rw [show 0 * 6 = 0 from rfl] at hx146_3); (try rw [Addr.add_zero'] at hx146_3); (try rw [show ((0 : Int)).toNat = 0 from rfl] at hx146_4); (try rw [show 0 * 6 = 0 from rfl] at hx146_4); (try rw [Addr.add_zero'] at hx146_4); (try rw [show ((0 : Int)).toNat = 0 from rfl] at hx146_5); (try rw [show 0 * 6 = 0 from rfl] at hx146_5); (try rw [Addr.add_zero'] at hx146_5); have HR146_1 := Aside0.mk hi146_1; have HC146_1 := Aside0.mk hl146_1; clear hi146_1 hl146_1; replace p146 := eq_true p146; replace q146 := eq_true q146; have ea_ := Option.some.inj (hx143_1.symm.trans hx146_1); injection ea_ with ea_ en_ ec_; subst ea_; subst ec_; clear en_; have p147 : 0 ≤ (0 : Int) := (by omega); have q147 : 0 < (l0.length : Int) := of_decide_eq_true (by first | (with_reducible assumption) | assumption); obtain ⟨ad147, A147_1, c147_1, e147, hx147_0, hx147_1, hx147_2, hx147_3, hx147_4, hx147_5, hl147_1, hi147_1⟩ := at_T138 HR0.out 0 p147 q147; obtain rfl : ad143 = ad147 := (by injection e147); have qi147 : (0 < l0.length) = True := eq_true (by omega); (try rw [show ((0 : Int)).toNat = 0 from rfl] at hx147_0); (try rw [show 0 * 6 = 0 from rfl] at hx147_0); (try rw [Addr.add_zero'] at hx147_0); (try rw [show ((0 : Int)).toNat = 0 from rfl] at hx147_1); (try rw [show 0 * 6 = 0 from rfl] at hx147_1); (try rw [Addr.add_zero'] at hx147_1); (try rw [show ((0 : Int)).toNat = 0 from rfl] at hx147_2); (try rw [show 0 * 6 = 0 from rfl] at hx147_2); (try rw [Addr.add_zero'] at hx147_2); (try rw [show ((0 : Int)).toNat = 0 from rfl] at hx147_3); (try rw [show 0 * 6 = 0 from rfl] at hx147_3); (try rw [Addr.add_zero'] at hx147_3); (try rw [show ((0 : Int)).toNat = 0 from rfl] at hx147_4); (try rw [show 0 * 6 = 0 from rfl] at hx147_4); (try rw [Addr.add_zero'] at hx147_4); (try rw [show ((0 : Int)).toNat = 0 from rfl] at hx147_5); (try rw [show 0 * 6 = 0 from rfl] at hx147_5); (try rw [Addr.add_zero'] at hx147_5); have HR147_1 := Aside0.mk hi147_1; have HC147_1 := Aside0.mk hl147_1; clear hi147_1 hl147_1; replace p147 := eq_true p147; replace q147 := eq_true q147; have ea_ := Option.some.inj (hx143_1.symm.trans hx147_1); injection ea_ with ea_ en_ ec_; subst ea_; subst ec_; clear en_) | (go_at_call 198; (with_reducible refine (spec_l02Areas.calls k _ _ ((rd_T138 l0 0).f1) true _ ?side1 ?side2 A5.out).mono ?_); (case side1 => repeat (first | exact HR147_1.out | (with_reducible refine Kd.C_alloc ?_ _) | (with_reducible refine Kd.C_drewN ?_ _) | (with_reducible refine Kd.C_drew ?_))); (case side2 => exact HC147_1.out); rintro e w' ⟨rfl, ⟨nd, rfl⟩⟩; have p149 : 0 ≤ (0 : Int) := (by omega); have q149 : 0 < (l0.length : Int) := of_decide_eq_true (by first | (with_reducible assumption) | assumption); obtain ⟨ad149, A149_1, c149_1, e149, hx149_0, hx149_1, hx149_2, hx149_3, hx149_4, hx149_5, hl149_1, hi149_1⟩ := at_T138 HR0.out 0 p149 q149; obtain rfl : ad143 = ad149 := (by injection e149); have qi149 : (0 < l0.length) = True := eq_true (by omega); (try rw [show ((0 : Int)).toNat = 0 from rfl] at hx149_0); (try rw [show 0 * 6 = 0 from rfl] at hx149_0); (try rw [Addr.add_zero'] at hx149_0); (try rw [show ((0 : Int)).toNat = 0 from rfl] at hx149_1); (try rw [show 0 * 6 = 0 from rfl] at hx149_1); (try rw [Addr.add_zero'] at hx149_1); (try rw [show ((0 : Int)).toNat = 0 from rfl] at hx149_2); (try rw [show 0 * 6 = 0 from rfl] at hx149_2); (try rw [Addr.add_zero'] at hx149_2); (try rw [show ((0 : Int)).toNat = 0 from rfl] at hx149_3); (try rw [show 0 * 6 = 0 from rfl] at hx149_3); (try rw [Addr.add_zero'] at hx149_3); (try rw [show ((0 : Int)).toNat = 0 from rfl] at hx149_4); (try rw [show 0 * 6 = 0 from rfl] at hx149_4); (try rw [Addr.add_zero'] at hx149_4); (try rw [show ((0 : Int)).toNat = 0 from rfl] at hx149_5); (try rw [show 0 * 6 = 0 from rfl] at hx149_5); (try rw [Addr.add_zero'] at hx149_5); have HR149_1 := Aside0.mk hi149_1; have HC149_1 := Aside0.mk hl149_1; clear hi149_1 hl149_1; replace p149 := eq_true p149; replace q149 := eq_true q149; have ea_ := Option.some.inj (hx143_1.symm.trans hx149_1); injection ea_ with ea_ en_ ec_; subst ea_; subst ec_; clear en_; have p150 : 0 ≤ (0 : Int) := (by omega); have q150 : 0 < (l0.length : Int) := of_decide_eq_true (by first | (with_reducible assumption) | assumption); obtain ⟨ad150, A150_1, c150_1, e150, hx150_0, hx150_1, hx150_2, hx150_3, hx150_4, hx150_5, hl150_1, hi150_1⟩ := at_T138 HR0.out 0 p150 q150; obtain rfl : ad143 = ad150 := (by injection e150); have qi150 : (0 < l0.length) = True := eq_true (by omega); (try rw [show ((0 : Int)).toNat = 0 from rfl] at hx150_0); (try rw [show 0 * 6 = 0 from rfl] at hx150_0); (try rw [Addr.add_zero'] at hx150_0); (try rw [show ((0 : Int)).toNat = 0 from rfl] at hx150_1); (try rw [show 0 * 6 = 0 from rfl] at hx150_1); (try rw [Addr.add_zero'] at hx150_1); (try rw [show ((0 : Int)).toNat = 0 from rfl] at hx150_2); (try rw [show 0 * 6 = 0 from rfl] at hx150_2); (try rw [Addr.add_zero'] at hx150_2); (try rw [show ((0 : Int)).toNat = 0 from rfl] at hx150_3); (try rw [show 0 * 6 = 0 from rfl] at hx150_3); (try rw [Addr.add_zero'] at hx150_3); (try rw [show ((0 : Int)).toNat = 0 from rfl] at hx150_4); (try rw [show 0 * 6 = 0 from rfl] at hx150_4); (try rw [Addr.add_zero'] at hx150_4); (try rw [show ((0 : Int)).toNat = 0 from rfl] at hx150_5); (try rw [show 0 * 6 = 0 from rfl] at hx150_5); (try rw [Addr.add_zero'] at hx150_5); have HR150_1 := Aside0.mk hi150_1; have HC150_1 := Aside0.mk hl150_1; clear hi150_1 hl150_1; replace p150 := eq_true p150; replace q150 := eq_true q150; have ea_ := Option.some.inj (hx143_1.symm.trans hx150_1); injection ea_ with ea_ en_ ec_; subst ea_; subst ec_; clear en_) | (go_at_call 146; (with_reducible refine (spec_l02Above.calls ((rd_T138 l0 0).f2) true _ A7.out).mono ?_); rintro e w' ⟨rfl, ⟨nd, rfl⟩⟩; have p152 : 0 ≤ (0 : Int) := (by omega); have q152 : 0 < (l0.length : Int) := of_decide_eq_true (by first | (with_reducible assumption) | assumption); obtain ⟨ad152, A152_1, c152_1, e152, hx152_0, hx152_1, hx152_2, hx152_3, hx152_4, hx152_5, hl152_1, hi152_1⟩ := at_T138 HR0.out 0 p152 q152; obtain rfl : ad143 = ad152 := (by injection e152); have qi152 : (0 < l0.length) = True := eq_true (by omega); (try rw [show ((0 : Int)).toNat = 0 from rfl] at hx152_0); (try rw [show 0 * 6 = 0 from rfl] at hx152_0); (try rw [Addr.add_zero'] at hx152_0); (try rw [show ((0 : Int)).toNat = 0 from rfl] at hx152_1); (try rw [show 0 * 6 = 0 from rfl] at hx152_1); (try rw [Addr.add_zero'] at hx152_1); (try rw [show ((0 : Int)).toNat = 0 from rfl] at hx152_2); (try rw [show 0 * 6 = 0 from rfl] at hx152_2); (try rw [Addr.add_zero'] at hx152_2); (try rw [show ((0 : Int)).toNat = 0 from rfl] at hx152_3); (try rw [show 0 * 6 = 0 from rfl] at hx152_3); (try rw [Addr.add_zero'] at hx152_3); (try rw [show ((0 : Int)).toNat = 0 from rfl] at hx152_4); (try rw [show 0 * 6 = 0 from rfl] at hx152_4); (try rw [Addr.add_zero'] at hx152_4); (try rw [show ((0 : Int)).toNat = 0 from rfl] at hx152_5); (try rw [show 0 * 6 = 0 from rfl] at hx152_5); (try rw [Addr.add_zero'] at hx152_5); have HR152_1 := Aside0.mk hi152_1; have HC152_1 := Aside0.mk hl152_1; clear hi152_1 hl152_1; replace p152 := eq_true p152; replace q152 := eq_true q152; have ea_ := Option.some.inj (hx143_1.symm.trans hx152_1); injection ea_ with ea_ en_ ec_; subst ea_; subst ec_; clear en_; have p153 : 0 ≤ (0 : Int) := (by omega); have q153 : 0 < (l0.length : Int) := of_decide_eq_true (by first | (with_reducible assumption) | assumption); obtain ⟨ad153, A153_1, c153_1, e153, hx153_0, hx153_1, hx153_2, hx153_3, hx153_4, hx153_5, hl153_1, hi153_1⟩ := at_T138 HR0.out 0 p153 q153; obtain rfl : ad143 = ad153 := (by injection e153); have qi153 : (0 < l0.length) = True := eq_true (by omega); (try rw [show ((0 : Int)).toNat = 0 from rfl] at hx153_0); (try rw [show 0 * 6 = 0 from rfl] at hx153_0); (try rw [Addr.add_zero'] at hx153_0); (try rw [show ((0 : Int)).toNat = 0 from rfl] at hx153_1); (try rw [show 0 * 6 = 0 from rfl] at hx153_1); (try rw [Addr.add_zero'] at hx153_1); (try rw [show ((0 : Int)).toNat = 0 from rfl] at hx153_2); (try rw [show 0 * 6 = 0 from rfl] at hx153_2); (try rw [Addr.add_zero'] at hx153_2); (try rw [show ((0 : Int)).toNat = 0 from rfl] at hx153_3); (try rw [show 0 * 6 = 0 from rfl] at hx153_3); (try rw [Addr.add_zero'] at hx153_3); (try rw [show ((0 : Int)).toNat = 0 from rfl] at hx153_4); (try rw [show 0 * 6 = 0 from rfl] at hx153_4); (try rw [Addr.add_zero'] at hx153_4); (try rw [show ((0 : Int)).toNat = 0 from rfl] at hx153_5); (try rw [show 0 * 6 = 0 from rfl] at hx153_5); (try rw [Addr.add_zero'] at hx153_5); have HR153_1 := Aside0.mk hi153_1; have HC153_1 := Aside0.mk hl153_1; clear hi153_1 hl153_1; replace p153 := eq_true p153; replace q153 := eq_true q153; have ea_ := Option.some.inj (hx143_1.symm.trans hx153_1); injection ea_ with ea_ en_ ec_; subst ea_; subst ec_; clear en_) | (go_at_call 199; (with_reducible refine (spec_l02Least.calls ((rd_T138 l0 0).f3) false _ A9.out).mono ?_); rintro e w' ⟨rfl, ⟨nd, rfl⟩⟩))
      go_ret
      exact ⟨by first | rfl | (simp; done) | (simp [*]; done), by repeat (first | exact Drawn0.refl _ | apply Drawn0.step)⟩
    ·replace c8 := Bool.eq_false_iff.mpr c8
     subst c8
     have H1 : (some false) = some r := by rw [if_neg (show ¬ (false = true) by decide)] at H; exact H
     clear H
     have H := H1
     clear H1
     obtain rfl := Option.some.inj H
     have p143 : 0 ≤ (0 : Int) := (by omega)
     have q143 : 0 < (l0.length : Int) := of_decide_eq_true (by first | (with_reducible assumption) | assumption)
     obtain ⟨ad143, A143_1, c143_1, e143, hx143_0, hx143_1, hx143_2, hx143_3, hx143_4, hx143_5, hl143_1, hi143_1⟩ := at_T138 HR0.out 0 p143 q143
     cases e143
     have qi143 : (0 < l0.length) = True := eq_true (by omega)
     (try rw [show ((0 : Int)).toNat = 0 from rfl] at hx143_0)
     (try rw [show 0 * 6 = 0 from rfl] at hx143_0)
     (try rw [Addr.add_zero'] at hx143_0)
     (try rw [show ((0 : Int)).toNat = 0 from rfl] at hx143_1)
     (try rw [show 0 * 6 = 0 from rfl] at hx143_1)
     (try rw [Addr.add_zero'] at hx143_1)
     (try rw [show ((0 : Int)).toNat = 0 from rfl] at hx143_2)
     (try rw [show 0 * 6 = 0 from rfl] at hx143_2)
     (try rw [Addr.add_zero'] at hx143_2)
     (try rw [show ((0 : Int)).toNat = 0 from rfl] at hx143_3)
     (try rw [show 0 * 6 = 0 from rfl] at hx143_3)
     (try rw [Addr.add_zero'] at hx143_3)
     (try rw [show ((0 : Int)).toNat = 0 from rfl] at hx143_4)
     (try rw [show 0 * 6 = 0 from rfl] at hx143_4)
     (try rw [Addr.add_zero'] at hx143_4)
     (try rw [show ((0 : Int)).toNat = 0 from rfl] at hx143_5)
     (try rw [show 0 * 6 = 0 from rfl] at hx143_5)
     (try rw [Addr.add_zero'] at hx143_5)
     have HR143_1 := Aside0.mk hi143_1
     have HC143_1 := Aside0.mk hl143_1
     clear hi143_1 hl143_1
     replace p143 := eq_true p143
     replace q143 := eq_true q143
     have p144 : 0 ≤ (0 : Int) := (by omega)
     have q144 : 0 < (l0.length : Int) := of_decide_eq_true (by first | (with_reducible assumption) | assumption)
     obtain ⟨ad144, A144_1, c144_1, e144, hx144_0, hx144_1, hx144_2, hx144_3, hx144_4, hx144_5, hl144_1, hi144_1⟩ := at_T138 HR0.out 0 p144 q144
     obtain rfl : ad143 = ad144 := (by injection e144)
     have qi144 : (0 < l0.length) = True := eq_true (by omega)
     (try rw [show ((0 : Int)).toNat = 0 from rfl] at hx144_0)
     (try rw [show 0 * 6 = 0 from rfl] at hx144_0)
     (try rw [Addr.add_zero'] at hx144_0)
     (try rw [show ((0 : Int)).toNat = 0 from rfl] at hx144_1)
     (try rw [show 0 * 6 = 0 from rfl] at hx144_1)
     (try rw [Addr.add_zero'] at hx144_1)
     (try rw [show ((0 : Int)).toNat = 0 from rfl] at hx144_2)
     (try rw [show 0 * 6 = 0 from rfl] at hx144_2)
     (try rw [Addr.add_zero'] at hx144_2)
     (try rw [show ((0 : Int)).toNat = 0 from rfl] at hx144_3)
     (try rw [show 0 * 6 = 0 from rfl] at hx144_3)
     (try rw [Addr.add_zero'] at hx144_3)
     (try rw [show ((0 : Int)).toNat = 0 from rfl] at hx144_4)
     (try rw [show 0 * 6 = 0 from rfl] at hx144_4)
     (try rw [Addr.add_zero'] at hx144_4)
     (try rw [show ((0 : Int)).toNat = 0 from rfl] at hx144_5)
     (try rw [show 0 * 6 = 0 from rfl] at hx144_5)
     (try rw [Addr.add_zero'] at hx144_5)
     have HR144_1 := Aside0.mk hi144_1
     have HC144_1 := Aside0.mk hl144_1
     clear hi144_1 hl144_1
     replace p144 := eq_true p144
     replace q144 := eq_true q144
     have ea_ := Option.some.inj (hx143_1.symm.trans hx144_1)
     injection ea_ with ea_ en_ ec_
     subst ea_
     subst ec_
     clear en_
     go_enter Try.func166, Try.ntmps166
     go_wp2_with (first | ((with_reducible refine gate_callee (f := 197) rfl ?_); refine goesL_ (some 7) rfl rfl Try.func197 (by kernel_rfl) rfl #[.string ((rd_T138 l0 0).f0)] rfl (by (try simp only [List.map_toArray, List.map_cons, List.map_nil]); first | done | rfl | (simp only [List.length_drop, List.length_take]; rfl)) ?_; (with_reducible refine (spec_l06Name.calls k ((rd_T138 l0 0).f0) true _ A3.out).mono ?_); rintro e w' ⟨rfl, ⟨nd, rfl⟩⟩; refine ⟨_, rfl, ?_⟩; have p146 : 0 ≤ (0 : Int) := (by omega); have q146 : 0 < (l0.length : Int) := of_decide_eq_true (by first | (with_reducible assumption) | assumption); obtain ⟨ad146, A146_1, c146_1, e146, hx146_0, hx146_1, hx146_2, hx146_3, hx146_4, hx146_5, hl146_1, hi146_1⟩ := at_T138 HR0.out 0 p146 q146; obtain rfl : ad143 = ad146 := (by injection e146); have qi146 : (0 < l0.length) = True := eq_true (by omega); (try rw [show ((0 : Int)).toNat = 0 from rfl] at hx146_0); (try rw [show 0 * 6 = 0 from rfl] at hx146_0); (try rw [Addr.add_zero'] at hx146_0); (try rw [show ((0 : Int)).toNat = 0 from rfl] at hx146_1); (try rw [show 0 * 6 = 0 from rfl] at hx146_1); (try rw [Addr.add_zero'] at hx146_1); (try rw [show ((0 : Int)).toNat = 0 from rfl] at hx146_2); (try rw [show 0 * 6 = 0 from rfl] at hx146_2); (try rw [Addr.add_zero'] at hx146_2); (try rw [show ((0 : Int)).toNat = 0 from rfl] at hx146_3); (try rw [show 0 * 6 = 0 from rfl] at hx146_3); (try rw [Addr.add_zero'] at hx146_3); (try rw [show ((0 : Int)).toNat = 0 from rfl] at hx146_4); (try rw [show 0 * 6 = 0 from rfl] at hx146_4); (try rw [Addr.add_zero'] at hx146_4); (try rw [show ((0 : Int)).toNat = 0 from rfl] at hx146_5); (try rw [show 0 * 6 = 0 from rfl] at hx146_5); (try rw [Addr.add_zero'] at hx146_5); have HR146_1 := Aside0.mk hi146_1; have HC146_1 := Aside0.mk hl146_1; clear hi146_1 hl146_1; replace p146 := eq_true p146; replace q146 := eq_true q146; have ea_ := Option.some.inj (hx143_1.symm.trans hx146_1); injection ea_ with ea_ en_ ec_; subst ea_; subst ec_; clear en_; have p147 : 0 ≤ (0 : Int) := (by omega); have q147 : 0 < (l0.length : Int) := of_decide_eq_true (by first | (with_reducible assumption) | assumption); obtain ⟨ad147, A147_1, c147_1, e147, hx147_0, hx147_1, hx147_2, hx147_3, hx147_4, hx147_5, hl147_1, hi147_1⟩ := at_T138 HR0.out 0 p147 q147; obtain rfl : ad143 = ad147 := (by injection e147); have qi147 : (0 < l0.length) = True := eq_true (by omega); (try rw [show ((0 : Int)).toNat = 0 from rfl] at hx147_0); (try rw [show 0 * 6 = 0 from rfl] at hx147_0); (try rw [Addr.add_zero'] at hx147_0); (try rw [show ((0 : Int)).toNat = 0 from rfl] at hx147_1); (try rw [show 0 * 6 = 0 from rfl] at hx147_1); (try rw [Addr.add_zero'] at hx147_1); (try rw [show ((0 : Int)).toNat = 0 from rfl] at hx147_2); (try rw [show 0 * 6 = 0 from rfl] at hx147_2); (try rw [Addr.add_zero'] at hx147_2); (try rw [show ((0 : Int)).toNat = 0 from rfl] at hx147_3); (try rw [show 0 * 6 = 0 from rfl] at hx147_3); (try rw [Addr.add_zero'] at hx147_3); (try rw [show ((0 : Int)).toNat = 0 from rfl] at hx147_4); (try rw [show 0 * 6 = 0 from rfl] at hx147_4); (try rw [Addr.add_zero'] at hx147_4); (try rw [show ((0 : Int)).toNat = 0 from rfl] at hx147_5); (try rw [show 0 * 6 = 0 from rfl] at hx147_5); (try rw [Addr.add_zero'] at hx147_5); have HR147_1 := Aside0.mk hi147_1; have HC147_1 := Aside0.mk hl147_1; clear hi147_1 hl147_1; replace p147 := eq_true p147; replace q147 := eq_true q147; have ea_ := Option.some.inj (hx143_1.symm.trans hx147_1); injection ea_ with ea_ en_ ec_; subst ea_; subst ec_; clear en_) | (go_at_call 198; (with_reducible refine (spec_l02Areas.calls k _ _ ((rd_T138 l0 0).f1) true _ ?side1 ?side2 A5.out).mono ?_); (case side1 => repeat (first | exact HR147_1.out | (with_reducible refine Kd.C_alloc ?_ _) | (with_reducible refine Kd.C_drewN ?_ _) | (with_reducible refine Kd.C_drew ?_))); (case side2 => exact HC147_1.out); rintro e w' ⟨rfl, ⟨nd, rfl⟩⟩; have p149 : 0 ≤ (0 : Int) := (by omega); have q149 : 0 < (l0.length : Int) := of_decide_eq_true (by first | (with_reducible assumption) | assumption); obtain ⟨ad149, A149_1, c149_1, e149, hx149_0, hx149_1, hx149_2, hx149_3, hx149_4, hx149_5, hl149_1, hi149_1⟩ := at_T138 HR0.out 0 p149 q149; obtain rfl : ad143 = ad149 := (by injection e149); have qi149 : (0 < l0.length) = True := eq_true (by omega); (try rw [show ((0 : Int)).toNat = 0 from rfl] at hx149_0); (try rw [show 0 * 6 = 0 from rfl] at hx149_0); (try rw [Addr.add_zero'] at hx149_0); (try rw [show ((0 : Int)).toNat = 0 from rfl] at hx149_1); (try rw [show 0 * 6 = 0 from rfl] at hx149_1); (try rw [Addr.add_zero'] at hx149_1); (try rw [show ((0 : Int)).toNat = 0 from rfl] at hx149_2); (try rw [show 0 * 6 = 0 from rfl] at hx149_2); (try rw [Addr.add_zero'] at hx149_2); (try rw [show ((0 : Int)).toNat = 0 from rfl] at hx149_3); (try rw [show 0 * 6 = 0 from rfl] at hx149_3); (try rw [Addr.add_zero'] at hx149_3); (try rw [show ((0 : Int)).toNat = 0 from rfl] at hx149_4); (try rw [show 0 * 6 = 0 from rfl] at hx149_4); (try rw [Addr.add_zero'] at hx149_4); (try rw [show ((0 : Int)).toNat = 0 from rfl] at hx149_5); (try rw [show 0 * 6 = 0 from rfl] at hx149_5); (try rw [Addr.add_zero'] at hx149_5); have HR149_1 := Aside0.mk hi149_1; have HC149_1 := Aside0.mk hl149_1; clear hi149_1 hl149_1; replace p149 := eq_true p149; replace q149 := eq_true q149; have ea_ := Option.some.inj (hx143_1.symm.trans hx149_1); injection ea_ with ea_ en_ ec_; subst ea_; subst ec_; clear en_; have p150 : 0 ≤ (0 : Int) := (by omega); have q150 : 0 < (l0.length : Int) := of_decide_eq_true (by first | (with_reducible assumption) | assumption); obtain ⟨ad150, A150_1, c150_1, e150, hx150_0, hx150_1, hx150_2, hx150_3, hx150_4, hx150_5, hl150_1, hi150_1⟩ := at_T138 HR0.out 0 p150 q150; obtain rfl : ad143 = ad150 := (by injection e150); have qi150 : (0 < l0.length) = True := eq_true (by omega); (try rw [show ((0 : Int)).toNat = 0 from rfl] at hx150_0); (try rw [show 0 * 6 = 0 from rfl] at hx150_0); (try rw [Addr.add_zero'] at hx150_0); (try rw [show ((0 : Int)).toNat = 0 from rfl] at hx150_1); (try rw [show 0 * 6 = 0 from rfl] at hx150_1); (try rw [Addr.add_zero'] at hx150_1); (try rw [show ((0 : Int)).toNat = 0 from rfl] at hx150_2); (try rw [show 0 * 6 = 0 from rfl] at hx150_2); (try rw [Addr.add_zero'] at hx150_2); (try rw [show ((0 : Int)).toNat = 0 from rfl] at hx150_3); (try rw [show 0 * 6 = 0 from rfl] at hx150_3); (try rw [Addr.add_zero'] at hx150_3); (try rw [show ((0 : Int)).toNat = 0 from rfl] at hx150_4); (try rw [show 0 * 6 = 0 from rfl] at hx150_4); (try rw [Addr.add_zero'] at hx150_4); (try rw [show ((0 : Int)).toNat = 0 from rfl] at hx150_5); (try rw [show 0 * 6 = 0 from rfl] at hx150_5); (try rw [Addr.add_zero'] at hx150_5); have HR150_1 := Aside0.mk hi150_1; have HC150_1 := Aside0.mk hl150_1; clear hi150_1 hl150_1; replace p150 := eq_true p150; replace q150 := eq_true q150; have ea_ := Option.some.inj (hx143_1.symm.trans hx150_1); injection ea_ with ea_ en_ ec_; subst ea_; subst ec_; clear en_) | (go_at_call 146; (with_reducible refine (spec_l02Above.calls ((rd_T138 l0 0).f2) false _ A7.out).mono ?_); rintro e w' ⟨rfl, ⟨nd, rfl⟩⟩))
     go_ret
     exact ⟨by first | rfl | (simp; done) | (simp [*]; done), by repeat (first | exact Drawn0.refl _ | apply Drawn0.step)⟩
   ·replace c6 := Bool.eq_false_iff.mpr c6
    subst c6
    have H1 : (some false) = some r := by rw [if_neg (show ¬ (false = true) by decide)] at H; exact H
    clear H
    have H := H1
    clear H1
    obtain rfl := Option.some.inj H
    have p143 : 0 ≤ (0 : Int) := (by omega)
    have q143 : 0 < (l0.length : Int) := of_decide_eq_true (by first | (with_reducible assumption) | assumption)
    obtain ⟨ad143, A143_1, c143_1, e143, hx143_0, hx143_1, hx143_2, hx143_3, hx143_4, hx143_5, hl143_1, hi143_1⟩ := at_T138 HR0.out 0 p143 q143
    cases e143
    have qi143 : (0 < l0.length) = True := eq_true (by omega)
    (try rw [show ((0 : Int)).toNat = 0 from rfl] at hx143_0)
    (try rw [show 0 * 6 = 0 from rfl] at hx143_0)
    (try rw [Addr.add_zero'] at hx143_0)
    (try rw [show ((0 : Int)).toNat = 0 from rfl] at hx143_1)
    (try rw [show 0 * 6 = 0 from rfl] at hx143_1)
    (try rw [Addr.add_zero'] at hx143_1)
    (try rw [show ((0 : Int)).toNat = 0 from rfl] at hx143_2)
    (try rw [show 0 * 6 = 0 from rfl] at hx143_2)
    (try rw [Addr.add_zero'] at hx143_2)
    (try rw [show ((0 : Int)).toNat = 0 from rfl] at hx143_3)
    (try rw [show 0 * 6 = 0 from rfl] at hx143_3)
    (try rw [Addr.add_zero'] at hx143_3)
    (try rw [show ((0 : Int)).toNat = 0 from rfl] at hx143_4)
    (try rw [show 0 * 6 = 0 from rfl] at hx143_4)
    (try rw [Addr.add_zero'] at hx143_4)
    (try rw [show ((0 : Int)).toNat = 0 from rfl] at hx143_5)
    (try rw [show 0 * 6 = 0 from rfl] at hx143_5)
    (try rw [Addr.add_zero'] at hx143_5)
    have HR143_1 := Aside0.mk hi143_1
    have HC143_1 := Aside0.mk hl143_1
    clear hi143_1 hl143_1
    replace p143 := eq_true p143
    replace q143 := eq_true q143
    have p144 : 0 ≤ (0 : Int) := (by omega)
    have q144 : 0 < (l0.length : Int) := of_decide_eq_true (by first | (with_reducible assumption) | assumption)
    obtain ⟨ad144, A144_1, c144_1, e144, hx144_0, hx144_1, hx144_2, hx144_3, hx144_4, hx144_5, hl144_1, hi144_1⟩ := at_T138 HR0.out 0 p144 q144
    obtain rfl : ad143 = ad144 := (by injection e144)
    have qi144 : (0 < l0.length) = True := eq_true (by omega)
    (try rw [show ((0 : Int)).toNat = 0 from rfl] at hx144_0)
    (try rw [show 0 * 6 = 0 from rfl] at hx144_0)
    (try rw [Addr.add_zero'] at hx144_0)
    (try rw [show ((0 : Int)).toNat = 0 from rfl] at hx144_1)
    (try rw [show 0 * 6 = 0 from rfl] at hx144_1)
    (try rw [Addr.add_zero'] at hx144_1)
    (try rw [show ((0 : Int)).toNat = 0 from rfl] at hx144_2)
    (try rw [show 0 * 6 = 0 from rfl] at hx144_2)
    (try rw [Addr.add_zero'] at hx144_2)
    (try rw [show ((0 : Int)).toNat = 0 from rfl] at hx144_3)
    (try rw [show 0 * 6 = 0 from rfl] at hx144_3)
    (try rw [Addr.add_zero'] at hx144_3)
    (try rw [show ((0 : Int)).toNat = 0 from rfl] at hx144_4)
    (try rw [show 0 * 6 = 0 from rfl] at hx144_4)
    (try rw [Addr.add_zero'] at hx144_4)
    (try rw [show ((0 : Int)).toNat = 0 from rfl] at hx144_5)
    (try rw [show 0 * 6 = 0 from rfl] at hx144_5)
    (try rw [Addr.add_zero'] at hx144_5)
    have HR144_1 := Aside0.mk hi144_1
    have HC144_1 := Aside0.mk hl144_1
    clear hi144_1 hl144_1
    replace p144 := eq_true p144
    replace q144 := eq_true q144
    have ea_ := Option.some.inj (hx143_1.symm.trans hx144_1)
    injection ea_ with ea_ en_ ec_
    subst ea_
    subst ec_
    clear en_
    go_enter Try.func166, Try.ntmps166
    go_wp2_with (first | ((with_reducible refine gate_callee (f := 197) rfl ?_); refine goesL_ (some 7) rfl rfl Try.func197 (by kernel_rfl) rfl #[.string ((rd_T138 l0 0).f0)] rfl (by (try simp only [List.map_toArray, List.map_cons, List.map_nil]); first | done | rfl | (simp only [List.length_drop, List.length_take]; rfl)) ?_; (with_reducible refine (spec_l06Name.calls k ((rd_T138 l0 0).f0) true _ A3.out).mono ?_); rintro e w' ⟨rfl, ⟨nd, rfl⟩⟩; refine ⟨_, rfl, ?_⟩; have p146 : 0 ≤ (0 : Int) := (by omega); have q146 : 0 < (l0.length : Int) := of_decide_eq_true (by first | (with_reducible assumption) | assumption); obtain ⟨ad146, A146_1, c146_1, e146, hx146_0, hx146_1, hx146_2, hx146_3, hx146_4, hx146_5, hl146_1, hi146_1⟩ := at_T138 HR0.out 0 p146 q146; obtain rfl : ad143 = ad146 := (by injection e146); have qi146 : (0 < l0.length) = True := eq_true (by omega); (try rw [show ((0 : Int)).toNat = 0 from rfl] at hx146_0); (try rw [show 0 * 6 = 0 from rfl] at hx146_0); (try rw [Addr.add_zero'] at hx146_0); (try rw [show ((0 : Int)).toNat = 0 from rfl] at hx146_1); (try rw [show 0 * 6 = 0 from rfl] at hx146_1); (try rw [Addr.add_zero'] at hx146_1); (try rw [show ((0 : Int)).toNat = 0 from rfl] at hx146_2); (try rw [show 0 * 6 = 0 from rfl] at hx146_2); (try rw [Addr.add_zero'] at hx146_2); (try rw [show ((0 : Int)).toNat = 0 from rfl] at hx146_3); (try rw [show 0 * 6 = 0 from rfl] at hx146_3); (try rw [Addr.add_zero'] at hx146_3); (try rw [show ((0 : Int)).toNat = 0 from rfl] at hx146_4); (try rw [show 0 * 6 = 0 from rfl] at hx146_4); (try rw [Addr.add_zero'] at hx146_4); (try rw [show ((0 : Int)).toNat = 0 from rfl] at hx146_5); (try rw [show 0 * 6 = 0 from rfl] at hx146_5); (try rw [Addr.add_zero'] at hx146_5); have HR146_1 := Aside0.mk hi146_1; have HC146_1 := Aside0.mk hl146_1; clear hi146_1 hl146_1; replace p146 := eq_true p146; replace q146 := eq_true q146; have ea_ := Option.some.inj (hx143_1.symm.trans hx146_1); injection ea_ with ea_ en_ ec_; subst ea_; subst ec_; clear en_; have p147 : 0 ≤ (0 : Int) := (by omega); have q147 : 0 < (l0.length : Int) := of_decide_eq_true (by first | (with_reducible assumption) | assumption); obtain ⟨ad147, A147_1, c147_1, e147, hx147_0, hx147_1, hx147_2, hx147_3, hx147_4, hx147_5, hl147_1, hi147_1⟩ := at_T138 HR0.out 0 p147 q147; obtain rfl : ad143 = ad147 := (by injection e147); have qi147 : (0 < l0.length) = True := eq_true (by omega); (try rw [show ((0 : Int)).toNat = 0 from rfl] at hx147_0); (try rw [show 0 * 6 = 0 from rfl] at hx147_0); (try rw [Addr.add_zero'] at hx147_0); (try rw [show ((0 : Int)).toNat = 0 from rfl] at hx147_1); (try rw [show 0 * 6 = 0 from rfl] at hx147_1); (try rw [Addr.add_zero'] at hx147_1); (try rw [show ((0 : Int)).toNat = 0 from rfl] at hx147_2); (try rw [show 0 * 6 = 0 from rfl] at hx147_2); (try rw [Addr.add_zero'] at hx147_2); (try rw [show ((0 : Int)).toNat = 0 from rfl] at hx147_3); (try rw [show 0 * 6 = 0 from rfl] at hx147_3); (try rw [Addr.add_zero'] at hx147_3); (try rw [show ((0 : Int)).toNat = 0 from rfl] at hx147_4); (try rw [show 0 * 6 = 0 from rfl] at hx147_4); (try rw [Addr.add_zero'] at hx147_4); (try rw [show ((0 : Int)).toNat = 0 from rfl] at hx147_5); (try rw [show 0 * 6 = 0 from rfl] at hx147_5); (try rw [Addr.add_zero'] at hx147_5); have HR147_1 := Aside0.mk hi147_1; have HC147_1 := Aside0.mk hl147_1; clear hi147_1 hl147_1; replace p147 := eq_true p147; replace q147 := eq_true q147; have ea_ := Option.some.inj (hx143_1.symm.trans hx147_1); injection ea_ with ea_ en_ ec_; subst ea_; subst ec_; clear en_) | (go_at_call 198; (with_reducible refine (spec_l02Areas.calls k _ _ ((rd_T138 l0 0).f1) false _ ?side1 ?side2 A5.out).mono ?_); (case side1 => repeat (first | exact HR147_1.out | (with_reducible refine Kd.C_alloc ?_ _) | (with_reducible refine Kd.C_drewN ?_ _) | (with_reducible refine Kd.C_drew ?_))); (case side2 => exact HC147_1.out); rintro e w' ⟨rfl, ⟨nd, rfl⟩⟩))
    go_ret
    exact ⟨by first | rfl | (simp; done) | (simp [*]; done), by repeat (first | exact Drawn0.refl _ | apply Drawn0.step)⟩
  ·replace c4 := Bool.eq_false_iff.mpr c4
   subst c4
   have H1 : (some false) = some r := by rw [if_neg (show ¬ (false = true) by decide)] at H; exact H
   clear H
   have H := H1
   clear H1
   obtain rfl := Option.some.inj H
   have p143 : 0 ≤ (0 : Int) := (by omega)
   have q143 : 0 < (l0.length : Int) := of_decide_eq_true (by first | (with_reducible assumption) | assumption)
   obtain ⟨ad143, A143_1, c143_1, e143, hx143_0, hx143_1, hx143_2, hx143_3, hx143_4, hx143_5, hl143_1, hi143_1⟩ := at_T138 HR0.out 0 p143 q143
   cases e143
   have qi143 : (0 < l0.length) = True := eq_true (by omega)
   (try rw [show ((0 : Int)).toNat = 0 from rfl] at hx143_0)
   (try rw [show 0 * 6 = 0 from rfl] at hx143_0)
   (try rw [Addr.add_zero'] at hx143_0)
   (try rw [show ((0 : Int)).toNat = 0 from rfl] at hx143_1)
   (try rw [show 0 * 6 = 0 from rfl] at hx143_1)
   (try rw [Addr.add_zero'] at hx143_1)
   (try rw [show ((0 : Int)).toNat = 0 from rfl] at hx143_2)
   (try rw [show 0 * 6 = 0 from rfl] at hx143_2)
   (try rw [Addr.add_zero'] at hx143_2)
   (try rw [show ((0 : Int)).toNat = 0 from rfl] at hx143_3)
   (try rw [show 0 * 6 = 0 from rfl] at hx143_3)
   (try rw [Addr.add_zero'] at hx143_3)
   (try rw [show ((0 : Int)).toNat = 0 from rfl] at hx143_4)
   (try rw [show 0 * 6 = 0 from rfl] at hx143_4)
   (try rw [Addr.add_zero'] at hx143_4)
   (try rw [show ((0 : Int)).toNat = 0 from rfl] at hx143_5)
   (try rw [show 0 * 6 = 0 from rfl] at hx143_5)
   (try rw [Addr.add_zero'] at hx143_5)
   have HR143_1 := Aside0.mk hi143_1
   have HC143_1 := Aside0.mk hl143_1
   clear hi143_1 hl143_1
   replace p143 := eq_true p143
   replace q143 := eq_true q143
   have p144 : 0 ≤ (0 : Int) := (by omega)
   have q144 : 0 < (l0.length : Int) := of_decide_eq_true (by first | (with_reducible assumption) | assumption)
   obtain ⟨ad144, A144_1, c144_1, e144, hx144_0, hx144_1, hx144_2, hx144_3, hx144_4, hx144_5, hl144_1, hi144_1⟩ := at_T138 HR0.out 0 p144 q144
   obtain rfl : ad143 = ad144 := (by injection e144)
   have qi144 : (0 < l0.length) = True := eq_true (by omega)
   (try rw [show ((0 : Int)).toNat = 0 from rfl] at hx144_0)
   (try rw [show 0 * 6 = 0 from rfl] at hx144_0)
   (try rw [Addr.add_zero'] at hx144_0)
   (try rw [show ((0 : Int)).toNat = 0 from rfl] at hx144_1)
   (try rw [show 0 * 6 = 0 from rfl] at hx144_1)
   (try rw [Addr.add_zero'] at hx144_1)
   (try rw [show ((0 : Int)).toNat = 0 from rfl] at hx144_2)
   (try rw [show 0 * 6 = 0 from rfl] at hx144_2)
   (try rw [Addr.add_zero'] at hx144_2)
   (try rw [show ((0 : Int)).toNat = 0 from rfl] at hx144_3)
   (try rw [show 0 * 6 = 0 from rfl] at hx144_3)
   (try rw [Addr.add_zero'] at hx144_3)
   (try rw [show ((0 : Int)).toNat = 0 from rfl] at hx144_4)
   (try rw [show 0 * 6 = 0 from rfl] at hx144_4)
   (try rw [Addr.add_zero'] at hx144_4)
   (try rw [show ((0 : Int)).toNat = 0 from rfl] at hx144_5)
   (try rw [show 0 * 6 = 0 from rfl] at hx144_5)
   (try rw [Addr.add_zero'] at hx144_5)
   have HR144_1 := Aside0.mk hi144_1
   have HC144_1 := Aside0.mk hl144_1
   clear hi144_1 hl144_1
   replace p144 := eq_true p144
   replace q144 := eq_true q144
   have ea_ := Option.some.inj (hx143_1.symm.trans hx144_1)
   injection ea_ with ea_ en_ ec_
   subst ea_
   subst ec_
   clear en_
   go_enter Try.func166, Try.ntmps166
   go_wp2_with (first | ((with_reducible refine gate_callee (f := 197) rfl ?_); refine goesL_ (some 7) rfl rfl Try.func197 (by kernel_rfl) rfl #[.string ((rd_T138 l0 0).f0)] rfl (by (try simp only [List.map_toArray, List.map_cons, List.map_nil]); first | done | rfl | (simp only [List.length_drop, List.length_take]; rfl)) ?_; (with_reducible refine (spec_l06Name.calls k ((rd_T138 l0 0).f0) false _ A3.out).mono ?_); rintro e w' ⟨rfl, ⟨nd, rfl⟩⟩; refine ⟨_, rfl, ?_⟩))
   go_ret
   exact ⟨by first | rfl | (simp; done) | (simp [*]; done), by repeat (first | exact Drawn0.refl _ | apply Drawn0.step)⟩
 ·rw [if_neg c2] at H
  exact absurd H (by simp)
end Go.Proofs.Ytoiaojdkgagblaa.PFnExactLengthsOf
