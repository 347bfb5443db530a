import Derived.Test.YteooifighndmkaaPFnExactAddSoundx0
import Derived.Test.YteooifighndmkaaPFnExactAddSoundx2
namespace Go.Proofs.Yteooifighndmkaa.PFnExactAddSound
open Go.RowKit Go.Proofs.YteooifighndmkaaW.PrintWords Go.Proofs.YteooifighndmkaaW.PrintLast Go.Proofs.YteooifighndmkaaW.PrintMore
open Go.Proofs.YteooifighndmkaaW.PrintFl
attribute [local go_sem high] binOp_feq binOp_fne binOp_fls binOp_fle binOp_fgr binOp_fge binOp_sle binOp_sgt
attribute [local go_sem] run_fopr run_fconv run_fint run_stf run_stc
attribute [local go_sem] max2_int min2_int max_two min_two max_three min_three max_four min_four
set_option linter.unusedVariables false
set_option linter.unusedSimpArgs false
mutual
def spec_l02Areas.l0 : Nat → List Nat → Int → Option (Bool)
 | 0, _, _ => none
 | k + 1, x0, x3 => if x3 < (x0.length : Int) then (spec_l02Areas.j1 k x0 x3 (decide ((x0.length : Int) ≤ 16))) else (spec_l02Areas.j1 k x0 x3 false)
def spec_l02Areas.j1 : Nat → List Nat → Int → Bool → Option (Bool)
 | 0, _, _, _ => none
 | k + 1, x0, x3, x12 => if x12 = true then (if 0 ≤ x3 then (if x3 < (x0.length : Int) then ((spec_l02Above.f (rdOf (0 : Nat) x0 x3)).bind fun t140 => (if t140 = true then (spec_l02Areas.l0 k x0 (wrap64 (x3 + 1))) else (some false))) else (none)) else (none)) else (if (x0.length : Int) ≥ 1 then (some (decide ((x0.length : Int) ≤ 16))) else (some false))
end
def spec_l02Areas.f (k : Nat) (l0 : List Nat) : Option (Bool) := spec_l02Areas.l0 k l0 0
theorem spec_l02Areas.mono_l : ∀ k, (∀ y0 y1, LeO (spec_l02Areas.l0 k y0 y1) (spec_l02Areas.l0 (k + 1) y0 y1)) ∧ (∀ y0 y1 y2, LeO (spec_l02Areas.j1 k y0 y1 y2) (spec_l02Areas.j1 (k + 1) y0 y1 y2))
 | 0 => ⟨fun _ _ r h => by simp [spec_l02Areas.l0] at h, fun _ _ _ r h => by simp [spec_l02Areas.j1] at h⟩
 | k + 1 => by
  obtain ⟨ih0, ih1⟩ := spec_l02Areas.mono_l k
  refine ⟨?_, ?_⟩
  ·intro y0 y1
   unfold spec_l02Areas.l0
   repeat' first
   | (with_reducible exact ih0 _ _)
   | (with_reducible exact ih1 _ _ _)
   | (with_reducible exact LeO.refl _)
   | (with_reducible exact LeO.none _)
   | (with_reducible refine LeO.ite ?_ ?_)
   | (with_reducible refine LeO.bind ?_ (fun _ => ?_))
   | exact ih0 _ _
   | exact ih1 _ _ _
   | exact LeO.none _
   | refine LeO.ite ?_ ?_
   | refine LeO.bind ?_ (fun _ => ?_)
  ·intro y0 y1 y2
   unfold spec_l02Areas.j1
   repeat' first
   | (with_reducible exact ih0 _ _)
   | (with_reducible exact ih1 _ _ _)
   | (with_reducible exact LeO.refl _)
   | (with_reducible exact LeO.none _)
   | (with_reducible refine LeO.ite ?_ ?_)
   | (with_reducible refine LeO.bind ?_ (fun _ => ?_))
   | exact ih0 _ _
   | exact ih1 _ _ _
   | exact LeO.none _
   | refine LeO.ite ?_ ?_
   | refine LeO.bind ?_ (fun _ => ?_)
theorem spec_l02Areas.mono : ∀ a0 k, LeO (spec_l02Areas.f k a0) (spec_l02Areas.f (k + 1) a0) := by
 intro a0 k
 obtain ⟨ih0, ih1⟩ := spec_l02Areas.mono_l k
 unfold spec_l02Areas.f
 repeat' first
   | (with_reducible exact ih0 _ _)
   | (with_reducible exact ih1 _ _ _)
   | (with_reducible exact LeO.refl _)
   | (with_reducible exact LeO.none _)
   | (with_reducible refine LeO.ite ?_ ?_)
   | (with_reducible refine LeO.bind ?_ (fun _ => ?_))
   | exact ih0 _ _
   | exact ih1 _ _ _
   | exact LeO.none _
   | refine LeO.ite ?_ ?_
   | refine LeO.bind ?_ (fun _ => ?_)
set_option maxHeartbeats 8000000 in
set_option maxRecDepth 100000 in
theorem spec_l02Areas.calls (k : Nat) (A0 : Option Addr) (c0 : Nat) (l0 : List Nat) (r : Bool) (w : World) (hr0 : Kd.C (Kd.float .f32) w A0 l0.length l0) (hc0 : l0.length ≤ c0) (h : spec_l02Areas.f k l0 = some r) :
  Calls Try.prog 115 #[.slice A0 l0.length c0] w fun e w' => e = .returned (.bool r) ∧ Drawn0 w w' := by
 have hu25 := Try.underlying25
 have HR0 := Aside0.mk hr0
 have HC0 := Aside0.mk hc0
 clear hr0 hc0
 have H : (spec_l02Areas.l0 k l0 0) = some r := h
 clear h
 have H' := Aside0.mk H
 clear H
 go_enter Try.func115, Try.ntmps115
 go_wp2
 go_loopg [3] k (fun kq v3 w' => ∃ (x3_1 : Int), v3 = .int .i64 x3_1 ∧ Aside0 (spec_l02Areas.l0 kq l0 x3_1 = some r) ∧ Aside0 (kq ≤ k) ∧ Drawn0 w w')
 case atStart => exact ⟨(0), (by first | rfl | (simp; done) | (simp [*]; done)), H', ⟨Nat.le_refl _⟩, by repeat (first | exact Drawn0.refl _ | apply Drawn0.step)⟩
 case round =>
  clear H'
  try clear c1
  obtain ⟨x3_1, rfl, HA, HK1, ⟨m1, rfl⟩⟩ := hrel
  cases gk with
  | zero => exact absurd HA.out (by simp [spec_l02Areas.l0])
  | succ k1 =>
   have H := HA.out
   clear HA
   simp only [spec_l02Areas.l0] at H
   have HC2 := Aside0.mk H
   clear H
   go_upto_region 2 with (fail)
   go_cut [12] (fun v12 wc => ∃ (kq : Nat) (x12_1 : Bool), v12 = .bool x12_1 ∧ Aside0 (spec_l02Areas.j1 kq l0 x3_1 x12_1 = some r) ∧ Aside0 (kq ≤ k1) ∧ Drawn0 w wc)
   case first =>
    have H := HC2.out
    clear HC2
    by_cases c3 : x3_1 < (l0.length : Int)
    ·rw [if_pos c3] at H
     have c3b0 : decide (x3_1 < (l0.length : Int)) = true := decide_eq_true c3
     clear c3
     (first | rw [c3b0] | (simp only [i64_w, i32_w]; rw [c3b0]) | skip)
     have H' := Aside0.mk H
     clear H
     go_wp2
     go_meet
     case rel => exact ⟨_, (decide ((l0.length : Int) ≤ 16)), (by first | rfl | (simp; done) | (simp [*]; done)), H', ⟨by have := HK1.out; first | omega | exact Nat.le_refl _⟩, by repeat (first | exact Drawn0.refl _ | apply Drawn0.step)⟩
    ·rw [if_neg c3] at H
     have c3b0 : decide (x3_1 < (l0.length : Int)) = false := decide_eq_false c3
     clear c3
     (first | rw [c3b0] | (simp only [i64_w, i32_w]; rw [c3b0]) | skip)
     have H' := Aside0.mk H
     clear H
     go_wp2
     go_meet
     case rel => exact ⟨_, (false), (by first | rfl | (simp; done) | (simp [*]; done)), H', ⟨by have := HK1.out; first | omega | exact Nat.le_refl _⟩, by repeat (first | exact Drawn0.refl _ | apply Drawn0.step)⟩
   case rest =>
    clear HC2
    try clear c1
    try clear p2
    try clear c3
    try clear c3b0
    obtain ⟨kq, x12_1, rfl, HA, HJ1, ⟨mc1, rfl⟩⟩ := hcut
    cases kq with
    | zero => exact absurd HA.out (by simp [spec_l02Areas.j1])
    | succ kj1 =>
     have H := HA.out
     clear HA
     simp only [spec_l02Areas.j1] at H
     by_cases c4 : x12_1 = true
     ·subst c4
      have H1 : (if 0 ≤ x3_1 then (if x3_1 < (l0.length : Int) then ((spec_l02Above.f (rdOf (0 : Nat) l0 x3_1)).bind fun t140 => (if t140 = true then (spec_l02Areas.l0 kj1 l0 (wrap64 (x3_1 + 1))) else (some false))) else (none)) else (none)) = some r := by rw [if_pos rfl] at H; exact H
      clear H
      have H := H1
      clear H1
      by_cases c5 : 0 ≤ x3_1
      ·rw [if_pos c5] at H
       have c5b0 : decide (0 ≤ x3_1) = true := decide_eq_true c5
       clear c5
       by_cases c6 : x3_1 < (l0.length : Int)
       ·rw [if_pos c6] at H
        have c6b0 : decide (x3_1 < (l0.length : Int)) = true := decide_eq_true c6
        clear c6
        replace H := Option.bind_eq_some_iff.mp H
        obtain ⟨t140, A70, H⟩ := H
        replace H : (if t140 = true then (spec_l02Areas.l0 kj1 l0 (wrap64 (x3_1 + 1))) else (some false)) = some r := H
        have A7 := Aside0.mk A70
        clear A70
        by_cases c8 : t140 = true
        ·subst c8
         have H1 : (spec_l02Areas.l0 kj1 l0 (wrap64 (x3_1 + 1))) = some r := by rw [if_pos rfl] at H; exact H
         clear H
         have H := H1
         clear H1
         have H' := Aside0.mk H
         clear H
         have p139 : 0 ≤ (x3_1 : Int) := of_decide_eq_true (by first | (with_reducible assumption) | assumption)
         have q139 : x3_1 < (l0.length : Int) := of_decide_eq_true (by first | (with_reducible assumption) | assumption)
         obtain ⟨ad139, e139, hx139_0⟩ := Kd.at_float HR0.out x3_1 p139 q139
         cases e139
         replace p139 := eq_true p139
         replace q139 := eq_true q139
         go_wp2_with (first | ((with_reducible refine gate_callee (f := 43) rfl ?_); refine goesL_ (some 19) rfl rfl Try.func43 (by kernel_rfl) rfl #[.float .f32 (rdOf (0 : Nat) l0 x3_1)] rfl (by (try simp only [List.map_toArray, List.map_cons, List.map_nil]); first | done | rfl | (simp only [List.length_drop, List.length_take]; rfl)) ?_; (with_reducible refine (spec_l02Above.calls (rdOf (0 : Nat) l0 x3_1) true _ A7.out).mono ?_); rintro e w' ⟨rfl, ⟨nd, rfl⟩⟩; refine ⟨_, rfl, ?_⟩))
         go_roundg kj1
         case measure => have := HK1.out; have := HJ1.out; omega
         case rel => exact ⟨(wrap64 (x3_1 + 1)), (by first | rfl | (simp; done) | (simp [*]; done)), H', ⟨by have := HK1.out; have := HJ1.out; omega⟩, by repeat (first | exact Drawn0.refl _ | apply Drawn0.step)⟩
        ·replace c8 := Bool.eq_false_iff.mpr c8
         subst c8
         have H1 : (some false) = some r := by rw [if_neg (show ¬ (false = true) by decide)] at H; exact H
         clear H
         have H := H1
         clear H1
         obtain rfl := Option.some.inj H
         have p139 : 0 ≤ (x3_1 : Int) := of_decide_eq_true (by first | (with_reducible assumption) | assumption)
         have q139 : x3_1 < (l0.length : Int) := of_decide_eq_true (by first | (with_reducible assumption) | assumption)
         obtain ⟨ad139, e139, hx139_0⟩ := Kd.at_float HR0.out x3_1 p139 q139
         cases e139
         replace p139 := eq_true p139
         replace q139 := eq_true q139
         go_wp2_with (first | ((with_reducible refine gate_callee (f := 43) rfl ?_); refine goesL_ (some 19) rfl rfl Try.func43 (by kernel_rfl) rfl #[.float .f32 (rdOf (0 : Nat) l0 x3_1)] rfl (by (try simp only [List.map_toArray, List.map_cons, List.map_nil]); first | done | rfl | (simp only [List.length_drop, List.length_take]; rfl)) ?_; (with_reducible refine (spec_l02Above.calls (rdOf (0 : Nat) l0 x3_1) false _ A7.out).mono ?_); rintro e w' ⟨rfl, ⟨nd, rfl⟩⟩; refine ⟨_, rfl, ?_⟩))
         go_ret
         exact ⟨by first | rfl | (simp; done) | (simp [*]; done), by repeat (first | exact Drawn0.refl _ | apply Drawn0.step)⟩
       ·rw [if_neg c6] at H
        exact absurd H (by simp)
      ·rw [if_neg c5] at H
       exact absurd H (by simp)
     ·replace c4 := Bool.eq_false_iff.mpr c4
      subst c4
      have H1 : (if (l0.length : Int) ≥ 1 then (some (decide ((l0.length : Int) ≤ 16))) else (some false)) = some r := by rw [if_neg (show ¬ (false = true) by decide)] at H; exact H
      clear H
      have H := H1
      clear H1
      by_cases c9 : (l0.length : Int) ≥ 1
      ·rw [if_pos c9] at H
       have c9b0 : decide (1 ≤ (l0.length : Int)) = true := decide_eq_true c9
       have c9b1 : decide (1 ≤ l0.length) = true := decide_eq_true (by omega)
       clear c9
       obtain rfl := Option.some.inj H
       go_wp2
       go_ret
       exact ⟨by first | rfl | (simp; done) | (simp [*]; done), by repeat (first | exact Drawn0.refl _ | apply Drawn0.step)⟩
      ·rw [if_neg c9] at H
       have c9b0 : decide (1 ≤ (l0.length : Int)) = false := decide_eq_false c9
       have c9b1 : decide (1 ≤ l0.length) = false := decide_eq_false (by omega)
       clear c9
       obtain rfl := Option.some.inj H
       go_wp2
       go_ret
       exact ⟨by first | rfl | (simp; done) | (simp [*]; done), by repeat (first | exact Drawn0.refl _ | apply Drawn0.step)⟩
def spec_l06Sound.f (k : Nat) (l0 : List (S49)) : Option (Bool) := if 0 < (l0.length : Int) then ((spec_l06Name.f k ((rd_T49 l0 0).f0)).bind fun t143 => (if t143 = true then ((spec_l02Areas.f k ((rd_T49 l0 0).f1)).bind fun t146 => (if t146 = true then ((spec_l02Above.f ((rd_T49 l0 0).f2)).bind fun t149 => (if t149 = true then ((spec_l02Least.f ((rd_T49 l0 0).f3)).bind fun t152 => (if t152 = true then ((spec_l02Share.f ((rd_T49 l0 0).f4)).bind fun t155 => (if t155 = true then ((spec_l02Share.f ((rd_T49 l0 0).f5)).bind fun t158 => (some t158)) else (some false))) else (some false))) else (some false))) else (some false))) else (some false))) else (none)
theorem spec_l06Sound.mono : ∀ a0 k, LeO (spec_l06Sound.f k a0) (spec_l06Sound.f (k + 1) a0) := by
 intro a0 k
 unfold spec_l06Sound.f
 repeat' first
   | (with_reducible exact spec_l02Areas.mono _ _)
   | (with_reducible exact spec_l06Name.mono _ _)
   | (with_reducible exact LeO.refl _)
   | (with_reducible exact LeO.none _)
   | (with_reducible refine LeO.ite ?_ ?_)
   | (with_reducible refine LeO.bind ?_ (fun _ => ?_))
   | exact spec_l02Areas.mono _ _
   | exact spec_l06Name.mono _ _
   | exact LeO.none _
   | refine LeO.ite ?_ ?_
   | refine LeO.bind ?_ (fun _ => ?_)
set_option maxHeartbeats 8000000 in
set_option maxRecDepth 100000 in
theorem spec_l06Sound.calls (k : Nat) (A0 : Option Addr) (l0 : List (S49)) (r : Bool) (w : World) (hr0 : Kd.C k49 w A0 l0.length l0) (h : spec_l06Sound.f k l0 = some r) :
  Calls Try.prog 87 #[.pointer A0] w fun e w' => e = .returned (.bool r) ∧ Drawn0 w w' := by
 have hu9 := Try.underlying9
 have hu24 := Try.underlying24
 have hu25 := Try.underlying25
 have HR0 := Aside0.mk hr0
 clear hr0
 have H : (if 0 < (l0.length : Int) then ((spec_l06Name.f k ((rd_T49 l0 0).f0)).bind fun t143 => (if t143 = true then ((spec_l02Areas.f k ((rd_T49 l0 0).f1)).bind fun t146 => (if t146 = true then ((spec_l02Above.f ((rd_T49 l0 0).f2)).bind fun t149 => (if t149 = true then ((spec_l02Least.f ((rd_T49 l0 0).f3)).bind fun t152 => (if t152 = true then ((spec_l02Share.f ((rd_T49 l0 0).f4)).bind fun t155 => (if t155 = true then ((spec_l02Share.f ((rd_T49 l0 0).f5)).bind fun t158 => (some t158)) else (some false))) else (some false))) else (some false))) else (some false))) else (some false))) else (none)) = some r := h
 clear h
 by_cases c2 : 0 < (l0.length : Int)
 ·rw [if_pos c2] at H
  have c2b0 : decide (0 < (l0.length : Int)) = true := decide_eq_true c2
  have c2b1 : decide (0 < l0.length) = true := decide_eq_true (by omega)
  clear c2
  replace H := Option.bind_eq_some_iff.mp H
  obtain ⟨t143, A30, H⟩ := H
  replace H : (if t143 = true then ((spec_l02Areas.f k ((rd_T49 l0 0).f1)).bind fun t146 => (if t146 = true then ((spec_l02Above.f ((rd_T49 l0 0).f2)).bind fun t149 => (if t149 = true then ((spec_l02Least.f ((rd_T49 l0 0).f3)).bind fun t152 => (if t152 = true then ((spec_l02Share.f ((rd_T49 l0 0).f4)).bind fun t155 => (if t155 = true then ((spec_l02Share.f ((rd_T49 l0 0).f5)).bind fun t158 => (some t158)) else (some false))) else (some false))) else (some false))) else (some false))) else (some false)) = some r := H
  have A3 := Aside0.mk A30
  clear A30
  by_cases c4 : t143 = true
  ·subst c4
   have H1 : ((spec_l02Areas.f k ((rd_T49 l0 0).f1)).bind fun t146 => (if t146 = true then ((spec_l02Above.f ((rd_T49 l0 0).f2)).bind fun t149 => (if t149 = true then ((spec_l02Least.f ((rd_T49 l0 0).f3)).bind fun t152 => (if t152 = true then ((spec_l02Share.f ((rd_T49 l0 0).f4)).bind fun t155 => (if t155 = true then ((spec_l02Share.f ((rd_T49 l0 0).f5)).bind fun t158 => (some t158)) else (some false))) else (some false))) else (some false))) else (some false))) = some r := by rw [if_pos rfl] at H; exact H
   clear H
   have H := H1
   clear H1
   replace H := Option.bind_eq_some_iff.mp H
   obtain ⟨t146, A50, H⟩ := H
   replace H : (if t146 = true then ((spec_l02Above.f ((rd_T49 l0 0).f2)).bind fun t149 => (if t149 = true then ((spec_l02Least.f ((rd_T49 l0 0).f3)).bind fun t152 => (if t152 = true then ((spec_l02Share.f ((rd_T49 l0 0).f4)).bind fun t155 => (if t155 = true then ((spec_l02Share.f ((rd_T49 l0 0).f5)).bind fun t158 => (some t158)) else (some false))) else (some false))) else (some false))) else (some false)) = some r := H
   have A5 := Aside0.mk A50
   clear A50
   by_cases c6 : t146 = true
   ·subst c6
    have H1 : ((spec_l02Above.f ((rd_T49 l0 0).f2)).bind fun t149 => (if t149 = true then ((spec_l02Least.f ((rd_T49 l0 0).f3)).bind fun t152 => (if t152 = true then ((spec_l02Share.f ((rd_T49 l0 0).f4)).bind fun t155 => (if t155 = true then ((spec_l02Share.f ((rd_T49 l0 0).f5)).bind fun t158 => (some t158)) else (some false))) else (some false))) else (some false))) = some r := by rw [if_pos rfl] at H; exact H
    clear H
    have H := H1
    clear H1
    replace H := Option.bind_eq_some_iff.mp H
    obtain ⟨t149, A70, H⟩ := H
    replace H : (if t149 = true then ((spec_l02Least.f ((rd_T49 l0 0).f3)).bind fun t152 => (if t152 = true then ((spec_l02Share.f ((rd_T49 l0 0).f4)).bind fun t155 => (if t155 = true then ((spec_l02Share.f ((rd_T49 l0 0).f5)).bind fun t158 => (some t158)) else (some false))) else (some false))) else (some false)) = some r := H
    have A7 := Aside0.mk A70
    clear A70
    by_cases c8 : t149 = true
    ·subst c8
     have H1 : ((spec_l02Least.f ((rd_T49 l0 0).f3)).bind fun t152 => (if t152 = true then ((spec_l02Share.f ((rd_T49 l0 0).f4)).bind fun t155 => (if t155 = true then ((spec_l02Share.f ((rd_T49 l0 0).f5)).bind fun t158 => (some t158)) else (some false))) else (some false))) = some r := by rw [if_pos rfl] at H; exact H
     clear H
     have H := H1
     clear H1
     replace H := Option.bind_eq_some_iff.mp H
     obtain ⟨t152, A90, H⟩ := H
     replace H : (if t152 = true then ((spec_l02Share.f ((rd_T49 l0 0).f4)).bind fun t155 => (if t155 = true then ((spec_l02Share.f ((rd_T49 l0 0).f5)).bind fun t158 => (some t158)) else (some false))) else (some false)) = some r := H
     have A9 := Aside0.mk A90
     clear A90
     by_cases c10 : t152 = true
     ·subst c10
      have H1 : ((spec_l02Share.f ((rd_T49 l0 0).f4)).bind fun t155 => (if t155 = true then ((spec_l02Share.f ((rd_T49 l0 0).f5)).bind fun t158 => (some t158)) else (some false))) = some r := by rw [if_pos rfl] at H; exact H
      clear H
      have H := H1
      clear H1
      replace H := Option.bind_eq_some_iff.mp H
      obtain ⟨t155, A110, H⟩ := H
      replace H : (if t155 = true then ((spec_l02Share.f ((rd_T49 l0 0).f5)).bind fun t158 => (some t158)) else (some false)) = some r := H
      have A11 := Aside0.mk A110
      clear A110
      by_cases c12 : t155 = true
      ·subst c12
       have H1 : ((spec_l02Share.f ((rd_T49 l0 0).f5)).bind fun t158 => (some t158)) = some r := by rw [if_pos rfl] at H; exact H
       clear H
       have H := H1
       clear H1
       replace H := Option.bind_eq_some_iff.mp H
       obtain ⟨t158, A130, H⟩ := H
       replace H : (some t158) = some r := H
       have A13 := Aside0.mk A130
       clear A130
       obtain rfl := Option.some.inj H
       have p141 : 0 ≤ (0 : Int) := (by omega)
       have q141 : 0 < (l0.length : Int) := of_decide_eq_true (by first | (with_reducible assumption) | assumption)
       obtain ⟨ad141, A141_1, c141_1, e141, hx141_0, hx141_1, hx141_2, hx141_3, hx141_4, hx141_5, hl141_1, hi141_1⟩ := at_T49 HR0.out 0 p141 q141
       cases e141
       have qi141 : (0 < l0.length) = True := eq_true (by omega)
       (try rw [show ((0 : Int)).toNat = 0 from rfl] at hx141_0)
       (try rw [show 0 * 6 = 0 from rfl] at hx141_0)
       (try rw [Addr.add_zero'] at hx141_0)
       (try rw [show ((0 : Int)).toNat = 0 from rfl] at hx141_1)
       (try rw [show 0 * 6 = 0 from rfl] at hx141_1)
       (try rw [Addr.add_zero'] at hx141_1)
       (try rw [show ((0 : Int)).toNat = 0 from rfl] at hx141_2)
       (try rw [show 0 * 6 = 0 from rfl] at hx141_2)
       (try rw [Addr.add_zero'] at hx141_2)
       (try rw [show ((0 : Int)).toNat = 0 from rfl] at hx141_3)
       (try rw [show 0 * 6 = 0 from rfl] at hx141_3)
       (try rw [Addr.add_zero'] at hx141_3)
       (try rw [show ((0 : Int)).toNat = 0 from rfl] at hx141_4)
       (try rw [show 0 * 6 = 0 from rfl] at hx141_4)
       (try rw [Addr.add_zero'] at hx141_4)
       (try rw [show ((0 : Int)).toNat = 0 from rfl] at hx141_5)
       (try rw [show 0 * 6 = 0 from rfl] at hx141_5)
       (try rw [Addr.add_zero'] at hx141_5)
       have HR141_1 := Aside0.mk hi141_1
       have HC141_1 := Aside0.mk hl141_1
       clear hi141_1 hl141_1
       replace p141 := eq_true p141
       replace q141 := eq_true q141
       have p142 : 0 ≤ (0 : Int) := (by omega)
       have q142 : 0 < (l0.length : Int) := of_decide_eq_true (by first | (with_reducible assumption) | assumption)
       obtain ⟨ad142, A142_1, c142_1, e142, hx142_0, hx142_1, hx142_2, hx142_3, hx142_4, hx142_5, hl142_1, hi142_1⟩ := at_T49 HR0.out 0 p142 q142
       obtain rfl : ad141 = ad142 := (by injection e142)
       have qi142 : (0 < l0.length) = True := eq_true (by omega)
       (try rw [show ((0 : Int)).toNat = 0 from rfl] at hx142_0)
       (try rw [show 0 * 6 = 0 from rfl] at hx142_0)
       (try rw [Addr.add_zero'] at hx142_0)
       (try rw [show ((0 : Int)).toNat = 0 from rfl] at hx142_1)
       (try rw [show 0 * 6 = 0 from rfl] at hx142_1)
       (try rw [Addr.add_zero'] at hx142_1)
       (try rw [show ((0 : Int)).toNat = 0 from rfl] at hx142_2)
       (try rw [show 0 * 6 = 0 from rfl] at hx142_2)
       (try rw [Addr.add_zero'] at hx142_2)
       (try rw [show ((0 : Int)).toNat = 0 from rfl] at hx142_3)
       (try rw [show 0 * 6 = 0 from rfl] at hx142_3)
       (try rw [Addr.add_zero'] at hx142_3)
       (try rw [show ((0 : Int)).toNat = 0 from rfl] at hx142_4)
       (try rw [show 0 * 6 = 0 from rfl] at hx142_4)
       (try rw [Addr.add_zero'] at hx142_4)
       (try rw [show ((0 : Int)).toNat = 0 from rfl] at hx142_5)
       (try rw [show 0 * 6 = 0 from rfl] at hx142_5)
       (try rw [Addr.add_zero'] at hx142_5)
       have HR142_1 := Aside0.mk hi142_1
       have HC142_1 := Aside0.mk hl142_1
       clear hi142_1 hl142_1
       replace p142 := eq_true p142
       replace q142 := eq_true q142
       have ea_ := Option.some.inj (hx141_1.symm.trans hx142_1)
       injection ea_ with ea_ en_ ec_
       subst ea_
       subst ec_
       clear en_
       go_enter Try.func87, Try.ntmps87
       go_wp2_with (first | ((with_reducible refine gate_callee (f := 114) rfl ?_); refine goesL_ (some 7) rfl rfl Try.func114 (by kernel_rfl) rfl #[.string ((rd_T49 l0 0).f0)] rfl (by (try simp only [List.map_toArray, List.map_cons, List.map_nil]); first | done | rfl | (simp only [List.length_drop, List.length_take]; rfl)) ?_; (with_reducible refine (spec_l06Name.calls k ((rd_T49 l0 0).f0) true _ A3.out).mono ?_); rintro e w' ⟨rfl, ⟨nd, rfl⟩⟩; refine ⟨_, rfl, ?_⟩; have p144 : 0 ≤ (0 : Int) := (by omega); have q144 : 0 < (l0.length : Int) := of_decide_eq_true (by first | (with_reducible assumption) | assumption); obtain ⟨ad144, A144_1, c144_1, e144, hx144_0, hx144_1, hx144_2, hx144_3, hx144_4, hx144_5, hl144_1, hi144_1⟩ := at_T49 HR0.out 0 p144 q144; obtain rfl : ad141 = ad144 := (by injection e144); have qi144 : (0 < l0.length) = True := eq_true (by omega); (try rw [show ((0 : Int)).toNat = 0 from rfl] at hx144_0); (try rw [show 0 * 6 = 0 from rfl] at hx144_0); (try rw [Addr.add_zero'] at hx144_0); (try rw [show ((0 : Int)).toNat = 0 from rfl] at hx144_1); (try rw [show 0 * 6 = 0 from rfl] at hx144_1); (try rw [Addr.add_zero'] at hx144_1); (try rw [show ((0 : Int)).toNat = 0 from rfl] at hx144_2); (try rw [show 0 * 6 = 0 from rfl] at hx144_2); (try rw [Addr.add_zero'] at hx144_2); (try rw [show ((0 : Int)).toNat = 0 from rfl] at hx144_3); (try rw [show 0 * 6 = 0 from rfl] at hx144_3); (try rw [Addr.add_zero'] at hx144_3); (try rw [show ((0 : Int)).toNat = 0 from rfl] at hx144_4); (try rw [show 0 * 6 = 0 from rfl] at hx144_4); (try rw [Addr.add_zero'] at hx144_4); (try rw [show ((0 : Int)).toNat = 0 from rfl] at hx144_5); (try rw [show 0 * 6 = 0 from rfl] at hx144_5); (try rw [Addr.add_zero'] at hx144_5); have HR144_1 := Aside0.mk hi144_1; have HC144_1 := Aside0.mk hl144_1; clear hi144_1 hl144_1; replace p144 := eq_true p144; replace q144 := eq_true q144; have ea_ := Option.some.inj (hx141_1.symm.trans hx144_1); injection ea_ with ea_ en_ ec_; subst ea_; subst ec_; clear en_; have p145 : 0 ≤ (0 : Int) := (by omega); have q145 : 0 < (l0.length : Int) := of_decide_eq_true (by first | (with_reducible assumption) | assumption); obtain ⟨ad145, A145_1, c145_1, e145, hx145_0, hx145_1, hx145_2, hx145_3, hx145_4, hx145_5, hl145_1, hi145_1⟩ := at_T49 HR0.out 0 p145 q145; obtain rfl : ad141 = ad145 := (by injection e145); have qi145 : (0 < l0.length) = True := eq_true (by omega); (try rw [show ((0 : Int)).toNat = 0 from rfl] at hx145_0); (try rw [show 0 * 6 = 0 from rfl] at hx145_0); (try rw [Addr.add_zero'] at hx145_0); (try rw [show ((0 : Int)).toNat = 0 from rfl] at hx145_1); (try rw [show 0 * 6 = 0 from rfl] at hx145_1); (try rw [Addr.add_zero'] at hx145_1); (try rw [show ((0 : Int)).toNat = 0 from rfl] at hx145_2); (try rw [show 0 * 6 = 0 from rfl] at hx145_2); (try rw [Addr.add_zero'] at hx145_2); (try rw [show ((0 : Int)).toNat = 0 from rfl] at hx145_3); (try rw [show 0 * 6 = 0 from rfl] at hx145_3); (try rw [Addr.add_zero'] at hx145_3); (try rw [show ((0 : Int)).toNat = 0 from rfl] at hx145_4); (try rw [show 0 * 6 = 0 from rfl] at hx145_4); (try rw [Addr.add_zero'] at hx145_4); (try rw [show ((0 : Int)).toNat = 0 from rfl] at hx145_5); (try rw [show 0 * 6 = 0 from rfl] at hx145_5); (try rw [Addr.add_zero'] at hx145_5); have HR145_1 := Aside0.mk hi145_1; have HC145_1 := Aside0.mk hl145_1; clear hi145_1 hl145_1; replace p145 := eq_true p145; replace q145 := eq_true q145; have ea_ := Option.some.inj (hx141_1.symm.trans hx145_1); injection ea_ with ea_ en_ ec_; subst ea_; subst ec_; clear en_) | (go_at_call 115; (with_reducible refine (spec_l02Areas.calls k _ _ ((rd_T49 l0 0).f1) true _ ?side1 ?side2 A5.out).mono ?_); (case side1 => repeat (first | exact HR145_1.out | (with_reducible refine Kd.C_alloc ?_ _) | (with_reducible refine Kd.C_drewN ?_ _) | (with_reducible refine Kd.C_drew ?_))); (case side2 => exact HC145_1.out); rintro e w' ⟨rfl, ⟨nd, rfl⟩⟩; have p147 : 0 ≤ (0 : Int) := (by omega); have q147 : 0 < (l0.length : Int) := of_decide_eq_true (by first | (with_reducible assumption) | assumption); obtain ⟨ad147, A147_1, c147_1, e147, hx147_0, hx147_1, hx147_2, hx147_3, hx147_4, hx147_5, hl147_1, hi147_1⟩ := at_T49 HR0.out 0 p147 q147; obtain rfl : ad141 = ad147 := (by injection e147); have qi147 : (0 < l0.length) = True := eq_true (by omega); (try rw [show ((0 : Int)).toNat = 0 from rfl] at hx147_0); (try rw [show 0 * 6 = 0 from rfl] at hx147_0); (try rw [Addr.add_zero'] at hx147_0); (try rw [show ((0 : Int)).toNat = 0 from rfl] at hx147_1); (try rw [show 0 * 6 = 0 from rfl] at hx147_1); (try rw [Addr.add_zero'] at hx147_1); (try rw [show ((0 : Int)).toNat = 0 from rfl] at hx147_2); (try rw [show 0 * 6 = 0 from rfl] at hx147_2); (try rw [Addr.add_zero'] at hx147_2); (try rw [show ((0 : Int)).toNat = 0 from rfl] at hx147_3); (try rw [show 0 * 6 = 0 from rfl] at hx147_3); (try rw [Addr.add_zero'] at hx147_3); (try rw [show ((0 : Int)).toNat = 0 from rfl] at hx147_4); (try rw [show 0 * 6 = 0 from rfl] at hx147_4); (try rw [Addr.add_zero'] at hx147_4); (try rw [show ((0 : Int)).toNat = 0 from rfl] at hx147_5); (try rw [show 0 * 6 = 0 from rfl] at hx147_5); (try rw [Addr.add_zero'] at hx147_5); have HR147_1 := Aside0.mk hi147_1; have HC147_1 := Aside0.mk hl147_1; clear hi147_1 hl147_1; replace p147 := eq_true p147; replace q147 := eq_true q147; have ea_ := Option.some.inj (hx141_1.symm.trans hx147_1); injection ea_ with ea_ en_ ec_; subst ea_; subst ec_; clear en_; have p148 : 0 ≤ (0 : Int) := (by omega); have q148 : 0 < (l0.length : Int) := of_decide_eq_true (by first | (with_reducible assumption) | assumption); obtain ⟨ad148, A148_1, c148_1, e148, hx148_0, hx148_1, hx148_2, hx148_3, hx148_4, hx148_5, hl148_1, hi148_1⟩ := at_T49 HR0.out 0 p148 q148; obtain rfl : ad141 = ad148 := (by injection e148); have qi148 : (0 < l0.length) = True := eq_true (by omega); (try rw [show ((0 : Int)).toNat = 0 from rfl] at hx148_0); (try rw [show 0 * 6 = 0 from rfl] at hx148_0); (try rw [Addr.add_zero'] at hx148_0); (try rw [show ((0 : Int)).toNat = 0 from rfl] at hx148_1); (try rw [show 0 * 6 = 0 from rfl] at hx148_1); (try rw [Addr.add_zero'] at hx148_1); (try rw [show ((0 : Int)).toNat = 0 from rfl] at hx148_2); (try rw [show 0 * 6 = 0 from rfl] at hx148_2); (try rw [Addr.add_zero'] at hx148_2); (try rw [show ((0 : Int)).toNat = 0 from rfl] at hx148_3); (try rw [show 0 * 6 = 0 from rfl] at hx148_3); (try rw [Addr.add_zero'] at hx148_3); (try rw [show ((0 : Int)).toNat = 0 from rfl] at hx148_4); (try rw [show 0 * 6 = 0 from rfl] at hx148_4); (try rw [Addr.add_zero'] at hx148_4); (try rw [show ((0 : Int)).toNat = 0 from rfl] at hx148_5); (try rw [show 0 * 6 = 0 from rfl] at hx148_5); (try rw [Addr.add_zero'] at hx148_5); have HR148_1 := Aside0.mk hi148_1; have HC148_1 := Aside0.mk hl148_1; clear hi148_1 hl148_1; replace p148 := eq_true p148; replace q148 := eq_true q148; have ea_ := Option.some.inj (hx141_1.symm.trans hx148_1); injection ea_ with ea_ en_ ec_; subst ea_; subst ec_; clear en_) | (go_at_call 43; (with_reducible refine (spec_l02Above.calls ((rd_T49 l0 0).f2) true _ A7.out).mono ?_); rintro e w' ⟨rfl, ⟨nd, rfl⟩⟩; have p150 : 0 ≤ (0 : Int) := (by omega); have q150 : 0 < (l0.length : Int) := of_decide_eq_true (by first | (with_reducible assumption) | assumption); obtain ⟨ad150, A150_1, c150_1, e150, hx150_0, hx150_1, hx150_2, hx150_3, hx150_4, hx150_5, hl150_1, hi150_1⟩ := at_T49 HR0.out 0 p150 q150; obtain rfl : ad141 = ad150 := (by injection e150); have qi150 : (0 < l0.length) = True := eq_true (by omega); (try rw [show ((0 : Int)).toNat = 0 from rfl] at hx150_0); (try rw [show 0 * 6 = 0 from rfl] at hx150_0); (try rw [Addr.add_zero'] at hx150_0); (try rw [show ((0 : Int)).toNat = 0 from rfl] at hx150_1); (try rw [show 0 * 6 = 0 from rfl] at hx150_1); (try rw [Addr.add_zero'] at hx150_1); (try rw [show ((0 : Int)).toNat = 0 from rfl] at hx150_2); (try rw [show 0 * 6 = 0 from rfl] at hx150_2); (try rw [Addr.add_zero'] at hx150_2); (try rw [show ((0 : Int)).toNat = 0 from rfl] at hx150_3); (try rw [show 0 * 6 = 0 from rfl] at hx150_3); (try rw [Addr.add_zero'] at hx150_3); (try rw [show ((0 : Int)).toNat = 0 from rfl] at hx150_4); (try rw [show 0 * 6 = 0 from rfl] at hx150_4); (try rw [Addr.add_zero'] at hx150_4); (try rw [show ((0 : Int)).toNat = 0 from rfl] at hx150_5); (try rw [show 0 * 6 = 0 from rfl] at hx150_5); (try rw [Addr.add_zero'] at hx150_5); have HR150_1 := Aside0.mk hi150_1; have HC150_1 := Aside0.mk hl150_1; clear hi150_1 hl150_1; replace p150 := eq_true p150; replace q150 := eq_true q150; have ea_ := Option.some.inj (hx141_1.symm.trans hx150_1); injection ea_ with ea_ en_ ec_; subst ea_; subst ec_; clear en_; have p151 : 0 ≤ (0 : Int) := (by omega); have q151 : 0 < (l0.length : Int) := of_decide_eq_true (by first | (with_reducible assumption) | assumption); obtain ⟨ad151, A151_1, c151_1, e151, hx151_0, hx151_1, hx151_2, hx151_3, hx151_4, hx151_5, hl151_1, hi151_1⟩ := at_T49 HR0.out 0 p151 q151; obtain rfl : ad141 = ad151 := (by injection e151); have qi151 : (0 < l0.length) = True := eq_true (by omega); (try rw [show ((0 : Int)).toNat = 0 from rfl] at hx151_0); (try rw [show 0 * 6 = 0 from rfl] at hx151_0); (try rw [Addr.add_zero'] at hx151_0); (try rw [show ((0 : Int)).toNat = 0 from rfl] at hx151_1); (try rw [show 0 * 6 = 0 from rfl] at hx151_1); (try rw [Addr.add_zero'] at hx151_1); (try rw [show ((0 : Int)).toNat = 0 from rfl] at hx151_2); (try rw [show 0 * 6 = 0 from rfl] at hx151_2); (try rw [Addr.add_zero'] at hx151_2); (try rw [show ((0 : Int)).toNat = 0 from rfl] at hx151_3); (try rw [show 0 * 6 = 0 from rfl] at hx151_3); (try rw [Addr.add_zero'] at hx151_3); (try rw [show ((0 : Int)).toNat = 0 from rfl] at hx151_4); (try rw [show 0 * 6 = 0 from rfl] at hx151_4); (try rw [Addr.add_zero'] at hx151_4); (try rw [show ((0 : Int)).toNat = 0 from rfl] at hx151_5); (try rw [show 0 * 6 = 0 from rfl] at hx151_5); (try rw [Addr.add_zero'] at hx151_5); have HR151_1 := Aside0.mk hi151_1; have HC151_1 := Aside0.mk hl151_1; clear hi151_1 hl151_1; replace p151 := eq_true p151; replace q151 := eq_true q151; have ea_ := Option.some.inj (hx141_1.symm.trans hx151_1); injection ea_ with ea_ en_ ec_; subst ea_; subst ec_; clear en_) | (go_at_call 42; (with_reducible refine (spec_l02Least.calls ((rd_T49 l0 0).f3) true _ A9.out).mono ?_); rintro e w' ⟨rfl, ⟨nd, rfl⟩⟩; have p153 : 0 ≤ (0 : Int) := (by omega); have q153 : 0 < (l0.length : Int) := of_decide_eq_true (by first | (with_reducible assumption) | assumption); obtain ⟨ad153, A153_1, c153_1, e153, hx153_0, hx153_1, hx153_2, hx153_3, hx153_4, hx153_5, hl153_1, hi153_1⟩ := at_T49 HR0.out 0 p153 q153; obtain rfl : ad141 = ad153 := (by injection e153); have qi153 : (0 < l0.length) = True := eq_true (by omega); (try rw [show ((0 : Int)).toNat = 0 from rfl] at hx153_0); (try rw [show 0 * 6 = 0 from rfl] at hx153_0); (try rw [Addr.add_zero'] at hx153_0); (try rw [show ((0 : Int)).toNat = 0 from rfl] at hx153_1); (try rw [show 0 * 6 = 0 from rfl] at hx153_1); (try rw [Addr.add_zero'] at hx153_1); (try rw [show ((0 : Int)).toNat = 0 from rfl] at hx153_2); (try rw [show 0 * 6 = 0 from rfl] at hx153_2); (try rw [Addr.add_zero'] at hx153_2); (try rw [show ((0 : Int)).toNat = 0 from rfl] at hx153_3); (try rw [show 0 * 6 = 0 from rfl] at hx153_3); (try rw [Addr.add_zero'] at hx153_3); (try rw [show ((0 : Int)).toNat = 0 from rfl] at hx153_4); (try rw [show 0 * 6 = 0 from rfl] at hx153_4); (try rw [Addr.add_zero'] at hx153_4); (try rw [show ((0 : Int)).toNat = 0 from rfl] at hx153_5); (try rw [show 0 * 6 = 0 from rfl] at hx153_5); (try rw [Addr.add_zero'] at hx153_5); have HR153_1 := Aside0.mk hi153_1; have HC153_1 := Aside0.mk hl153_1; clear hi153_1 hl153_1; replace p153 := eq_true p153; replace q153 := eq_true q153; have ea_ := Option.some.inj (hx141_1.symm.trans hx153_1); injection ea_ with ea_ en_ ec_; subst ea_; subst ec_; clear en_; have p154 : 0 ≤ (0 : Int) := (by omega); have q154 : 0 < (l0.length : Int) := of_decide_eq_true (by first | (with_reducible assumption) | assumption); obtain ⟨ad154, A154_1, c154_1, e154, hx154_0, hx154_1, hx154_2, hx154_3, hx154_4, hx154_5, hl154_1, hi154_1⟩ := at_T49 HR0.out 0 p154 q154; obtain rfl : ad141 = ad154 := (by injection e154); have qi154 : (0 < l0.length) = True := eq_true (by omega); (try rw [show ((0 : Int)).toNat = 0 from rfl] at hx154_0); (try rw [show 0 * 6 = 0 from rfl] at hx154_0); (try rw [Addr.add_zero'] at hx154_0); (try rw [show ((0 : Int)).toNat = 0 from rfl] at hx154_1); (try rw [show 0 * 6 = 0 from rfl] at hx154_1); (try rw [Addr.add_zero'] at hx154_1); (try rw [show ((0 : Int)).toNat = 0 from rfl] at hx154_2); (try rw [show 0 * 6 = 0 from rfl] at hx154_2); (try rw [Addr.add_zero'] at hx154_2); (try rw [show ((0 : Int)).toNat = 0 from rfl] at hx154_3); (try rw [show 0 * 6 = 0 from rfl] at hx154_3); (try rw [Addr.add_zero'] at hx154_3); (try rw [show ((0 : Int)).toNat = 0 from rfl] at hx154_4); (try rw [show 0 * 6 = 0 from rfl] at hx154_4); (try rw [Addr.add_zero'] at hx154_4); (try rw [show ((0 : Int)).toNat = 0 from rfl] at hx154_5); (try rw [show 0 * 6 = 0 from rfl] at hx154_5); (try rw [Addr.add_zero'] at hx154_5); have HR154_1 := Aside0.mk hi154_1; have HC154_1 := Aside0.mk hl154_1; clear hi154_1 hl154_1; replace p154 := eq_true p154; replace q154 := eq_true q154; have ea_ := Option.some.inj (hx141_1.symm.trans hx154_1); injection ea_ with ea_ en_ ec_; subst ea_; subst ec_; clear en_) | (go_at_call 97; (with_reducible refine (spec_l02Share.calls ((rd_T49 l0 0).f4) true _ A11.out).mono ?_); rintro e w' ⟨rfl, ⟨nd, rfl⟩⟩; have p156 : 0 ≤ (0 : Int) := (by omega); have q156 : 0 < (l0.length : Int) := of_decide_eq_true (by first | (with_reducible assumption) | assumption); obtain ⟨ad156, A156_1, c156_1, e156, hx156_0, hx156_1, hx156_2, hx156_3, hx156_4, hx156_5, hl156_1, hi156_1⟩ := at_T49 HR0.out 0 p156 q156; obtain rfl : ad141 = ad156 := (by injection e156); have qi156 : (0 < l0.length) = True := eq_true (by omega); (try rw [show ((0 : Int)).toNat = 0 from rfl] at hx156_0); (try rw [show 0 * 6 = 0 from rfl] at hx156_0); (try rw [Addr.add_zero'] at hx156_0); (try rw [show ((0 : Int)).toNat = 0 from rfl] at hx156_1); (try rw [show 0 * 6 = 0 from rfl] at hx156_1); (try rw [Addr.add_zero'] at hx156_1); (try rw [show ((0 : Int)).toNat = 0 from rfl] at hx156_2); (try rw [show 0 * 6 = 0 from rfl] at hx156_2); (try rw [Addr.add_zero'] at hx156_2); (try rw [show ((0 : Int)).toNat = 0 from rfl] at hx156_3); (try rw [show 0 * 6 = 0 from rfl] at hx156_3); (try rw [Addr.add_zero'] at hx156_3); (try rw [show ((0 : Int)).toNat = 0 from rfl] at hx156_4); (try rw [show 0 * 6 = 0 from rfl] at hx156_4); (try rw [Addr.add_zero'] at hx156_4); (try rw [show ((0 : Int)).toNat = 0 from rfl] at hx156_5); (try rw [show 0 * 6 = 0 from rfl] at hx156_5); (try rw [Addr.add_zero'] at hx156_5); have HR156_1 := Aside0.mk hi156_1; have HC156_1 := Aside0.mk hl156_1; clear hi156_1 hl156_1; replace p156 := eq_true p156; replace q156 := eq_true q156; have ea_ := Option.some.inj (hx141_1.symm.trans hx156_1); injection ea_ with ea_ en_ ec_; subst ea_; subst ec_; clear en_; have p157 : 0 ≤ (0 : Int) := (by omega); have q157 : 0 < (l0.length : Int) := of_decide_eq_true (by first | (with_reducible assumption) | assumption); obtain ⟨ad157, A157_1, c157_1, e157, hx157_0, hx157_1, hx157_2, hx157_3, hx157_4, hx157_5, hl157_1, hi157_1⟩ := at_T49 HR0.out 0 p157 q157; obtain rfl : ad141 = ad157 := (by injection e157); have qi157 : (0 < l0.length) = True := eq_true (by omega); (try rw [show ((0 : Int)).toNat = 0 from rfl] at hx157_0); (try rw [show 0 * 6 = 0 from rfl] at hx157_0); (try rw [Addr.add_zero'] at hx157_0); (try rw [show ((0 : Int)).toNat = 0 from rfl] at hx157_1); (try rw [show 0 * 6 = 0 from rfl] at hx157_1); (try rw [Addr.add_zero'] at hx157_1); (try rw [show ((0 : Int)).toNat = 0 from rfl] at hx157_2); (try rw [show 0 * 6 = 0 from rfl] at hx157_2); (try rw [Addr.add_zero'] at hx157_2); (try rw [show ((0 : Int)).toNat = 0 from rfl] at hx157_3); (try rw [show 0 * 6 = 0 from rfl] at hx157_3); (try rw [Addr.add_zero'] at hx157_3); (try rw [show ((0 : Int)).toNat = 0 from rfl] at hx157_4); (try rw [show 0 * 6 = 0 from rfl] at hx157_4); (try rw [Addr.add_zero'] at hx157_4); (try rw [show ((0 : Int)).toNat = 0 from rfl] at hx157_5); (try rw [show 0 * 6 = 0 from rfl] at hx157_5); (try rw [Addr.add_zero'] at hx157_5); have HR157_1 := Aside0.mk hi157_1; have HC157_1 := Aside0.mk hl157_1; clear hi157_1 hl157_1; replace p157 := eq_true p157; replace q157 := eq_true q157; have ea_ := Option.some.inj (hx141_1.symm.trans hx157_1); injection ea_ with ea_ en_ ec_; subst ea_; subst ec_; clear en_) | (go_at_call 97; (with_reducible refine (spec_l02Share.calls ((rd_T49 l0 0).f5) t158 _ A13.out).mono ?_); rintro e w' ⟨rfl, ⟨nd, rfl⟩⟩))
       go_ret
       exact ⟨by first | rfl | (simp; done) | (simp [*]; done), by repeat (first | exact Drawn0.refl _ | apply Drawn0.step)⟩
      ·replace c12 := Bool.eq_false_iff.mpr c12
       subst c12
       have H1 : (some false) = some r := by rw [if_neg (show ¬ (false = true) by decide)] at H; exact H
       clear H
       have H := H1
       clear H1
       obtain rfl := Option.some.inj H
       have p141 : 0 ≤ (0 : Int) := (by omega)
       have q141 : 0 < (l0.length : Int) := of_decide_eq_true (by first | (with_reducible assumption) | assumption)
       obtain ⟨ad141, A141_1, c141_1, e141, hx141_0, hx141_1, hx141_2, hx141_3, hx141_4, hx141_5, hl141_1, hi141_1⟩ := at_T49 HR0.out 0 p141 q141
       cases e141
       have qi141 : (0 < l0.length) = True := eq_true (by omega)
       (try rw [show ((0 : Int)).toNat = 0 from rfl] at hx141_0)
       (try rw [show 0 * 6 = 0 from rfl] at hx141_0)
       (try rw [Addr.add_zero'] at hx141_0)
       (try rw [show ((0 : Int)).toNat = 0 from rfl] at hx141_1)
       (try rw [show 0 * 6 = 0 from rfl] at hx141_1)
       (try rw [Addr.add_zero'] at hx141_1)
       (try rw [show ((0 : Int)).toNat = 0 from rfl] at hx141_2)
       (try rw [show 0 * 6 = 0 from rfl] at hx141_2)
       (try rw [Addr.add_zero'] at hx141_2)
       (try rw [show ((0 : Int)).toNat = 0 from rfl] at hx141_3)
       (try rw [show 0 * 6 = 0 from rfl] at hx141_3)
       (try rw [Addr.add_zero'] at hx141_3)
       (try rw [show ((0 : Int)).toNat = 0 from rfl] at hx141_4)
       (try rw [show 0 * 6 = 0 from rfl] at hx141_4)
       (try rw [Addr.add_zero'] at hx141_4)
       (try rw [show ((0 : Int)).toNat = 0 from rfl] at hx141_5)
       (try rw [show 0 * 6 = 0 from rfl] at hx141_5)
       (try rw [Addr.add_zero'] at hx141_5)
       have HR141_1 := Aside0.mk hi141_1
       have HC141_1 := Aside0.mk hl141_1
       clear hi141_1 hl141_1
       replace p141 := eq_true p141
       replace q141 := eq_true q141
       have p142 : 0 ≤ (0 : Int) := (by omega)
       have q142 : 0 < (l0.length : Int) := of_decide_eq_true (by first | (with_reducible assumption) | assumption)
       obtain ⟨ad142, A142_1, c142_1, e142, hx142_0, hx142_1, hx142_2, hx142_3, hx142_4, hx142_5, hl142_1, hi142_1⟩ := at_T49 HR0.out 0 p142 q142
       obtain rfl : ad141 = ad142 := (by injection e142)
       have qi142 : (0 < l0.length) = True := eq_true (by omega)
       (try rw [show ((0 : Int)).toNat = 0 from rfl] at hx142_0)
       (try rw [show 0 * 6 = 0 from rfl] at hx142_0)
       (try rw [Addr.add_zero'] at hx142_0)
       (try rw [show ((0 : Int)).toNat = 0 from rfl] at hx142_1)
       (try rw [show 0 * 6 = 0 from rfl] at hx142_1)
       (try rw [Addr.add_zero'] at hx142_1)
       (try rw [show ((0 : Int)).toNat = 0 from rfl] at hx142_2)
       (try rw [show 0 * 6 = 0 from rfl] at hx142_2)
       (try rw [Addr.add_zero'] at hx142_2)
       (try rw [show ((0 : Int)).toNat = 0 from rfl] at hx142_3)
       (try rw [show 0 * 6 = 0 from rfl] at hx142_3)
       (try rw [Addr.add_zero'] at hx142_3)
       (try rw [show ((0 : Int)).toNat = 0 from rfl] at hx142_4)
       (try rw [show 0 * 6 = 0 from rfl] at hx142_4)
       (try rw [Addr.add_zero'] at hx142_4)
       (try rw [show ((0 : Int)).toNat = 0 from rfl] at hx142_5)
       (try rw [show 0 * 6 = 0 from rfl] at hx142_5)
       (try rw [Addr.add_zero'] at hx142_5)
       have HR142_1 := Aside0.mk hi142_1
       have HC142_1 := Aside0.mk hl142_1
       clear hi142_1 hl142_1
       replace p142 := eq_true p142
       replace q142 := eq_true q142
       have ea_ := Option.some.inj (hx141_1.symm.trans hx142_1)
       injection ea_ with ea_ en_ ec_
       subst ea_
       subst ec_
       clear en_
       go_enter Try.func87, Try.ntmps87
       go_wp2_with (first | ((with_reducible refine gate_callee (f := 114) rfl ?_); refine goesL_ (some 7) rfl rfl Try.func114 (by kernel_rfl) rfl #[.string ((rd_T49 l0 0).f0)] rfl (by (try simp only [List.map_toArray, List.map_cons, List.map_nil]); first | done | rfl | (simp only [List.length_drop, List.length_take]; rfl)) ?_; (with_reducible refine (spec_l06Name.calls k ((rd_T49 l0 0).f0) true _ A3.out).mono ?_); rintro e w' ⟨rfl, ⟨nd, rfl⟩⟩; refine ⟨_, rfl, ?_⟩; have p144 : 0 ≤ (0 : Int) := (by omega); have q144 : 0 < (l0.length : Int) := of_decide_eq_true (by first | (with_reducible assumption) | assumption); obtain ⟨ad144, A144_1, c144_1, e144, hx144_0, hx144_1, hx144_2, hx144_3, hx144_4, hx144_5, hl144_1, hi144_1⟩ := at_T49 HR0.out 0 p144 q144; obtain rfl : ad141 = ad144 := (by injection e144); have qi144 : (0 < l0.length) = True := eq_true (by omega); (try rw [show ((0 : Int)).toNat = 0 from rfl] at hx144_0); (try rw [show 0 * 6 = 0 from rfl] at hx144_0); (try rw [Addr.add_zero'] at hx144_0); (try rw [show ((0 : Int)).toNat = 0 from rfl] at hx144_1); (try rw [show 0 * 6 = 0 from rfl] at hx144_1); (try rw [Addr.add_zero'] at hx144_1); (try rw [show ((0 : Int)).toNat = 0 from rfl] at hx144_2); (try rw [show 0 * 6 = 0 from rfl] at hx144_2); (try rw [Addr.add_zero'] at hx144_2); (try rw [show ((0 : Int)).toNat = 0 from rfl] at hx144_3); (try rw [show 0 * 6 = 0 from rfl] at hx144_3); (try rw [Addr.add_zero'] at hx144_3); (try rw [show ((0 : Int)).toNat = 0 from rfl] at hx144_4); (try rw [show 0 * 6 = 0 from rfl] at hx144_4); (try rw [Addr.add_zero'] at hx144_4); (try rw [show ((0 : Int)).toNat = 0 from rfl] at hx144_5); (try rw [show 0 * 6 = 0 from rfl] at hx144_5); (try rw [Addr.add_zero'] at hx144_5); have HR144_1 := Aside0.mk hi144_1; have HC144_1 := Aside0.mk hl144_1; clear hi144_1 hl144_1; replace p144 := eq_true p144; replace q144 := eq_true q144; have ea_ := Option.some.inj (hx141_1.symm.trans hx144_1); injection ea_ with ea_ en_ ec_; subst ea_; subst ec_; clear en_; have p145 : 0 ≤ (0 : Int) := (by omega); have q145 : 0 < (l0.length : Int) := of_decide_eq_true (by first | (with_reducible assumption) | assumption); obtain ⟨ad145, A145_1, c145_1, e145, hx145_0, hx145_1, hx145_2, hx145_3, hx145_4, hx145_5, hl145_1, hi145_1⟩ := at_T49 HR0.out 0 p145 q145; obtain rfl : ad141 = ad145 := (by injection e145); have qi145 : (0 < l0.length) = True := eq_true (by omega); (try rw [show ((0 : Int)).toNat = 0 from rfl] at hx145_0); (try rw [show 0 * 6 = 0 from rfl] at hx145_0); (try rw [Addr.add_zero'] at hx145_0); (try rw [show ((0 : Int)).toNat = 0 from rfl] at hx145_1); (try rw [show 0 * 6 = 0 from rfl] at hx145_1); (try rw [Addr.add_zero'] at hx145_1); (try rw [show ((0 : Int)).toNat = 0 from rfl] at hx145_2); (try rw [show 0 * 6 = 0 from rfl] at hx145_2); (try rw [Addr.add_zero'] at hx145_2); (try rw [show ((0 : Int)).toNat = 0 from rfl] at hx145_3); (try rw [show 0 * 6 = 0 from rfl] at hx145_3); (try rw [Addr.add_zero'] at hx145_3); (try rw [show ((0 : Int)).toNat = 0 from rfl] at hx145_4); (try rw [show 0 * 6 = 0 from rfl] at hx145_4); (try rw [Addr.add_zero'] at hx145_4); (try rw [show ((0 : Int)).toNat = 0 from rfl] at hx145_5); (try rw [show 0 * 6 = 0 from rfl] at hx145_5); (try rw [Addr.add_zero'] at hx145_5); have HR145_1 := Aside0.mk hi145_1; have HC145_1 := Aside0.mk hl145_1; clear hi145_1 hl145_1; replace p145 := eq_true p145; replace q145 := eq_true q145; have ea_ := Option.some.inj (hx141_1.symm.trans hx145_1); injection ea_ with ea_ en_ ec_; subst ea_; subst ec_; clear en_) | (go_at_call 115; (with_reducible refine (spec_l02Areas.calls k _ _ ((rd_T49 l0 0).f1) true _ ?side1 ?side2 A5.out).mono ?_); (case side1 => repeat (first | exact HR145_1.out | (with_reducible refine Kd.C_alloc ?_ _) | (with_reducible refine Kd.C_drewN ?_ _) | (with_reducible refine Kd.C_drew ?_))); (case side2 => exact HC145_1.out); rintro e w' ⟨rfl, ⟨nd, rfl⟩⟩; have p147 : 0 ≤ (0 : Int) := (by omega); have q147 : 0 < (l0.length : Int) := of_decide_eq_true (by first | (with_reducible assumption) | assumption); obtain ⟨ad147, A147_1, c147_1, e147, hx147_0, hx147_1, hx147_2, hx147_3, hx147_4, hx147_5, hl147_1, hi147_1⟩ := at_T49 HR0.out 0 p147 q147; obtain rfl : ad141 = ad147 := (by injection e147); have qi147 : (0 < l0.length) = True := eq_true (by omega); (try rw [show ((0 : Int)).toNat = 0 from rfl] at hx147_0); (try rw [show 0 * 6 = 0 from rfl] at hx147_0); (try rw [Addr.add_zero'] at hx147_0); (try rw [show ((0 : Int)).toNat = 0 from rfl] at hx147_1); (try rw [show 0 * 6 = 0 from rfl] at hx147_1); (try rw [Addr.add_zero'] at hx147_1); (try rw [show ((0 : Int)).toNat = 0 from rfl] at hx147_2); (try rw [show 0 * 6 = 0 from rfl] at hx147_2); (try rw [Addr.add_zero'] at hx147_2); (try rw [show ((0 : Int)).toNat = 0 from rfl] at hx147_3); (try rw [show 0 * 6 = 0 from rfl] at hx147_3); (try rw [Addr.add_zero'] at hx147_3); (try rw [show ((0 : Int)).toNat = 0 from rfl] at hx147_4); (try rw [show 0 * 6 = 0 from rfl] at hx147_4); (try rw [Addr.add_zero'] at hx147_4); (try rw [show ((0 : Int)).toNat = 0 from rfl] at hx147_5); (try rw [show 0 * 6 = 0 from rfl] at hx147_5); (try rw [Addr.add_zero'] at hx147_5); have HR147_1 := Aside0.mk hi147_1; have HC147_1 := Aside0.mk hl147_1; clear hi147_1 hl147_1; replace p147 := eq_true p147; replace q147 := eq_true q147; have ea_ := Option.some.inj (hx141_1.symm.trans hx147_1); injection ea_ with ea_ en_ ec_; subst ea_; subst ec_; clear en_; have p148 : 0 ≤ (0 : Int) := (by omega); have q148 : 0 < (l0.length : Int) := of_decide_eq_true (by first | (with_reducible assumption) | assumption); obtain ⟨ad148, A148_1, c148_1, e148, hx148_0, hx148_1, hx148_2, hx148_3, hx148_4, hx148_5, hl148_1, hi148_1⟩ := at_T49 HR0.out 0 p148 q148; obtain rfl : ad141 = ad148 := (by injection e148); have qi148 : (0 < l0.length) = True := eq_true (by omega); (try rw [show ((0 : Int)).toNat = 0 from rfl] at hx148_0); (try rw [show 0 * 6 = 0 from rfl] at hx148_0); (try rw [Addr.add_zero'] at hx148_0); (try rw [show ((0 : Int)).toNat = 0 from rfl] at hx148_1); (try rw [show 0 * 6 = 0 from rfl] at hx148_1); (try rw [Addr.add_zero'] at hx148_1); (try rw [show ((0 : Int)).toNat = 0 from rfl] at hx148_2); (try rw [show 0 * 6 = 0 from rfl] at hx148_2); (try rw [Addr.add_zero'] at hx148_2); (try rw [show ((0 : Int)).toNat = 0 from rfl] at hx148_3); (try rw [show 0 * 6 = 0 from rfl] at hx148_3); (try rw [Addr.add_zero'] at hx148_3); (try rw [show ((0 : Int)).toNat = 0 from rfl] at hx148_4); (try rw [show 0 * 6 = 0 from rfl] at hx148_4); (try rw [Addr.add_zero'] at hx148_4); (try rw [show ((0 : Int)).toNat = 0 from rfl] at hx148_5); (try rw [show 0 * 6 = 0 from rfl] at hx148_5); (try rw [Addr.add_zero'] at hx148_5); have HR148_1 := Aside0.mk hi148_1; have HC148_1 := Aside0.mk hl148_1; clear hi148_1 hl148_1; replace p148 := eq_true p148; replace q148 := eq_true q148; have ea_ := Option.some.inj (hx141_1.symm.trans hx148_1); injection ea_ with ea_ en_ ec_; subst ea_; subst ec_; clear en_) | (go_at_call 43; (with_reducible refine (spec_l02Above.calls ((rd_T49 l0 0).f2) true _ A7.out).mono ?_); rintro e w' ⟨rfl, ⟨nd, rfl⟩⟩; have p150 : 0 ≤ (0 : Int) := (by omega); have q150 : 0 < (l0.length : Int) := of_decide_eq_true (by first | (with_reducible assumption) | assumption); obtain ⟨ad150, A150_1, c150_1, e150, hx150_0, hx150_1, hx150_2, hx150_3, hx150_4, hx150_5, hl150_1, hi150_1⟩ := at_T49 HR0.out 0 p150 q150; obtain rfl : ad141 = ad150 := (by injection e150); have qi150 : (0 < l0.length) = True := eq_true (by omega); (try rw [show ((0 : Int)).toNat = 0 from rfl] at hx150_0); (try rw [show 0 * 6 = 0 from rfl] at hx150_0); (try rw [Addr.add_zero'] at hx150_0); (try rw [show ((0 : Int)).toNat = 0 from rfl] at hx150_1); (try rw [show 0 * 6 = 0 from rfl] at hx150_1); (try rw [Addr.add_zero'] at hx150_1); (try rw [show ((0 : Int)).toNat = 0 from rfl] at hx150_2); (try rw [show 0 * 6 = 0 from rfl] at hx150_2); (try rw [Addr.add_zero'] at hx150_2); (try rw [show ((0 : Int)).toNat = 0 from rfl] at hx150_3); (try rw [show 0 * 6 = 0 from rfl] at hx150_3); (try rw [Addr.add_zero'] at hx150_3); (try rw [show ((0 : Int)).toNat = 0 from rfl] at hx150_4); (try rw [show 0 * 6 = 0 from rfl] at hx150_4); (try rw [Addr.add_zero'] at hx150_4); (try rw [show ((0 : Int)).toNat = 0 from rfl] at hx150_5); (try rw [show 0 * 6 = 0 from rfl] at hx150_5); (try rw [Addr.add_zero'] at hx150_5); have HR150_1 := Aside0.mk hi150_1; have HC150_1 := Aside0.mk hl150_1; clear hi150_1 hl150_1; replace p150 := eq_true p150; replace q150 := eq_true q150; have ea_ := Option.some.inj (hx141_1.symm.trans hx150_1); injection ea_ with ea_ en_ ec_; subst ea_; subst ec_; clear en_; have p151 : 0 ≤ (0 : Int) := (by omega); have q151 : 0 < (l0.length : Int) := of_decide_eq_true (by first | (with_reducible assumption) | assumption); obtain ⟨ad151, A151_1, c151_1, e151, hx151_0, hx151_1, hx151_2, hx151_3, hx151_4, hx151_5, hl151_1, hi151_1⟩ := at_T49 HR0.out 0 p151 q151; obtain rfl : ad141 = ad151 := (by injection e151); have qi151 : (0 < l0.length) = True := eq_true (by omega); (try rw [show ((0 : Int)).toNat = 0 from rfl] at hx151_0); (try rw [show 0 * 6 = 0 from rfl] at hx151_0); (try rw [Addr.add_zero'] at hx151_0); (try rw [show ((0 : Int)).toNat = 0 from rfl] at hx151_1); (try rw [show 0 * 6 = 0 from rfl] at hx151_1); (try rw [Addr.add_zero'] at hx151_1); (try rw [show ((0 : Int)).toNat = 0 from rfl] at hx151_2); (try rw [show 0 * 6 = 0 from rfl] at hx151_2); (try rw [Addr.add_zero'] at hx151_2); (try rw [show ((0 : Int)).toNat = 0 from rfl] at hx151_3); (try rw [show 0 * 6 = 0 from rfl] at hx151_3); (try rw [Addr.add_zero'] at hx151_3); (try rw [show ((0 : Int)).toNat = 0 from rfl] at hx151_4); (try rw [show 0 * 6 = 0 from rfl] at hx151_4); (try rw [Addr.add_zero'] at hx151_4); (try rw [show ((0 : Int)).toNat = 0 from rfl] at hx151_5); (try rw [show 0 * 6 = 0 from rfl] at hx151_5); (try rw [Addr.add_zero'] at hx151_5); have HR151_1 := Aside0.mk hi151_1; have HC151_1 := Aside0.mk hl151_1; clear hi151_1 hl151_1; replace p151 := eq_true p151; replace q151 := eq_true q151; have ea_ := Option.some.inj (hx141_1.symm.trans hx151_1); injection ea_ with ea_ en_ ec_; subst ea_; subst ec_; clear en_) | (go_at_call 42; (with_reducible refine (spec_l02Least.calls ((rd_T49 l0 0).f3) true _ A9.out).mono ?_); rintro e w' ⟨rfl, ⟨nd, rfl⟩⟩; have p153 : 0 ≤ (0 : Int) := (by omega); have q153 : 0 < (l0.length : Int) := of_decide_eq_true (by first | (with_reducible assumption) | assumption); obtain ⟨ad153, A153_1, c153_1, e153, hx153_0, hx153_1, hx153_2, hx153_3, hx153_4, hx153_5, hl153_1, hi153_1⟩ := at_T49 HR0.out 0 p153 q153; obtain rfl : ad141 = ad153 := (by injection e153); have qi153 : (0 < l0.length) = True := eq_true (by omega); (try rw [show ((0 : Int)).toNat = 0 from rfl] at hx153_0); (try rw [show 0 * 6 = 0 from rfl] at hx153_0); (try rw [Addr.add_zero'] at hx153_0); (try rw [show ((0 : Int)).toNat = 0 from rfl] at hx153_1); (try rw [show 0 * 6 = 0 from rfl] at hx153_1); (try rw [Addr.add_zero'] at hx153_1); (try rw [show ((0 : Int)).toNat = 0 from rfl] at hx153_2); (try rw [show 0 * 6 = 0 from rfl] at hx153_2); (try rw [Addr.add_zero'] at hx153_2); (try rw [show ((0 : Int)).toNat = 0 from rfl] at hx153_3); (try rw [show 0 * 6 = 0 from rfl] at hx153_3); (try rw [Addr.add_zero'] at hx153_3); (try rw [show ((0 : Int)).toNat = 0 from rfl] at hx153_4); (try rw [show 0 * 6 = 0 from rfl] at hx153_4); (try rw [Addr.add_zero'] at hx153_4); (try rw [show ((0 : Int)).toNat = 0 from rfl] at hx153_5); (try rw [show 0 * 6 = 0 from rfl] at hx153_5); (try rw [Addr.add_zero'] at hx153_5); have HR153_1 := Aside0.mk hi153_1; have HC153_1 := Aside0.mk hl153_1; clear hi153_1 hl153_1; replace p153 := eq_true p153; replace q153 := eq_true q153; have ea_ := Option.some.inj (hx141_1.symm.trans hx153_1); injection ea_ with ea_ en_ ec_; subst ea_; subst ec_; clear en_; have p154 : 0 ≤ (0 : Int) := (by omega); have q154 : 0 < (l0.length : Int) := of_decide_eq_true (by first | (with_reducible assumption) | assumption); obtain ⟨ad154, A154_1, c154_1, e154, hx154_0, hx154_1, hx154_2, hx154_3, hx154_4, hx154_5, hl154_1, hi154_1⟩ := at_T49 HR0.out 0 p154 q154; obtain rfl : ad141 = ad154 := (by injection e154); have qi154 : (0 < l0.length) = True := eq_true (by omega); (try rw [show ((0 : Int)).toNat = 0 from rfl] at hx154_0); (try rw [show 0 * 6 = 0 from rfl] at hx154_0); (try rw [Addr.add_zero'] at hx154_0); (try rw [show ((0 : Int)).toNat = 0 from rfl] at hx154_1); (try rw [show 0 * 6 = 0 from rfl] at hx154_1); (try rw [Addr.add_zero'] at hx154_1); (try rw [show ((0 : Int)).toNat = 0 from rfl] at hx154_2); (try rw [show 0 * 6 = 0 from rfl] at hx154_2); (try rw [Addr.add_zero'] at hx154_2); (try rw [show ((0 : Int)).toNat = 0 from rfl] at hx154_3); (try rw [show 0 * 6 = 0 from rfl] at hx154_3); (try rw [Addr.add_zero'] at hx154_3); (try rw [show ((0 : Int)).toNat = 0 from rfl] at hx154_4); (try rw [show 0 * 6 = 0 from rfl] at hx154_4); (try rw [Addr.add_zero'] at hx154_4); (try rw [show ((0 : Int)).toNat = 0 from rfl] at hx154_5); (try rw [show 0 * 6 = 0 from rfl] at hx154_5); (try rw [Addr.add_zero'] at hx154_5); have HR154_1 := Aside0.mk hi154_1; have HC154_1 := Aside0.mk hl154_1; clear hi154_1 hl154_1; replace p154 := eq_true p154; replace q154 := eq_true q154; have ea_ := Option.some.inj (hx141_1.symm.trans hx154_1); injection ea_ with ea_ en_ ec_; subst ea_; subst ec_; clear en_) | (go_at_call 97; (with_reducible refine (spec_l02Share.calls ((rd_T49 l0 0).f4) false _ A11.out).mono ?_); rintro e w' ⟨rfl, ⟨nd, rfl⟩⟩))
       go_ret
       exact ⟨by first | rfl | (simp; done) | (simp [*]; done), by repeat (first | exact Drawn0.refl _ | apply Drawn0.step)⟩
     ·replace c10 := Bool.eq_false_iff.mpr c10
      subst c10
      have H1 : (some false) = some r := by rw [if_neg (show ¬ (false = true) by decide)] at H; exact H
      clear H
      have H := H1
      clear H1
      obtain rfl := Option.some.inj H
      have p141 : 0 ≤ (0 : Int) := (by omega)
      have q141 : 0 < (l0.length : Int) := of_decide_eq_true (by first | (with_reducible assumption) | assumption)
      obtain ⟨ad141, A141_1, c141_1, e141, hx141_0, hx141_1, hx141_2, hx141_3, hx141_4, hx141_5, hl141_1, hi141_1⟩ := at_T49 HR0.out 0 p141 q141
      cases e141
      have qi141 : (0 < l0.length) = True := eq_true (by omega)
      (try rw [show ((0 : Int)).toNat = 0 from rfl] at hx141_0)
      (try rw [show 0 * 6 = 0 from rfl] at hx141_0)
      (try rw [Addr.add_zero'] at hx141_0)
      (try rw [show ((0 : Int)).toNat = 0 from rfl] at hx141_1)
      (try rw [show 0 * 6 = 0 from rfl] at hx141_1)
      (try rw [Addr.add_zero'] at hx141_1)
      (try rw [show ((0 : Int)).toNat = 0 from rfl] at hx141_2)
      (try rw [show 0 * 6 = 0 from rfl] at hx141_2)
      (try rw [Addr.add_zero'] at hx141_2)
      (try rw [show ((0 : Int)).toNat = 0 from rfl] at hx141_3)
      (try rw [show 0 * 6 = 0 from rfl] at hx141_3)
      (try rw [Addr.add_zero'] at hx141_3)
      (try rw [show ((0 : Int)).toNat = 0 from rfl] at hx141_4)
      (try rw [show 0 * 6 = 0 from rfl] at hx141_4)
      (try rw [Addr.add_zero'] at hx141_4)
      (try rw [show ((0 : Int)).toNat = 0 from rfl] at hx141_5)
      (try rw [show 0 * 6 = 0 from rfl] at hx141_5)
      (try rw [Addr.add_zero'] at hx141_5)
      have HR141_1 := Aside0.mk hi141_1
      have HC141_1 := Aside0.mk hl141_1
      clear hi141_1 hl141_1
      replace p141 := eq_true p141
      replace q141 := eq_true q141
      have p142 : 0 ≤ (0 : Int) := (by omega)
      have q142 : 0 < (l0.length : Int) := of_decide_eq_true (by first | (with_reducible assumption) | assumption)
      obtain ⟨ad142, A142_1, c142_1, e142, hx142_0, hx142_1, hx142_2, hx142_3, hx142_4, hx142_5, hl142_1, hi142_1⟩ := at_T49 HR0.out 0 p142 q142
      obtain rfl : ad141 = ad142 := (by injection e142)
      have qi142 : (0 < l0.length) = True := eq_true (by omega)
      (try rw [show ((0 : Int)).toNat = 0 from rfl] at hx142_0)
      (try rw [show 0 * 6 = 0 from rfl] at hx142_0)
      (try rw [Addr.add_zero'] at hx142_0)
      (try rw [show ((0 : Int)).toNat = 0 from rfl] at hx142_1)
      (try rw [show 0 * 6 = 0 from rfl] at hx142_1)
      (try rw [Addr.add_zero'] at hx142_1)
      (try rw [show ((0 : Int)).toNat = 0 from rfl] at hx142_2)
      (try rw [show 0 * 6 = 0 from rfl] at hx142_2)
      (try rw [Addr.add_zero'] at hx142_2)
      (try rw [show ((0 : Int)).toNat = 0 from rfl] at hx142_3)
      (try rw [show 0 * 6 = 0 from rfl] at hx142_3)
      (try rw [Addr.add_zero'] at hx142_3)
      (try rw [show ((0 : Int)).toNat = 0 from rfl] at hx142_4)
      (try rw [show 0 * 6 = 0 from rfl] at hx142_4)
      (try rw [Addr.add_zero'] at hx142_4)
      (try rw [show ((0 : Int)).toNat = 0 from rfl] at hx142_5)
      (try rw [show 0 * 6 = 0 from rfl] at hx142_5)
      (try rw [Addr.add_zero'] at hx142_5)
      have HR142_1 := Aside0.mk hi142_1
      have HC142_1 := Aside0.mk hl142_1
      clear hi142_1 hl142_1
      replace p142 := eq_true p142
      replace q142 := eq_true q142
      have ea_ := Option.some.inj (hx141_1.symm.trans hx142_1)
      injection ea_ with ea_ en_ ec_
      subst ea_
      subst ec_
      clear en_
      go_enter Try.func87, Try.ntmps87
      go_wp2_with (first | ((with_reducible refine gate_callee (f := 114) rfl ?_); refine goesL_ (some 7) rfl rfl Try.func114 (by kernel_rfl) rfl #[.string ((rd_T49 l0 0).f0)] rfl (by (try simp only [List.map_toArray, List.map_cons, List.map_nil]); first | done | rfl | (simp only [List.length_drop, List.length_take]; rfl)) ?_; (with_reducible refine (spec_l06Name.calls k ((rd_T49 l0 0).f0) true _ A3.out).mono ?_); rintro e w' ⟨rfl, ⟨nd, rfl⟩⟩; refine ⟨_, rfl, ?_⟩; have p144 : 0 ≤ (0 : Int) := (by omega); have q144 : 0 < (l0.length : Int) := of_decide_eq_true (by first | (with_reducible assumption) | assumption); obtain ⟨ad144, A144_1, c144_1, e144, hx144_0, hx144_1, hx144_2, hx144_3, hx144_4, hx144_5, hl144_1, hi144_1⟩ := at_T49 HR0.out 0 p144 q144; obtain rfl : ad141 = ad144 := (by injection e144); have qi144 : (0 < l0.length) = True := eq_true (by omega); (try rw [show ((0 : Int)).toNat = 0 from rfl] at hx144_0); (try rw [show 0 * 6 = 0 from rfl] at hx144_0); (try rw [Addr.add_zero'] at hx144_0); (try rw [show ((0 : Int)).toNat = 0 from rfl] at hx144_1); (try rw [show 0 * 6 = 0 from rfl] at hx144_1); (try rw [Addr.add_zero'] at hx144_1); (try rw [show ((0 : Int)).toNat = 0 from rfl] at hx144_2); (try rw [show 0 * 6 = 0 from rfl] at hx144_2); (try rw [Addr.add_zero'] at hx144_2); (try rw [show ((0 : Int)).toNat = 0 from rfl] at hx144_3); (try rw [show 0 * 6 = 0 from rfl] at hx144_3); (try rw [Addr.add_zero'] at hx144_3); (try rw [show ((0 : Int)).toNat = 0 from rfl] at hx144_4); (try rw [show 0 * 6 = 0 from rfl] at hx144_4); (try rw [Addr.add_zero'] at hx144_4); (try rw [show ((0 : Int)).toNat = 0 from rfl] at hx144_5); (try rw [show 0 * 6 = 0 from rfl] at hx144_5); (try rw [Addr.add_zero'] at hx144_5); have HR144_1 := Aside0.mk hi144_1; have HC144_1 := Aside0.mk hl144_1; clear hi144_1 hl144_1; replace p144 := eq_true p144; replace q144 := eq_true q144; have ea_ := Option.some.inj (hx141_1.symm.trans hx144_1); injection ea_ with ea_ en_ ec_; subst ea_; subst ec_; clear en_; have p145 : 0 ≤ (0 : Int) := (by omega); have q145 : 0 < (l0.length : Int) := of_decide_eq_true (by first | (with_reducible assumption) | assumption); obtain ⟨ad145, A145_1, c145_1, e145, hx145_0, hx145_1, hx145_2, hx145_3, hx145_4, hx145_5, hl145_1, hi145_1⟩ := at_T49 HR0.out 0 p145 q145; obtain rfl : ad141 = ad145 := (by injection e145); have qi145 : (0 < l0.length) = True := eq_true (by omega); (try rw [show ((0 : Int)).toNat = 0 from rfl] at hx145_0); (try rw [show 0 * 6 = 0 from rfl] at hx145_0); (try rw [Addr.add_zero'] at hx145_0); (try rw [show ((0 : Int)).toNat = 0 from rfl] at hx145_1); (try rw [show 0 * 6 = 0 from rfl] at hx145_1); (try rw [Addr.add_zero'] at hx145_1); (try rw [show ((0 : Int)).toNat = 0 from rfl] at hx145_2); (try rw [show 0 * 6 = 0 from rfl] at hx145_2); (try rw [Addr.add_zero'] at hx145_2); (try rw [show ((0 : Int)).toNat = 0 from rfl] at hx145_3); (try rw [show 0 * 6 = 0 from rfl] at hx145_3); (try rw [Addr.add_zero'] at hx145_3); (try rw [show ((0 : Int)).toNat = 0 from rfl] at hx145_4); (try rw [show 0 * 6 = 0 from rfl] at hx145_4); (try rw [Addr.add_zero'] at hx145_4); (try rw [show ((0 : Int)).toNat = 0 from rfl] at hx145_5); (try rw [show 0 * 6 = 0 from rfl] at hx145_5); (try rw [Addr.add_zero'] at hx145_5); have HR145_1 := Aside0.mk hi145_1; have HC145_1 := Aside0.mk hl145_1; clear hi145_1 hl145_1; replace p145 := eq_true p145; replace q145 := eq_true q145; have ea_ := Option.some.inj (hx141_1.symm.trans hx145_1); injection ea_ with ea_ en_ ec_; subst ea_; subst ec_; clear en_) | (go_at_call 115; (with_reducible refine (spec_l02Areas.calls k _ _ ((rd_T49 l0 0).f1) true _ ?side1 ?side2 A5.out).mono ?_); (case side1 => repeat (first | exact HR145_1.out | (with_reducible refine Kd.C_alloc ?_ _) | (with_reducible refine Kd.C_drewN ?_ _) | (with_reducible refine Kd.C_drew ?_))); (case side2 => exact HC145_1.out); rintro e w' ⟨rfl, ⟨nd, rfl⟩⟩; have p147 : 0 ≤ (0 : Int) := (by omega); have q147 : 0 < (l0.length : Int) := of_decide_eq_true (by first | (with_reducible assumption) | assumption); obtain ⟨ad147, A147_1, c147_1, e147, hx147_0, hx147_1, hx147_2, hx147_3, hx147_4, hx147_5, hl147_1, hi147_1⟩ := at_T49 HR0.out 0 p147 q147; obtain rfl : ad141 = ad147 := (by injection e147); have qi147 : (0 < l0.length) = True := eq_true (by omega); (try rw [show ((0 : Int)).toNat = 0 from rfl] at hx147_0); (try rw [show 0 * 6 = 0 from rfl] at hx147_0); (try rw [Addr.add_zero'] at hx147_0); (try rw [show ((0 : Int)).toNat = 0 from rfl] at hx147_1); (try rw [show 0 * 6 = 0 from rfl] at hx147_1); (try rw [Addr.add_zero'] at hx147_1); (try rw [show ((0 : Int)).toNat = 0 from rfl] at hx147_2); (try rw [show 0 * 6 = 0 from rfl] at hx147_2); (try rw [Addr.add_zero'] at hx147_2); (try rw [show ((0 : Int)).toNat = 0 from rfl] at hx147_3); (try rw [show 0 * 6 = 0 from rfl] at hx147_3); (try rw [Addr.add_zero'] at hx147_3); (try rw [show ((0 : Int)).toNat = 0 from rfl] at hx147_4); (try rw [show 0 * 6 = 0 from rfl] at hx147_4); (try rw [Addr.add_zero'] at hx147_4); (try rw [show ((0 : Int)).toNat = 0 from rfl] at hx147_5); (try rw [show 0 * 6 = 0 from rfl] at hx147_5); (try rw [Addr.add_zero'] at hx147_5); have HR147_1 := Aside0.mk hi147_1; have HC147_1 := Aside0.mk hl147_1; clear hi147_1 hl147_1; replace p147 := eq_true p147; replace q147 := eq_true q147; have ea_ := Option.some.inj (hx141_1.symm.trans hx147_1); injection ea_ with ea_ en_ ec_; subst ea_; subst ec_; clear en_; have p148 : 0 ≤ (0 : Int) := (by omega); have q148 : 0 < (l0.length : Int) := of_decide_eq_true (by first | (with_reducible assumption) | assumption); obtain ⟨ad148, A148_1, c148_1, e148, hx148_0, hx148_1, hx148_2, hx148_3, hx148_4, hx148_5, hl148_1, hi148_1⟩ := at_T49 HR0.out 0 p148 q148; obtain rfl : ad141 = ad148 := (by injection e148); have qi148 : (0 < l0.length) = True := eq_true (by omega); (try rw [show ((0 : Int)).toNat = 0 from rfl] at hx148_0); (try rw [show 0 * 6 = 0 from rfl] at hx148_0); (try rw [Addr.add_zero'] at hx148_0); (try rw [show ((0 : Int)).toNat = 0 from rfl] at hx148_1); (try rw [show 0 * 6 = 0 from rfl] at hx148_1); (try rw [Addr.add_zero'] at hx148_1); (try rw [show ((0 : Int)).toNat = 0 from rfl] at hx148_2); (try rw [show 0 * 6 = 0 from rfl] at hx148_2); (try rw [Addr.add_zero'] at hx148_2); (try rw [show ((0 : Int)).toNat = 0 from rfl] at hx148_3); (try rw [show 0 * 6 = 0 from rfl] at hx148_3); (try rw [Addr.add_zero'] at hx148_3); (try rw [show ((0 : Int)).toNat = 0 from rfl] at hx148_4); (try rw [show 0 * 6 = 0 from rfl] at hx148_4); (try rw [Addr.add_zero'] at hx148_4); (try rw [show ((0 : Int)).toNat = 0 from rfl] at hx148_5); (try rw [show 0 * 6 = 0 from rfl] at hx148_5); (try rw [Addr.add_zero'] at hx148_5); have HR148_1 := Aside0.mk hi148_1; have HC148_1 := Aside0.mk hl148_1; clear hi148_1 hl148_1; replace p148 := eq_true p148; replace q148 := eq_true q148; have ea_ := Option.some.inj (hx141_1.symm.trans hx148_1); injection ea_ with ea_ en_ ec_; subst ea_; subst ec_; clear en_) | (go_at_call 43; (with_reducible refine (spec_l02Above.calls ((rd_T49 l0 0).f2) true _ A7.out).mono ?_); rintro e w' ⟨rfl, ⟨nd, rfl⟩⟩; have p150 : 0 ≤ (0 : Int) := (by omega); have q150 : 0 < (l0.length : Int) := of_decide_eq_true (by first | (with_reducible assumption) | assumption); obtain ⟨ad150, A150_1, c150_1, e150, hx150_0, hx150_1, hx150_2, hx150_3, hx150_4, hx150_5, hl150_1, hi150_1⟩ := at_T49 HR0.out 0 p150 q150; obtain rfl : ad141 = ad150 := (by injection e150); have qi150 : (0 < l0.length) = True := eq_true (by omega); (try rw [show ((0 : Int)).toNat = 0 from rfl] at hx150_0); (try rw [show 0 * 6 = 0 from rfl] at hx150_0); (try rw [Addr.add_zero'] at hx150_0); (try rw [show ((0 : Int)).toNat = 0 from rfl] at hx150_1); (try rw [show 0 * 6 = 0 from rfl] at hx150_1); (try rw [Addr.add_zero'] at hx150_1); (try rw [show ((0 : Int)).toNat = 0 from rfl] at hx150_2); (try rw [show 0 * 6 = 0 from rfl] at hx150_2); (try rw [Addr.add_zero'] at hx150_2); (try rw [show ((0 : Int)).toNat = 0 from rfl] at hx150_3); (try rw [show 0 * 6 = 0 from rfl] at hx150_3); (try rw [Addr.add_zero'] at hx150_3); (try rw [show ((0 : Int)).toNat = 0 from rfl] at hx150_4); (try rw [show 0 * 6 = 0 from rfl] at hx150_4); (try rw [Addr.add_zero'] at hx150_4); (try rw [show ((0 : Int)).toNat = 0 from rfl] at hx150_5); (try rw [show 0 * 6 = 0 from rfl] at hx150_5); (try rw [Addr.add_zero'] at hx150_5); have HR150_1 := Aside0.mk hi150_1; have HC150_1 := Aside0.mk hl150_1; clear hi150_1 hl150_1; replace p150 := eq_true p150; replace q150 := eq_true q150; have ea_ := Option.some.inj (hx141_1.symm.trans hx150_1); injection ea_ with ea_ en_ ec_; subst ea_; subst ec_; clear en_; have p151 : 0 ≤ (0 : Int) := (by omega); have q151 : 0 < (l0.length : Int) := of_decide_eq_true (by first | (with_reducible assumption) | assumption); obtain ⟨ad151, A151_1, c151_1, e151, hx151_0, hx151_1, hx151_2, hx151_3, hx151_4, hx151_5, hl151_1, hi151_1⟩ := at_T49 HR0.out 0 p151 q151; obtain rfl : ad141 = ad151 := (by injection e151); have qi151 : (0 < l0.length) = True := eq_true (by omega); (try rw [show ((0 : Int)).toNat = 0 from rfl] at hx151_0); (try rw [show 0 * 6 = 0 from rfl] at hx151_0); (try rw [Addr.add_zero'] at hx151_0); (try rw [show ((0 : Int)).toNat = 0 from rfl] at hx151_1); (try rw [show 0 * 6 = 0 from rfl] at hx151_1); (try rw [Addr.add_zero'] at hx151_1); (try rw [show ((0 : Int)).toNat = 0 from rfl] at hx151_2); (try rw [show 0 * 6 = 0 from rfl] at hx151_2); (try rw [Addr.add_zero'] at hx151_2); (try rw [show ((0 : Int)).toNat = 0 from rfl] at hx151_3); (try rw [show 0 * 6 = 0 from rfl] at hx151_3); (try rw [Addr.add_zero'] at hx151_3); (try rw [show ((0 : Int)).toNat = 0 from rfl] at hx151_4); (try rw [show 0 * 6 = 0 from rfl] at hx151_4); (try rw [Addr.add_zero'] at hx151_4); (try rw [show ((0 : Int)).toNat = 0 from rfl] at hx151_5); (try rw [show 0 * 6 = 0 from rfl] at hx151_5); (try rw [Addr.add_zero'] at hx151_5); have HR151_1 := Aside0.mk hi151_1; have HC151_1 := Aside0.mk hl151_1; clear hi151_1 hl151_1; replace p151 := eq_true p151; replace q151 := eq_true q151; have ea_ := Option.some.inj (hx141_1.symm.trans hx151_1); injection ea_ with ea_ en_ ec_; subst ea_; subst ec_; clear en_) | (go_at_call 42; (with_reducible refine (spec_l02Least.calls ((rd_T49 l0 0).f3) false _ A9.out).mono ?_); rintro e w' ⟨rfl, ⟨nd, rfl⟩⟩))
      go_ret
      exact ⟨by first | rfl | (simp; done) | (simp [*]; done), by repeat (first | exact Drawn0.refl _ | apply Drawn0.step)⟩
    ·replace c8 := Bool.eq_false_iff.mpr c8
     subst c8
     have H1 : (some false) = some r := by rw [if_neg (show ¬ (false = true) by decide)] at H; exact H
     clear H
     have H := H1
     clear H1
     obtain rfl := Option.some.inj H
     have p141 : 0 ≤ (0 : Int) := (by omega)
     have q141 : 0 < (l0.length : Int) := of_decide_eq_true (by first | (with_reducible assumption) | assumption)
     obtain ⟨ad141, A141_1, c141_1, e141, hx141_0, hx141_1, hx141_2, hx141_3, hx141_4, hx141_5, hl141_1, hi141_1⟩ := at_T49 HR0.out 0 p141 q141
     cases e141
     have qi141 : (0 < l0.length) = True := eq_true (by omega)
     (try rw [show ((0 : Int)).toNat = 0 from rfl] at hx141_0)
     (try rw [show 0 * 6 = 0 from rfl] at hx141_0)
     (try rw [Addr.add_zero'] at hx141_0)
     (try rw [show ((0 : Int)).toNat = 0 from rfl] at hx141_1)
     (try rw [show 0 * 6 = 0 from rfl] at hx141_1)
     (try rw [Addr.add_zero'] at hx141_1)
     (try rw [show ((0 : Int)).toNat = 0 from rfl] at hx141_2)
     (try rw [show 0 * 6 = 0 from rfl] at hx141_2)
     (try rw [Addr.add_zero'] at hx141_2)
     (try rw [show ((0 : Int)).toNat = 0 from rfl] at hx141_3)
     (try rw [show 0 * 6 = 0 from rfl] at hx141_3)
     (try rw [Addr.add_zero'] at hx141_3)
     (try rw [show ((0 : Int)).toNat = 0 from rfl] at hx141_4)
     (try rw [show 0 * 6 = 0 from rfl] at hx141_4)
     (try rw [Addr.add_zero'] at hx141_4)
     (try rw [show ((0 : Int)).toNat = 0 from rfl] at hx141_5)
     (try rw [show 0 * 6 = 0 from rfl] at hx141_5)
     (try rw [Addr.add_zero'] at hx141_5)
     have HR141_1 := Aside0.mk hi141_1
     have HC141_1 := Aside0.mk hl141_1
     clear hi141_1 hl141_1
     replace p141 := eq_true p141
     replace q141 := eq_true q141
     have p142 : 0 ≤ (0 : Int) := (by omega)
     have q142 : 0 < (l0.length : Int) := of_decide_eq_true (by first | (with_reducible assumption) | assumption)
     obtain ⟨ad142, A142_1, c142_1, e142, hx142_0, hx142_1, hx142_2, hx142_3, hx142_4, hx142_5, hl142_1, hi142_1⟩ := at_T49 HR0.out 0 p142 q142
     obtain rfl : ad141 = ad142 := (by injection e142)
     have qi142 : (0 < l0.length) = True := eq_true (by omega)
     (try rw [show ((0 : Int)).toNat = 0 from rfl] at hx142_0)
     (try rw [show 0 * 6 = 0 from rfl] at hx142_0)
     (try rw [Addr.add_zero'] at hx142_0)
     (try rw [show ((0 : Int)).toNat = 0 from rfl] at hx142_1)
     (try rw [show 0 * 6 = 0 from rfl] at hx142_1)
     (try rw [Addr.add_zero'] at hx142_1)
     (try rw [show ((0 : Int)).toNat = 0 from rfl] at hx142_2)
     (try rw [show 0 * 6 = 0 from rfl] at hx142_2)
     (try rw [Addr.add_zero'] at hx142_2)
     (try rw [show ((0 : Int)).toNat = 0 from rfl] at hx142_3)
     (try rw [show 0 * 6 = 0 from rfl] at hx142_3)
     (try rw [Addr.add_zero'] at hx142_3)
     (try rw [show ((0 : Int)).toNat = 0 from rfl] at hx142_4)
     (try rw [show 0 * 6 = 0 from rfl] at hx142_4)
     (try rw [Addr.add_zero'] at hx142_4)
     (try rw [show ((0 : Int)).toNat = 0 from rfl] at hx142_5)
     (try rw [show 0 * 6 = 0 from rfl] at hx142_5)
     (try rw [Addr.add_zero'] at hx142_5)
     have HR142_1 := Aside0.mk hi142_1
     have HC142_1 := Aside0.mk hl142_1
     clear hi142_1 hl142_1
     replace p142 := eq_true p142
     replace q142 := eq_true q142
     have ea_ := Option.some.inj (hx141_1.symm.trans hx142_1)
     injection ea_ with ea_ en_ ec_
     subst ea_
     subst ec_
     clear en_
     go_enter Try.func87, Try.ntmps87
     go_wp2_with (first | ((with_reducible refine gate_callee (f := 114) rfl ?_); refine goesL_ (some 7) rfl rfl Try.func114 (by kernel_rfl) rfl #[.string ((rd_T49 l0 0).f0)] rfl (by (try simp only [List.map_toArray, List.map_cons, List.map_nil]); first | done | rfl | (simp only [List.length_drop, List.length_take]; rfl)) ?_; (with_reducible refine (spec_l06Name.calls k ((rd_T49 l0 0).f0) true _ A3.out).mono ?_); rintro e w' ⟨rfl, ⟨nd, rfl⟩⟩; refine ⟨_, rfl, ?_⟩; have p144 : 0 ≤ (0 : Int) := (by omega); have q144 : 0 < (l0.length : Int) := of_decide_eq_true (by first | (with_reducible assumption) | assumption); obtain ⟨ad144, A144_1, c144_1, e144, hx144_0, hx144_1, hx144_2, hx144_3, hx144_4, hx144_5, hl144_1, hi144_1⟩ := at_T49 HR0.out 0 p144 q144; obtain rfl : ad141 = ad144 := (by injection e144); have qi144 : (0 < l0.length) = True := eq_true (by omega); (try rw [show ((0 : Int)).toNat = 0 from rfl] at hx144_0); (try rw [show 0 * 6 = 0 from rfl] at hx144_0); (try rw [Addr.add_zero'] at hx144_0); (try rw [show ((0 : Int)).toNat = 0 from rfl] at hx144_1); (try rw [show 0 * 6 = 0 from rfl] at hx144_1); (try rw [Addr.add_zero'] at hx144_1); (try rw [show ((0 : Int)).toNat = 0 from rfl] at hx144_2); (try rw [show 0 * 6 = 0 from rfl] at hx144_2); (try rw [Addr.add_zero'] at hx144_2); (try rw [show ((0 : Int)).toNat = 0 from rfl] at hx144_3); (try rw [show 0 * 6 = 0 from rfl] at hx144_3); (try rw [Addr.add_zero'] at hx144_3); (try rw [show ((0 : Int)).toNat = 0 from rfl] at hx144_4); (try rw [show 0 * 6 = 0 from rfl] at hx144_4); (try rw [Addr.add_zero'] at hx144_4); (try rw [show ((0 : Int)).toNat = 0 from rfl] at hx144_5); (try rw [show 0 * 6 = 0 from rfl] at hx144_5); (try rw [Addr.add_zero'] at hx144_5); have HR144_1 := Aside0.mk hi144_1; have HC144_1 := Aside0.mk hl144_1; clear hi144_1 hl144_1; replace p144 := eq_true p144; replace q144 := eq_true q144; have ea_ := Option.some.inj (hx141_1.symm.trans hx144_1); injection ea_ with ea_ en_ ec_; subst ea_; subst ec_; clear en_; have p145 : 0 ≤ (0 : Int) := (by omega); have q145 : 0 < (l0.length : Int) := of_decide_eq_true (by first | (with_reducible assumption) | assumption); obtain ⟨ad145, A145_1, c145_1, e145, hx145_0, hx145_1, hx145_2, hx145_3, hx145_4, hx145_5, hl145_1, hi145_1⟩ := at_T49 HR0.out 0 p145 q145; obtain rfl : ad141 = ad145 := (by injection e145); have qi145 : (0 < l0.length) = True := eq_true (by omega); (try rw [show ((0 : Int)).toNat = 0 from rfl] at hx145_0); (try rw [show 0 * 6 = 0 from rfl] at hx145_0); (try rw [Addr.add_zero'] at hx145_0); (try rw [show ((0 : Int)).toNat = 0 from rfl] at hx145_1); (try rw [show 0 * 6 = 0 from rfl] at hx145_1); (try rw [Addr.add_zero'] at hx145_1); (try rw [show ((0 : Int)).toNat = 0 from rfl] at hx145_2); (try rw [show 0 * 6 = 0 from rfl] at hx145_2); (try rw [Addr.add_zero'] at hx145_2); (try rw [show ((0 : Int)).toNat = 0 from rfl] at hx145_3); (try rw [show 0 * 6 = 0 from rfl] at hx145_3); (try rw [Addr.add_zero'] at hx145_3); (try rw [show ((0 : Int)).toNat = 0 from rfl] at hx145_4); (try rw [show 0 * 6 = 0 from rfl] at hx145_4); (try rw [Addr.add_zero'] at hx145_4); (try rw [show ((0 : Int)).toNat = 0 from rfl] at hx145_5); (try rw [show 0 * 6 = 0 from rfl] at hx145_5); (try rw [Addr.add_zero'] at hx145_5); have HR145_1 := Aside0.mk hi145_1; have HC145_1 := Aside0.mk hl145_1; clear hi145_1 hl145_1; replace p145 := eq_true p145; replace q145 := eq_true q145; have ea_ := Option.some.inj (hx141_1.symm.trans hx145_1); injection ea_ with ea_ en_ ec_; subst ea_; subst ec_; clear en_) | (go_at_call 115; (with_reducible refine (spec_l02Areas.calls k _ _ ((rd_T49 l0 0).f1) true _ ?side1 ?side2 A5.out).mono ?_); (case side1 => repeat (first | exact HR145_1.out | (with_reducible refine Kd.C_alloc ?_ _) | (with_reducible refine Kd.C_drewN ?_ _) | (with_reducible refine Kd.C_drew ?_))); (case side2 => exact HC145_1.out); rintro e w' ⟨rfl, ⟨nd, rfl⟩⟩; have p147 : 0 ≤ (0 : Int) := (by omega); have q147 : 0 < (l0.length : Int) := of_decide_eq_true (by first | (with_reducible assumption) | assumption); obtain ⟨ad147, A147_1, c147_1, e147, hx147_0, hx147_1, hx147_2, hx147_3, hx147_4, hx147_5, hl147_1, hi147_1⟩ := at_T49 HR0.out 0 p147 q147; obtain rfl : ad141 = ad147 := (by injection e147); have qi147 : (0 < l0.length) = True := eq_true (by omega); (try rw [show ((0 : Int)).toNat = 0 from rfl] at hx147_0); (try rw [show 0 * 6 = 0 from rfl] at hx147_0); (try rw [Addr.add_zero'] at hx147_0); (try rw [show ((0 : Int)).toNat = 0 from rfl] at hx147_1); (try rw [show 0 * 6 = 0 from rfl] at hx147_1); (try rw [Addr.add_zero'] at hx147_1); (try rw [show ((0 : Int)).toNat = 0 from rfl] at hx147_2); (try rw [show 0 * 6 = 0 from rfl] at hx147_2); (try rw [Addr.add_zero'] at hx147_2); (try rw [show ((0 : Int)).toNat = 0 from rfl] at hx147_3); (try rw [show 0 * 6 = 0 from rfl] at hx147_3); (try rw [Addr.add_zero'] at hx147_3); (try rw [show ((0 : Int)).toNat = 0 from rfl] at hx147_4); (try rw [show 0 * 6 = 0 from rfl] at hx147_4); (try rw [Addr.add_zero'] at hx147_4); (try rw [show ((0 : Int)).toNat = 0 from rfl] at hx147_5); (try rw [show 0 * 6 = 0 from rfl] at hx147_5); (try rw [Addr.add_zero'] at hx147_5); have HR147_1 := Aside0.mk hi147_1; have HC147_1 := Aside0.mk hl147_1; clear hi147_1 hl147_1; replace p147 := eq_true p147; replace q147 := eq_true q147; have ea_ := Option.some.inj (hx141_1.symm.trans hx147_1); injection ea_ with ea_ en_ ec_; subst ea_; subst ec_; clear en_; have p148 : 0 ≤ (0 : Int) := (by omega); have q148 : 0 < (l0.length : Int) := of_decide_eq_true (by first | (with_reducible assumption) | assumption); obtain ⟨ad148, A148_1, c148_1, e148, hx148_0, hx148_1, hx148_2, hx148_3, hx148_4, hx148_5, hl148_1, hi148_1⟩ := at_T49 HR0.out 0 p148 q148; obtain rfl : ad141 = ad148 := (by injection e148); have qi148 : (0 < l0.length) = True := eq_true (by omega); (try rw [show ((0 : Int)).toNat = 0 from rfl] at hx148_0); (try rw [show 0 * 6 = 0 from rfl] at hx148_0); (try rw [Addr.add_zero'] at hx148_0); (try rw [show ((0 : Int)).toNat = 0 from rfl] at hx148_1); (try rw [show 0 * 6 = 0 from rfl] at hx148_1); (try rw [Addr.add_zero'] at hx148_1); (try rw [show ((0 : Int)).toNat = 0 from rfl] at hx148_2); (try rw [show 0 * 6 = 0 from rfl] at hx148_2); (try rw [Addr.add_zero'] at hx148_2); (try rw [show ((0 : Int)).toNat = 0 from rfl] at hx148_3); (try rw [show 0 * 6 = 0 from rfl] at hx148_3); (try rw [Addr.add_zero'] at hx148_3); (try rw [show ((0 : Int)).toNat = 0 from rfl] at hx148_4); (try rw [show 0 * 6 = 0 from rfl] at hx148_4); (try rw [Addr.add_zero'] at hx148_4); (try rw [show ((0 : Int)).toNat = 0 from rfl] at hx148_5); (try rw [show 0 * 6 = 0 from rfl] at hx148_5); (try rw [Addr.add_zero'] at hx148_5); have HR148_1 := Aside0.mk hi148_1; have HC148_1 := Aside0.mk hl148_1; clear hi148_1 hl148_1; replace p148 := eq_true p148; replace q148 := eq_true q148; have ea_ := Option.some.inj (hx141_1.symm.trans hx148_1); injection ea_ with ea_ en_ ec_; subst ea_; subst ec_; clear en_) | (go_at_call 43; (with_reducible refine (spec_l02Above.calls ((rd_T49 l0 0).f2) false _ A7.out).mono ?_); rintro e w' ⟨rfl, ⟨nd, rfl⟩⟩))
     go_ret
     exact ⟨by first | rfl | (simp; done) | (simp [*]; done), by repeat (first | exact Drawn0.refl _ | apply Drawn0.step)⟩
   ·replace c6 := Bool.eq_false_iff.mpr c6
    subst c6
    have H1 : (some false) = some r := by rw [if_neg (show ¬ (false = true) by decide)] at H; exact H
    clear H
    have H := H1
    clear H1
    obtain rfl := Option.some.inj H
    have p141 : 0 ≤ (0 : Int) := (by omega)
    have q141 : 0 < (l0.length : Int) := of_decide_eq_true (by first | (with_reducible assumption) | assumption)
    obtain ⟨ad141, A141_1, c141_1, e141, hx141_0, hx141_1, hx141_2, hx141_3, hx141_4, hx141_5, hl141_1, hi141_1⟩ := at_T49 HR0.out 0 p141 q141
    cases e141
    have qi141 : (0 < l0.length) = True := eq_true (by omega)
    (try rw [show ((0 : Int)).toNat = 0 from rfl] at hx141_0)
    (try rw [show 0 * 6 = 0 from rfl] at hx141_0)
    (try rw [Addr.add_zero'] at hx141_0)
    (try rw [show ((0 : Int)).toNat = 0 from rfl] at hx141_1)
    (try rw [show 0 * 6 = 0 from rfl] at hx141_1)
    (try rw [Addr.add_zero'] at hx141_1)
    (try rw [show ((0 : Int)).toNat = 0 from rfl] at hx141_2)
    (try rw [show 0 * 6 = 0 from rfl] at hx141_2)
    (try rw [Addr.add_zero'] at hx141_2)
    (try rw [show ((0 : Int)).toNat = 0 from rfl] at hx141_3)
    (try rw [show 0 * 6 = 0 from rfl] at hx141_3)
    (try rw [Addr.add_zero'] at hx141_3)
    (try rw [show ((0 : Int)).toNat = 0 from rfl] at hx141_4)
    (try rw [show 0 * 6 = 0 from rfl] at hx141_4)
    (try rw [Addr.add_zero'] at hx141_4)
    (try rw [show ((0 : Int)).toNat = 0 from rfl] at hx141_5)
    (try rw [show 0 * 6 = 0 from rfl] at hx141_5)
    (try rw [Addr.add_zero'] at hx141_5)
    have HR141_1 := Aside0.mk hi141_1
    have HC141_1 := Aside0.mk hl141_1
    clear hi141_1 hl141_1
    replace p141 := eq_true p141
    replace q141 := eq_true q141
    have p142 : 0 ≤ (0 : Int) := (by omega)
    have q142 : 0 < (l0.length : Int) := of_decide_eq_true (by first | (with_reducible assumption) | assumption)
    obtain ⟨ad142, A142_1, c142_1, e142, hx142_0, hx142_1, hx142_2, hx142_3, hx142_4, hx142_5, hl142_1, hi142_1⟩ := at_T49 HR0.out 0 p142 q142
    obtain rfl : ad141 = ad142 := (by injection e142)
    have qi142 : (0 < l0.length) = True := eq_true (by omega)
    (try rw [show ((0 : Int)).toNat = 0 from rfl] at hx142_0)
    (try rw [show 0 * 6 = 0 from rfl] at hx142_0)
    (try rw [Addr.add_zero'] at hx142_0)
    (try rw [show ((0 : Int)).toNat = 0 from rfl] at hx142_1)
    (try rw [show 0 * 6 = 0 from rfl] at hx142_1)
    (try rw [Addr.add_zero'] at hx142_1)
    (try rw [show ((0 : Int)).toNat = 0 from rfl] at hx142_2)
    (try rw [show 0 * 6 = 0 from rfl] at hx142_2)
    (try rw [Addr.add_zero'] at hx142_2)
    (try rw [show ((0 : Int)).toNat = 0 from rfl] at hx142_3)
    (try rw [show 0 * 6 = 0 from rfl] at hx142_3)
    (try rw [Addr.add_zero'] at hx142_3)
    (try rw [show ((0 : Int)).toNat = 0 from rfl] at hx142_4)
    (try rw [show 0 * 6 = 0 from rfl] at hx142_4)
    (try rw [Addr.add_zero'] at hx142_4)
    (try rw [show ((0 : Int)).toNat = 0 from rfl] at hx142_5)
    (try rw [show 0 * 6 = 0 from rfl] at hx142_5)
    (try rw [Addr.add_zero'] at hx142_5)
    have HR142_1 := Aside0.mk hi142_1
    have HC142_1 := Aside0.mk hl142_1
    clear hi142_1 hl142_1
    replace p142 := eq_true p142
    replace q142 := eq_true q142
    have ea_ := Option.some.inj (hx141_1.symm.trans hx142_1)
    injection ea_ with ea_ en_ ec_
    subst ea_
    subst ec_
    clear en_
    go_enter Try.func87, Try.ntmps87
    go_wp2_with (first | ((with_reducible refine gate_callee (f := 114) rfl ?_); refine goesL_ (some 7) rfl rfl Try.func114 (by kernel_rfl) rfl #[.string ((rd_T49 l0 0).f0)] rfl (by (try simp only [List.map_toArray, List.map_cons, List.map_nil]); first | done | rfl | (simp only [List.length_drop, List.length_take]; rfl)) ?_; (with_reducible refine (spec_l06Name.calls k ((rd_T49 l0 0).f0) true _ A3.out).mono ?_); rintro e w' ⟨rfl, ⟨nd, rfl⟩⟩; refine ⟨_, rfl, ?_⟩; have p144 : 0 ≤ (0 : Int) := (by omega); have q144 : 0 < (l0.length : Int) := of_decide_eq_true (by first | (with_reducible assumption) | assumption); obtain ⟨ad144, A144_1, c144_1, e144, hx144_0, hx144_1, hx144_2, hx144_3, hx144_4, hx144_5, hl144_1, hi144_1⟩ := at_T49 HR0.out 0 p144 q144; obtain rfl : ad141 = ad144 := (by injection e144); have qi144 : (0 < l0.length) = True := eq_true (by omega); (try rw [show ((0 : Int)).toNat = 0 from rfl] at hx144_0); (try rw [show 0 * 6 = 0 from rfl] at hx144_0); (try rw [Addr.add_zero'] at hx144_0); (try rw [show ((0 : Int)).toNat = 0 from rfl] at hx144_1); (try rw [show 0 * 6 = 0 from rfl] at hx144_1); (try rw [Addr.add_zero'] at hx144_1); (try rw [show ((0 : Int)).toNat = 0 from rfl] at hx144_2); (try rw [show 0 * 6 = 0 from rfl] at hx144_2); (try rw [Addr.add_zero'] at hx144_2); (try rw [show ((0 : Int)).toNat = 0 from rfl] at hx144_3); (try rw [show 0 * 6 = 0 from rfl] at hx144_3); (try rw [Addr.add_zero'] at hx144_3); (try rw [show ((0 : Int)).toNat = 0 from rfl] at hx144_4); (try rw [show 0 * 6 = 0 from rfl] at hx144_4); (try rw [Addr.add_zero'] at hx144_4); (try rw [show ((0 : Int)).toNat = 0 from rfl] at hx144_5); (try rw [show 0 * 6 = 0 from rfl] at hx144_5); (try rw [Addr.add_zero'] at hx144_5); have HR144_1 := Aside0.mk hi144_1; have HC144_1 := Aside0.mk hl144_1; clear hi144_1 hl144_1; replace p144 := eq_true p144; replace q144 := eq_true q144; have ea_ := Option.some.inj (hx141_1.symm.trans hx144_1); injection ea_ with ea_ en_ ec_; subst ea_; subst ec_; clear en_; have p145 : 0 ≤ (0 : Int) := (by omega); have q145 : 0 < (l0.length : Int) := of_decide_eq_true (by first | (with_reducible assumption) | assumption); obtain ⟨ad145, A145_1, c145_1, e145, hx145_0, hx145_1, hx145_2, hx145_3, hx145_4, hx145_5, hl145_1, hi145_1⟩ := at_T49 HR0.out 0 p145 q145; obtain rfl : ad141 = ad145 := (by injection e145); have qi145 : (0 < l0.length) = True := eq_true (by omega); (try rw [show ((0 : Int)).toNat = 0 from rfl] at hx145_0); (try rw [show 0 * 6 = 0 from rfl] at hx145_0); (try rw [Addr.add_zero'] at hx145_0); (try rw [show ((0 : Int)).toNat = 0 from rfl] at hx145_1); (try rw [show 0 * 6 = 0 from rfl] at hx145_1); (try rw [Addr.add_zero'] at hx145_1); (try rw [show ((0 : Int)).toNat = 0 from rfl] at hx145_2); (try rw [show 0 * 6 = 0 from rfl] at hx145_2); (try rw [Addr.add_zero'] at hx145_2); (try rw [show ((0 : Int)).toNat = 0 from rfl] at hx145_3); (try rw [show 0 * 6 = 0 from rfl] at hx145_3); (try rw [Addr.add_zero'] at hx145_3); (try rw [show ((0 : Int)).toNat = 0 from rfl] at hx145_4); (try rw [show 0 * 6 = 0 from rfl] at hx145_4); (try rw [Addr.add_zero'] at hx145_4); (try rw [show ((0 : Int)).toNat = 0 from rfl] at hx145_5); (try rw [show 0 * 6 = 0 from rfl] at hx145_5); (try rw [Addr.add_zero'] at hx145_5); have HR145_1 := Aside0.mk hi145_1; have HC145_1 := Aside0.mk hl145_1; clear hi145_1 hl145_1; replace p145 := eq_true p145; replace q145 := eq_true q145; have ea_ := Option.some.inj (hx141_1.symm.trans hx145_1); injection ea_ with ea_ en_ ec_; subst ea_; subst ec_; clear en_) | (go_at_call 115; (with_reducible refine (spec_l02Areas.calls k _ _ ((rd_T49 l0 0).f1) false _ ?side1 ?side2 A5.out).mono ?_); (case side1 => repeat (first | exact HR145_1.out | (with_reducible refine Kd.C_alloc ?_ _) | (with_reducible refine Kd.C_drewN ?_ _) | (with_reducible refine Kd.C_drew ?_))); (case side2 => exact HC145_1.out); rintro e w' ⟨rfl, ⟨nd, rfl⟩⟩))
    go_ret
    exact ⟨by first | rfl | (simp; done) | (simp [*]; done), by repeat (first | exact Drawn0.refl _ | apply Drawn0.step)⟩
  ·replace c4 := Bool.eq_false_iff.mpr c4
   subst c4
   have H1 : (some false) = some r := by rw [if_neg (show ¬ (false = true) by decide)] at H; exact H
   clear H
   have H := H1
   clear H1
   obtain rfl := Option.some.inj H
   have p141 : 0 ≤ (0 : Int) := (by omega)
   have q141 : 0 < (l0.length : Int) := of_decide_eq_true (by first | (with_reducible assumption) | assumption)
   obtain ⟨ad141, A141_1, c141_1, e141, hx141_0, hx141_1, hx141_2, hx141_3, hx141_4, hx141_5, hl141_1, hi141_1⟩ := at_T49 HR0.out 0 p141 q141
   cases e141
   have qi141 : (0 < l0.length) = True := eq_true (by omega)
   (try rw [show ((0 : Int)).toNat = 0 from rfl] at hx141_0)
   (try rw [show 0 * 6 = 0 from rfl] at hx141_0)
   (try rw [Addr.add_zero'] at hx141_0)
   (try rw [show ((0 : Int)).toNat = 0 from rfl] at hx141_1)
   (try rw [show 0 * 6 = 0 from rfl] at hx141_1)
   (try rw [Addr.add_zero'] at hx141_1)
   (try rw [show ((0 : Int)).toNat = 0 from rfl] at hx141_2)
   (try rw [show 0 * 6 = 0 from rfl] at hx141_2)
   (try rw [Addr.add_zero'] at hx141_2)
   (try rw [show ((0 : Int)).toNat = 0 from rfl] at hx141_3)
   (try rw [show 0 * 6 = 0 from rfl] at hx141_3)
   (try rw [Addr.add_zero'] at hx141_3)
   (try rw [show ((0 : Int)).toNat = 0 from rfl] at hx141_4)
   (try rw [show 0 * 6 = 0 from rfl] at hx141_4)
   (try rw [Addr.add_zero'] at hx141_4)
   (try rw [show ((0 : Int)).toNat = 0 from rfl] at hx141_5)
   (try rw [show 0 * 6 = 0 from rfl] at hx141_5)
   (try rw [Addr.add_zero'] at hx141_5)
   have HR141_1 := Aside0.mk hi141_1
   have HC141_1 := Aside0.mk hl141_1
   clear hi141_1 hl141_1
   replace p141 := eq_true p141
   replace q141 := eq_true q141
   have p142 : 0 ≤ (0 : Int) := (by omega)
   have q142 : 0 < (l0.length : Int) := of_decide_eq_true (by first | (with_reducible assumption) | assumption)
   obtain ⟨ad142, A142_1, c142_1, e142, hx142_0, hx142_1, hx142_2, hx142_3, hx142_4, hx142_5, hl142_1, hi142_1⟩ := at_T49 HR0.out 0 p142 q142
   obtain rfl : ad141 = ad142 := (by injection e142)
   have qi142 : (0 < l0.length) = True := eq_true (by omega)
   (try rw [show ((0 : Int)).toNat = 0 from rfl] at hx142_0)
   (try rw [show 0 * 6 = 0 from rfl] at hx142_0)
   (try rw [Addr.add_zero'] at hx142_0)
   (try rw [show ((0 : Int)).toNat = 0 from rfl] at hx142_1)
   (try rw [show 0 * 6 = 0 from rfl] at hx142_1)
   (try rw [Addr.add_zero'] at hx142_1)
   (try rw [show ((0 : Int)).toNat = 0 from rfl] at hx142_2)
   (try rw [show 0 * 6 = 0 from rfl] at hx142_2)
   (try rw [Addr.add_zero'] at hx142_2)
   (try rw [show ((0 : Int)).toNat = 0 from rfl] at hx142_3)
   (try rw [show 0 * 6 = 0 from rfl] at hx142_3)
   (try rw [Addr.add_zero'] at hx142_3)
   (try rw [show ((0 : Int)).toNat = 0 from rfl] at hx142_4)
   (try rw [show 0 * 6 = 0 from rfl] at hx142_4)
   (try rw [Addr.add_zero'] at hx142_4)
   (try rw [show ((0 : Int)).toNat = 0 from rfl] at hx142_5)
   (try rw [show 0 * 6 = 0 from rfl] at hx142_5)
   (try rw [Addr.add_zero'] at hx142_5)
   have HR142_1 := Aside0.mk hi142_1
   have HC142_1 := Aside0.mk hl142_1
   clear hi142_1 hl142_1
   replace p142 := eq_true p142
   replace q142 := eq_true q142
   have ea_ := Option.some.inj (hx141_1.symm.trans hx142_1)
   injection ea_ with ea_ en_ ec_
   subst ea_
   subst ec_
   clear en_
   go_enter Try.func87, Try.ntmps87
   go_wp2_with (first | ((with_reducible refine gate_callee (f := 114) rfl ?_); refine goesL_ (some 7) rfl rfl Try.func114 (by kernel_rfl) rfl #[.string ((rd_T49 l0 0).f0)] rfl (by (try simp only [List.map_toArray, List.map_cons, List.map_nil]); first | done | rfl | (simp only [List.length_drop, List.length_take]; rfl)) ?_; (with_reducible refine (spec_l06Name.calls k ((rd_T49 l0 0).f0) false _ A3.out).mono ?_); rintro e w' ⟨rfl, ⟨nd, rfl⟩⟩; refine ⟨_, rfl, ?_⟩))
   go_ret
   exact ⟨by first | rfl | (simp; done) | (simp [*]; done), by repeat (first | exact Drawn0.refl _ | apply Drawn0.step)⟩
 ·rw [if_neg c2] at H
  exact absurd H (by simp)
end Go.Proofs.Yteooifighndmkaa.PFnExactAddSound
