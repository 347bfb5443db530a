import Derived.Test.YtoiaojdkgagblaaPFnExactValidDeskx0
namespace Go.Proofs.Ytoiaojdkgagblaa.PFnExactValidDesk
open Go.RowKit Go.Proofs.YtoiaojdkgagblaaW.PrintWords Go.Proofs.YtoiaojdkgagblaaW.PrintLast Go.Proofs.YtoiaojdkgagblaaW.PrintMore
open Go.Proofs.YtoiaojdkgagblaaW.PrintFl
attribute [local go_sem high] binOp_feq binOp_fne binOp_fls binOp_fle binOp_fgr binOp_fge binOp_sle binOp_sgt
attribute [local go_sem] run_fopr run_fconv run_fint run_stf run_stc ext_f32bits ext_f64bits ext_f32frombits
attribute [local go_sem] max2_int min2_int max_two min_two max_three min_three max_four min_four
set_option linter.unusedVariables false
set_option linter.unusedSimpArgs false
def spec_l01Finite.f (a0 : Nat) : Option Bool := some (finB a0)
theorem spec_l01Finite.calls (a0 : Nat) (r : Bool) (w : World) (h : spec_l01Finite.f a0 = some r) :
    Calls Try.prog 77 #[.float .f32 a0] w fun e w' => e = .returned (.bool r) ∧ Drawn0 w w' := by
  obtain rfl := Option.some.inj h
  exact fin_spec a0 w
def spec_l02Above.f (a0 : Nat) : Option (Bool) := (spec_l01Finite.f a0).bind fun t182 => (if t182 = true then (some (fgr .f32 a0 0)) else (some false))
set_option maxHeartbeats 8000000 in
set_option maxRecDepth 100000 in
theorem spec_l02Above.calls (a0 : Nat) (r : Bool) (w : World) (h : spec_l02Above.f a0 = some r) :
    Calls Try.prog 146 #[.float .f32 a0] w fun e w' => e = .returned (.bool r) ∧ Drawn0 w w' := by
  have H : ((spec_l01Finite.f a0).bind fun t182 => (if t182 = true then (some (fgr .f32 a0 0)) else (some false))) = some r := h
  clear h
  replace H := Option.bind_eq_some_iff.mp H
  obtain ⟨t182, A20, H⟩ := H
  replace H : (if t182 = true then (some (fgr .f32 a0 0)) else (some false)) = some r := H
  have A2 := Aside0.mk A20
  clear A20
  by_cases c3 : t182 = true
  · subst c3
    have H1 : (some (fgr .f32 a0 0)) = some r := by rw [if_pos rfl] at H; exact H
    clear H
    have H := H1
    clear H1
    obtain rfl := Option.some.inj H
    go_enter Try.func146, Try.ntmps146
    go_wp2_with (first | ((with_reducible refine gate_callee (f := 77) rfl ?_); refine goesL_ (some 4) rfl rfl Try.func77 (by kernel_rfl) rfl #[.float .f32 a0] rfl (by (try simp only [List.map_toArray, List.map_cons, List.map_nil]); first | done | rfl | (simp only [List.length_drop, List.length_take]; rfl)) ?_; (with_reducible refine (spec_l01Finite.calls a0 true _ A2.out).mono ?_); rintro e w' ⟨rfl, ⟨nd, rfl⟩⟩; refine ⟨_, rfl, ?_⟩))
    go_ret
    exact ⟨by first | rfl | (simp; done) | (simp [*]; done), by repeat (first | exact Drawn0.refl _ | apply Drawn0.step)⟩
  · replace c3 := Bool.eq_false_iff.mpr c3
    subst c3
    have H1 : (some false) = some r := by rw [if_neg (show ¬ (false = true) by decide)] at H; exact H
    clear H
    have H := H1
    clear H1
    obtain rfl := Option.some.inj H
    go_enter Try.func146, Try.ntmps146
    go_wp2_with (first | ((with_reducible refine gate_callee (f := 77) rfl ?_); refine goesL_ (some 4) rfl rfl Try.func77 (by kernel_rfl) rfl #[.float .f32 a0] rfl (by (try simp only [List.map_toArray, List.map_cons, List.map_nil]); first | done | rfl | (simp only [List.length_drop, List.length_take]; rfl)) ?_; (with_reducible refine (spec_l01Finite.calls a0 false _ A2.out).mono ?_); rintro e w' ⟨rfl, ⟨nd, rfl⟩⟩; refine ⟨_, rfl, ?_⟩))
    go_ret
    exact ⟨by first | rfl | (simp; done) | (simp [*]; done), by repeat (first | exact Drawn0.refl _ | apply Drawn0.step)⟩
def spec_l02Share.f (a0 : Nat) : Option (Bool) := if (fge .f32 a0 0) = true then (some (fle .f32 a0 1065353216)) else (some false)
set_option maxHeartbeats 8000000 in
set_option maxRecDepth 100000 in
theorem spec_l02Share.calls (a0 : Nat) (r : Bool) (w : World) (h : spec_l02Share.f a0 = some r) :
    Calls Try.prog 188 #[.float .f32 a0] w fun e w' => e = .returned (.bool r) ∧ Drawn0 w w' := by
  have H : (if (fge .f32 a0 0) = true then (some (fle .f32 a0 1065353216)) else (some false)) = some r := h
  clear h
  by_cases c2 : (fge .f32 a0 0) = true
  · rw [if_pos c2] at H
    have c2b0 : (fge .f32 a0 0) = true := c2
    clear c2
    obtain rfl := Option.some.inj H
    go_enter Try.func188, Try.ntmps188
    go_wp2
    go_ret
    exact ⟨by first | rfl | (simp; done) | (simp [*]; done), by repeat (first | exact Drawn0.refl _ | apply Drawn0.step)⟩
  · rw [if_neg c2] at H
    have c2b0 : (fge .f32 a0 0) = false := by simpa using c2
    clear c2
    obtain rfl := Option.some.inj H
    go_enter Try.func188, Try.ntmps188
    go_wp2
    go_ret
    exact ⟨by first | rfl | (simp; done) | (simp [*]; done), by repeat (first | exact Drawn0.refl _ | apply Drawn0.step)⟩
mutual
def spec_l06Name.l0 : Nat → ByteArray → Int → Option (Bool)
 | 0, _, _ => none
 | k + 1, x0, x3 => if x3 < (x0.size : Int) then (spec_l06Name.j1 k x0 x3 (decide ((x0.size : Int) ≤ 4))) else (spec_l06Name.j1 k x0 x3 false)
def spec_l06Name.j1 : Nat → ByteArray → Int → Bool → Option (Bool)
 | 0, _, _, _ => none
 | k + 1, x0, x3, x12 => if x12 = true then (if 0 ≤ x3 then (if x3 < (x0.size : Int) then (if (bt x0 x3) < 97 then (some false) else (if (bt x0 x3) > 122 then (some false) else (spec_l06Name.l0 k x0 (wrap64 (x3 + 1))))) else (none)) else (none)) else (if (x0.size : Int) ≥ 1 then (some (decide ((x0.size : Int) ≤ 4))) else (some false))
end
def spec_l06Name.f (k : Nat) (a0 : ByteArray) : Option (Bool) := spec_l06Name.l0 k a0 0
theorem spec_l06Name.mono_l : ∀ k, (∀ y0 y1, LeO (spec_l06Name.l0 k y0 y1) (spec_l06Name.l0 (k + 1) y0 y1)) ∧ (∀ y0 y1 y2, LeO (spec_l06Name.j1 k y0 y1 y2) (spec_l06Name.j1 (k + 1) y0 y1 y2))
 | 0 => ⟨fun _ _ r h => by simp [spec_l06Name.l0] at h, fun _ _ _ r h => by simp [spec_l06Name.j1] at h⟩
 | k + 1 => by
  obtain ⟨ih0, ih1⟩ := spec_l06Name.mono_l k
  refine ⟨?_, ?_⟩
  ·intro y0 y1
   unfold spec_l06Name.l0
   repeat' first
   | (with_reducible exact ih0 _ _)
   | (with_reducible exact ih1 _ _ _)
   | (with_reducible exact LeO.refl _)
   | (with_reducible exact LeO.none _)
   | (with_reducible refine LeO.ite ?_ ?_)
   | (with_reducible refine LeO.bind ?_ (fun _ => ?_))
   | exact ih0 _ _
   | exact ih1 _ _ _
   | exact LeO.none _
   | refine LeO.ite ?_ ?_
   | refine LeO.bind ?_ (fun _ => ?_)
  ·intro y0 y1 y2
   unfold spec_l06Name.j1
   repeat' first
   | (with_reducible exact ih0 _ _)
   | (with_reducible exact ih1 _ _ _)
   | (with_reducible exact LeO.refl _)
   | (with_reducible exact LeO.none _)
   | (with_reducible refine LeO.ite ?_ ?_)
   | (with_reducible refine LeO.bind ?_ (fun _ => ?_))
   | exact ih0 _ _
   | exact ih1 _ _ _
   | exact LeO.none _
   | refine LeO.ite ?_ ?_
   | refine LeO.bind ?_ (fun _ => ?_)
theorem spec_l06Name.mono : ∀ a0 k, LeO (spec_l06Name.f k a0) (spec_l06Name.f (k + 1) a0) := by
 intro a0 k
 obtain ⟨ih0, ih1⟩ := spec_l06Name.mono_l k
 unfold spec_l06Name.f
 repeat' first
   | (with_reducible exact ih0 _ _)
   | (with_reducible exact ih1 _ _ _)
   | (with_reducible exact LeO.refl _)
   | (with_reducible exact LeO.none _)
   | (with_reducible refine LeO.ite ?_ ?_)
   | (with_reducible refine LeO.bind ?_ (fun _ => ?_))
   | exact ih0 _ _
   | exact ih1 _ _ _
   | exact LeO.none _
   | refine LeO.ite ?_ ?_
   | refine LeO.bind ?_ (fun _ => ?_)
set_option maxHeartbeats 8000000 in
set_option maxRecDepth 100000 in
theorem spec_l06Name.calls (k : Nat) (a0 : ByteArray) (r : Bool) (w : World) (h : spec_l06Name.f k a0 = some r) :
  Calls Try.prog 197 #[.string a0] w fun e w' => e = .returned (.bool r) ∧ Drawn0 w w' := by
 have H : (spec_l06Name.l0 k a0 0) = some r := h
 clear h
 have H' := Aside0.mk H
 clear H
 go_enter Try.func197, Try.ntmps197
 go_wp2
 go_loopg [3] k (fun kq v3 w' => ∃ (x3_1 : Int), v3 = .int .i64 x3_1 ∧ Aside0 (spec_l06Name.l0 kq a0 x3_1 = some r) ∧ Aside0 (kq ≤ k) ∧ Drawn0 w w')
 case atStart => exact ⟨(0), (by first | rfl | (simp; done) | (simp [*]; done)), H', ⟨Nat.le_refl _⟩, by repeat (first | exact Drawn0.refl _ | apply Drawn0.step)⟩
 case round =>
  clear H'
  try clear c1
  obtain ⟨x3_1, rfl, HA, HK1, ⟨m1, rfl⟩⟩ := hrel
  cases gk with
  | zero => exact absurd HA.out (by simp [spec_l06Name.l0])
  | succ k1 =>
   have H := HA.out
   clear HA
   simp only [spec_l06Name.l0] at H
   have HC2 := Aside0.mk H
   clear H
   go_upto_region 2 with (fail)
   go_cut [12] (fun v12 wc => ∃ (kq : Nat) (x12_1 : Bool), v12 = .bool x12_1 ∧ Aside0 (spec_l06Name.j1 kq a0 x3_1 x12_1 = some r) ∧ Aside0 (kq ≤ k1) ∧ Drawn0 w wc)
   case first =>
    have H := HC2.out
    clear HC2
    by_cases c3 : x3_1 < (a0.size : Int)
    ·rw [if_pos c3] at H
     have c3b0 : decide (x3_1 < (a0.size : Int)) = true := decide_eq_true c3
     clear c3
     (first | rw [c3b0] | (simp only [i64_w, i32_w]; rw [c3b0]) | skip)
     have H' := Aside0.mk H
     clear H
     go_wp2
     go_meet
     case rel => exact ⟨_, (decide ((a0.size : Int) ≤ 4)), (by first | rfl | (simp; done) | (simp [*]; done)), H', ⟨by have := HK1.out; first | omega | exact Nat.le_refl _⟩, by repeat (first | exact Drawn0.refl _ | apply Drawn0.step)⟩
    ·rw [if_neg c3] at H
     have c3b0 : decide (x3_1 < (a0.size : Int)) = false := decide_eq_false c3
     clear c3
     (first | rw [c3b0] | (simp only [i64_w, i32_w]; rw [c3b0]) | skip)
     have H' := Aside0.mk H
     clear H
     go_wp2
     go_meet
     case rel => exact ⟨_, (false), (by first | rfl | (simp; done) | (simp [*]; done)), H', ⟨by have := HK1.out; first | omega | exact Nat.le_refl _⟩, by repeat (first | exact Drawn0.refl _ | apply Drawn0.step)⟩
   case rest =>
    clear HC2
    try clear c1
    try clear p2
    try clear c3
    try clear c3b0
    obtain ⟨kq, x12_1, rfl, HA, HJ1, ⟨mc1, rfl⟩⟩ := hcut
    cases kq with
    | zero => exact absurd HA.out (by simp [spec_l06Name.j1])
    | succ kj1 =>
     have H := HA.out
     clear HA
     simp only [spec_l06Name.j1] at H
     by_cases c4 : x12_1 = true
     ·subst c4
      have H1 : (if 0 ≤ x3_1 then (if x3_1 < (a0.size : Int) then (if (bt a0 x3_1) < 97 then (some false) else (if (bt a0 x3_1) > 122 then (some false) else (spec_l06Name.l0 kj1 a0 (wrap64 (x3_1 + 1))))) else (none)) else (none)) = some r := by rw [if_pos rfl] at H; exact H
      clear H
      have H := H1
      clear H1
      by_cases c5 : 0 ≤ x3_1
      ·rw [if_pos c5] at H
       have c5b0 : decide (0 ≤ x3_1) = true := decide_eq_true c5
       clear c5
       by_cases c6 : x3_1 < (a0.size : Int)
       ·rw [if_pos c6] at H
        have c6b0 : decide (x3_1 < (a0.size : Int)) = true := decide_eq_true c6
        clear c6
        by_cases c8 : (bt a0 x3_1) < 97
        ·rw [if_pos c8] at H
         have c8b0 : decide ((bt a0 x3_1) < 97) = true := decide_eq_true c8
         clear c8
         obtain rfl := Option.some.inj H
         have p7 : 0 ≤ (x3_1 : Int) := of_decide_eq_true (by first | (with_reducible assumption) | assumption)
         have q7 : x3_1 < (a0.size : Int) := of_decide_eq_true (by first | (with_reducible assumption) | assumption)
         have hx7 := bt_at a0 x3_1
         replace p7 := eq_true p7
         replace q7 := eq_true q7
         go_wp2
         go_ret
         exact ⟨by first | rfl | (simp; done) | (simp [*]; done), by repeat (first | exact Drawn0.refl _ | apply Drawn0.step)⟩
        ·rw [if_neg c8] at H
         have c8b0 : decide ((bt a0 x3_1) < 97) = false := decide_eq_false c8
         clear c8
         by_cases c10 : (bt a0 x3_1) > 122
         ·rw [if_pos c10] at H
          have c10b0 : decide (122 < (bt a0 x3_1)) = true := decide_eq_true c10
          clear c10
          obtain rfl := Option.some.inj H
          have p7 : 0 ≤ (x3_1 : Int) := of_decide_eq_true (by first | (with_reducible assumption) | assumption)
          have q7 : x3_1 < (a0.size : Int) := of_decide_eq_true (by first | (with_reducible assumption) | assumption)
          have hx7 := bt_at a0 x3_1
          replace p7 := eq_true p7
          replace q7 := eq_true q7
          have p9 : 0 ≤ (x3_1 : Int) := of_decide_eq_true (by first | (with_reducible assumption) | assumption)
          have q9 : x3_1 < (a0.size : Int) := of_decide_eq_true (by first | (with_reducible assumption) | assumption)
          have hx9 := bt_at a0 x3_1
          replace p9 := eq_true p9
          replace q9 := eq_true q9
          go_wp2
          go_ret
          exact ⟨by first | rfl | (simp; done) | (simp [*]; done), by repeat (first | exact Drawn0.refl _ | apply Drawn0.step)⟩
         ·rw [if_neg c10] at H
          have c10b0 : decide (122 < (bt a0 x3_1)) = false := decide_eq_false c10
          clear c10
          have H' := Aside0.mk H
          clear H
          have p7 : 0 ≤ (x3_1 : Int) := of_decide_eq_true (by first | (with_reducible assumption) | assumption)
          have q7 : x3_1 < (a0.size : Int) := of_decide_eq_true (by first | (with_reducible assumption) | assumption)
          have hx7 := bt_at a0 x3_1
          replace p7 := eq_true p7
          replace q7 := eq_true q7
          have p9 : 0 ≤ (x3_1 : Int) := of_decide_eq_true (by first | (with_reducible assumption) | assumption)
          have q9 : x3_1 < (a0.size : Int) := of_decide_eq_true (by first | (with_reducible assumption) | assumption)
          have hx9 := bt_at a0 x3_1
          replace p9 := eq_true p9
          replace q9 := eq_true q9
          go_wp2
          go_roundg kj1
          case measure => have := HK1.out; have := HJ1.out; omega
          case rel => exact ⟨(wrap64 (x3_1 + 1)), (by first | rfl | (simp; done) | (simp [*]; done)), H', ⟨by have := HK1.out; have := HJ1.out; omega⟩, by repeat (first | exact Drawn0.refl _ | apply Drawn0.step)⟩
       ·rw [if_neg c6] at H
        exact absurd H (by simp)
      ·rw [if_neg c5] at H
       exact absurd H (by simp)
     ·replace c4 := Bool.eq_false_iff.mpr c4
      subst c4
      have H1 : (if (a0.size : Int) ≥ 1 then (some (decide ((a0.size : Int) ≤ 4))) else (some false)) = some r := by rw [if_neg (show ¬ (false = true) by decide)] at H; exact H
      clear H
      have H := H1
      clear H1
      by_cases c11 : (a0.size : Int) ≥ 1
      ·rw [if_pos c11] at H
       have c11b0 : decide (1 ≤ (a0.size : Int)) = true := decide_eq_true c11
       have c11b1 : decide (1 ≤ a0.size) = true := decide_eq_true (by omega)
       clear c11
       obtain rfl := Option.some.inj H
       go_wp2
       go_ret
       exact ⟨by first | rfl | (simp; done) | (simp [*]; done), by repeat (first | exact Drawn0.refl _ | apply Drawn0.step)⟩
      ·rw [if_neg c11] at H
       have c11b0 : decide (1 ≤ (a0.size : Int)) = false := decide_eq_false c11
       have c11b1 : decide (1 ≤ a0.size) = false := decide_eq_false (by omega)
       clear c11
       obtain rfl := Option.some.inj H
       go_wp2
       go_ret
       exact ⟨by first | rfl | (simp; done) | (simp [*]; done), by repeat (first | exact Drawn0.refl _ | apply Drawn0.step)⟩
mutual
def spec_l02Areas.l0 : Nat → List Nat → Int → Option (Bool)
 | 0, _, _ => none
 | k + 1, x0, x3 => if x3 < (x0.length : Int) then (spec_l02Areas.j1 k x0 x3 (decide ((x0.length : Int) ≤ 16))) else (spec_l02Areas.j1 k x0 x3 false)
def spec_l02Areas.j1 : Nat → List Nat → Int → Bool → Option (Bool)
 | 0, _, _, _ => none
 | k + 1, x0, x3, x12 => if x12 = true then (if 0 ≤ x3 then (if x3 < (x0.length : Int) then ((spec_l02Above.f (rdOf (0 : Nat) x0 x3)).bind fun t184 => (if t184 = true then (spec_l02Areas.l0 k x0 (wrap64 (x3 + 1))) else (some false))) else (none)) else (none)) else (if (x0.length : Int) ≥ 1 then (some (decide ((x0.length : Int) ≤ 16))) else (some false))
end
def spec_l02Areas.f (k : Nat) (l0 : List Nat) : Option (Bool) := spec_l02Areas.l0 k l0 0
theorem spec_l02Areas.mono_l : ∀ k, (∀ y0 y1, LeO (spec_l02Areas.l0 k y0 y1) (spec_l02Areas.l0 (k + 1) y0 y1)) ∧ (∀ y0 y1 y2, LeO (spec_l02Areas.j1 k y0 y1 y2) (spec_l02Areas.j1 (k + 1) y0 y1 y2))
 | 0 => ⟨fun _ _ r h => by simp [spec_l02Areas.l0] at h, fun _ _ _ r h => by simp [spec_l02Areas.j1] at h⟩
 | k + 1 => by
  obtain ⟨ih0, ih1⟩ := spec_l02Areas.mono_l k
  refine ⟨?_, ?_⟩
  ·intro y0 y1
   unfold spec_l02Areas.l0
   repeat' first
   | (with_reducible exact ih0 _ _)
   | (with_reducible exact ih1 _ _ _)
   | (with_reducible exact LeO.refl _)
   | (with_reducible exact LeO.none _)
   | (with_reducible refine LeO.ite ?_ ?_)
   | (with_reducible refine LeO.bind ?_ (fun _ => ?_))
   | exact ih0 _ _
   | exact ih1 _ _ _
   | exact LeO.none _
   | refine LeO.ite ?_ ?_
   | refine LeO.bind ?_ (fun _ => ?_)
  ·intro y0 y1 y2
   unfold spec_l02Areas.j1
   repeat' first
   | (with_reducible exact ih0 _ _)
   | (with_reducible exact ih1 _ _ _)
   | (with_reducible exact LeO.refl _)
   | (with_reducible exact LeO.none _)
   | (with_reducible refine LeO.ite ?_ ?_)
   | (with_reducible refine LeO.bind ?_ (fun _ => ?_))
   | exact ih0 _ _
   | exact ih1 _ _ _
   | exact LeO.none _
   | refine LeO.ite ?_ ?_
   | refine LeO.bind ?_ (fun _ => ?_)
theorem spec_l02Areas.mono : ∀ a0 k, LeO (spec_l02Areas.f k a0) (spec_l02Areas.f (k + 1) a0) := by
 intro a0 k
 obtain ⟨ih0, ih1⟩ := spec_l02Areas.mono_l k
 unfold spec_l02Areas.f
 repeat' first
   | (with_reducible exact ih0 _ _)
   | (with_reducible exact ih1 _ _ _)
   | (with_reducible exact LeO.refl _)
   | (with_reducible exact LeO.none _)
   | (with_reducible refine LeO.ite ?_ ?_)
   | (with_reducible refine LeO.bind ?_ (fun _ => ?_))
   | exact ih0 _ _
   | exact ih1 _ _ _
   | exact LeO.none _
   | refine LeO.ite ?_ ?_
   | refine LeO.bind ?_ (fun _ => ?_)
set_option maxHeartbeats 8000000 in
set_option maxRecDepth 100000 in
theorem spec_l02Areas.calls (k : Nat) (A0 : Option Addr) (c0 : Nat) (l0 : List Nat) (r : Bool) (w : World) (hr0 : Kd.C (Kd.float .f32) w A0 l0.length l0) (hc0 : l0.length ≤ c0) (h : spec_l02Areas.f k l0 = some r) :
  Calls Try.prog 198 #[.slice A0 l0.length c0] w fun e w' => e = .returned (.bool r) ∧ Drawn0 w w' := by
 have hu36 := Try.underlying36
 have HR0 := Aside0.mk hr0
 have HC0 := Aside0.mk hc0
 clear hr0 hc0
 have H : (spec_l02Areas.l0 k l0 0) = some r := h
 clear h
 have H' := Aside0.mk H
 clear H
 go_enter Try.func198, Try.ntmps198
 go_wp2
 go_loopg [3] k (fun kq v3 w' => ∃ (x3_1 : Int), v3 = .int .i64 x3_1 ∧ Aside0 (spec_l02Areas.l0 kq l0 x3_1 = some r) ∧ Aside0 (kq ≤ k) ∧ Drawn0 w w')
 case atStart => exact ⟨(0), (by first | rfl | (simp; done) | (simp [*]; done)), H', ⟨Nat.le_refl _⟩, by repeat (first | exact Drawn0.refl _ | apply Drawn0.step)⟩
 case round =>
  clear H'
  try clear c1
  obtain ⟨x3_1, rfl, HA, HK1, ⟨m1, rfl⟩⟩ := hrel
  cases gk with
  | zero => exact absurd HA.out (by simp [spec_l02Areas.l0])
  | succ k1 =>
   have H := HA.out
   clear HA
   simp only [spec_l02Areas.l0] at H
   have HC2 := Aside0.mk H
   clear H
   go_upto_region 2 with (fail)
   go_cut [12] (fun v12 wc => ∃ (kq : Nat) (x12_1 : Bool), v12 = .bool x12_1 ∧ Aside0 (spec_l02Areas.j1 kq l0 x3_1 x12_1 = some r) ∧ Aside0 (kq ≤ k1) ∧ Drawn0 w wc)
   case first =>
    have H := HC2.out
    clear HC2
    by_cases c3 : x3_1 < (l0.length : Int)
    ·rw [if_pos c3] at H
     have c3b0 : decide (x3_1 < (l0.length : Int)) = true := decide_eq_true c3
     clear c3
     (first | rw [c3b0] | (simp only [i64_w, i32_w]; rw [c3b0]) | skip)
     have H' := Aside0.mk H
     clear H
     go_wp2
     go_meet
     case rel => exact ⟨_, (decide ((l0.length : Int) ≤ 16)), (by first | rfl | (simp; done) | (simp [*]; done)), H', ⟨by have := HK1.out; first | omega | exact Nat.le_refl _⟩, by repeat (first | exact Drawn0.refl _ | apply Drawn0.step)⟩
    ·rw [if_neg c3] at H
     have c3b0 : decide (x3_1 < (l0.length : Int)) = false := decide_eq_false c3
     clear c3
     (first | rw [c3b0] | (simp only [i64_w, i32_w]; rw [c3b0]) | skip)
     have H' := Aside0.mk H
     clear H
     go_wp2
     go_meet
     case rel => exact ⟨_, (false), (by first | rfl | (simp; done) | (simp [*]; done)), H', ⟨by have := HK1.out; first | omega | exact Nat.le_refl _⟩, by repeat (first | exact Drawn0.refl _ | apply Drawn0.step)⟩
   case rest =>
    clear HC2
    try clear c1
    try clear p2
    try clear c3
    try clear c3b0
    obtain ⟨kq, x12_1, rfl, HA, HJ1, ⟨mc1, rfl⟩⟩ := hcut
    cases kq with
    | zero => exact absurd HA.out (by simp [spec_l02Areas.j1])
    | succ kj1 =>
     have H := HA.out
     clear HA
     simp only [spec_l02Areas.j1] at H
     by_cases c4 : x12_1 = true
     ·subst c4
      have H1 : (if 0 ≤ x3_1 then (if x3_1 < (l0.length : Int) then ((spec_l02Above.f (rdOf (0 : Nat) l0 x3_1)).bind fun t184 => (if t184 = true then (spec_l02Areas.l0 kj1 l0 (wrap64 (x3_1 + 1))) else (some false))) else (none)) else (none)) = some r := by rw [if_pos rfl] at H; exact H
      clear H
      have H := H1
      clear H1
      by_cases c5 : 0 ≤ x3_1
      ·rw [if_pos c5] at H
       have c5b0 : decide (0 ≤ x3_1) = true := decide_eq_true c5
       clear c5
       by_cases c6 : x3_1 < (l0.length : Int)
       ·rw [if_pos c6] at H
        have c6b0 : decide (x3_1 < (l0.length : Int)) = true := decide_eq_true c6
        clear c6
        replace H := Option.bind_eq_some_iff.mp H
        obtain ⟨t184, A70, H⟩ := H
        replace H : (if t184 = true then (spec_l02Areas.l0 kj1 l0 (wrap64 (x3_1 + 1))) else (some false)) = some r := H
        have A7 := Aside0.mk A70
        clear A70
        by_cases c8 : t184 = true
        ·subst c8
         have H1 : (spec_l02Areas.l0 kj1 l0 (wrap64 (x3_1 + 1))) = some r := by rw [if_pos rfl] at H; exact H
         clear H
         have H := H1
         clear H1
         have H' := Aside0.mk H
         clear H
         have p183 : 0 ≤ (x3_1 : Int) := of_decide_eq_true (by first | (with_reducible assumption) | assumption)
         have q183 : x3_1 < (l0.length : Int) := of_decide_eq_true (by first | (with_reducible assumption) | assumption)
         obtain ⟨ad183, e183, hx183_0⟩ := Kd.at_float HR0.out x3_1 p183 q183
         cases e183
         replace p183 := eq_true p183
         replace q183 := eq_true q183
         go_wp2_with (first | ((with_reducible refine gate_callee (f := 146) rfl ?_); refine goesL_ (some 19) rfl rfl Try.func146 (by kernel_rfl) rfl #[.float .f32 (rdOf (0 : Nat) l0 x3_1)] rfl (by (try simp only [List.map_toArray, List.map_cons, List.map_nil]); first | done | rfl | (simp only [List.length_drop, List.length_take]; rfl)) ?_; (with_reducible refine (spec_l02Above.calls (rdOf (0 : Nat) l0 x3_1) true _ A7.out).mono ?_); rintro e w' ⟨rfl, ⟨nd, rfl⟩⟩; refine ⟨_, rfl, ?_⟩))
         go_roundg kj1
         case measure => have := HK1.out; have := HJ1.out; omega
         case rel => exact ⟨(wrap64 (x3_1 + 1)), (by first | rfl | (simp; done) | (simp [*]; done)), H', ⟨by have := HK1.out; have := HJ1.out; omega⟩, by repeat (first | exact Drawn0.refl _ | apply Drawn0.step)⟩
        ·replace c8 := Bool.eq_false_iff.mpr c8
         subst c8
         have H1 : (some false) = some r := by rw [if_neg (show ¬ (false = true) by decide)] at H; exact H
         clear H
         have H := H1
         clear H1
         obtain rfl := Option.some.inj H
         have p183 : 0 ≤ (x3_1 : Int) := of_decide_eq_true (by first | (with_reducible assumption) | assumption)
         have q183 : x3_1 < (l0.length : Int) := of_decide_eq_true (by first | (with_reducible assumption) | assumption)
         obtain ⟨ad183, e183, hx183_0⟩ := Kd.at_float HR0.out x3_1 p183 q183
         cases e183
         replace p183 := eq_true p183
         replace q183 := eq_true q183
         go_wp2_with (first | ((with_reducible refine gate_callee (f := 146) rfl ?_); refine goesL_ (some 19) rfl rfl Try.func146 (by kernel_rfl) rfl #[.float .f32 (rdOf (0 : Nat) l0 x3_1)] rfl (by (try simp only [List.map_toArray, List.map_cons, List.map_nil]); first | done | rfl | (simp only [List.length_drop, List.length_take]; rfl)) ?_; (with_reducible refine (spec_l02Above.calls (rdOf (0 : Nat) l0 x3_1) false _ A7.out).mono ?_); rintro e w' ⟨rfl, ⟨nd, rfl⟩⟩; refine ⟨_, rfl, ?_⟩))
         go_ret
         exact ⟨by first | rfl | (simp; done) | (simp [*]; done), by repeat (first | exact Drawn0.refl _ | apply Drawn0.step)⟩
       ·rw [if_neg c6] at H
        exact absurd H (by simp)
      ·rw [if_neg c5] at H
       exact absurd H (by simp)
     ·replace c4 := Bool.eq_false_iff.mpr c4
      subst c4
      have H1 : (if (l0.length : Int) ≥ 1 then (some (decide ((l0.length : Int) ≤ 16))) else (some false)) = some r := by rw [if_neg (show ¬ (false = true) by decide)] at H; exact H
      clear H
      have H := H1
      clear H1
      by_cases c9 : (l0.length : Int) ≥ 1
      ·rw [if_pos c9] at H
       have c9b0 : decide (1 ≤ (l0.length : Int)) = true := decide_eq_true c9
       have c9b1 : decide (1 ≤ l0.length) = true := decide_eq_true (by omega)
       clear c9
       obtain rfl := Option.some.inj H
       go_wp2
       go_ret
       exact ⟨by first | rfl | (simp; done) | (simp [*]; done), by repeat (first | exact Drawn0.refl _ | apply Drawn0.step)⟩
      ·rw [if_neg c9] at H
       have c9b0 : decide (1 ≤ (l0.length : Int)) = false := decide_eq_false c9
       have c9b1 : decide (1 ≤ l0.length) = false := decide_eq_false (by omega)
       clear c9
       obtain rfl := Option.some.inj H
       go_wp2
       go_ret
       exact ⟨by first | rfl | (simp; done) | (simp [*]; done), by repeat (first | exact Drawn0.refl _ | apply Drawn0.step)⟩
def spec_l02Least.f (a0 : Nat) : Option (Bool) := (spec_l01Finite.f a0).bind fun t185 => (if t185 = true then (some (fge .f32 a0 0)) else (some false))
set_option maxHeartbeats 8000000 in
set_option maxRecDepth 100000 in
theorem spec_l02Least.calls (a0 : Nat) (r : Bool) (w : World) (h : spec_l02Least.f a0 = some r) :
    Calls Try.prog 199 #[.float .f32 a0] w fun e w' => e = .returned (.bool r) ∧ Drawn0 w w' := by
  have H : ((spec_l01Finite.f a0).bind fun t185 => (if t185 = true then (some (fge .f32 a0 0)) else (some false))) = some r := h
  clear h
  replace H := Option.bind_eq_some_iff.mp H
  obtain ⟨t185, A20, H⟩ := H
  replace H : (if t185 = true then (some (fge .f32 a0 0)) else (some false)) = some r := H
  have A2 := Aside0.mk A20
  clear A20
  by_cases c3 : t185 = true
  · subst c3
    have H1 : (some (fge .f32 a0 0)) = some r := by rw [if_pos rfl] at H; exact H
    clear H
    have H := H1
    clear H1
    obtain rfl := Option.some.inj H
    go_enter Try.func199, Try.ntmps199
    go_wp2_with (first | ((with_reducible refine gate_callee (f := 77) rfl ?_); refine goesL_ (some 4) rfl rfl Try.func77 (by kernel_rfl) rfl #[.float .f32 a0] rfl (by (try simp only [List.map_toArray, List.map_cons, List.map_nil]); first | done | rfl | (simp only [List.length_drop, List.length_take]; rfl)) ?_; (with_reducible refine (spec_l01Finite.calls a0 true _ A2.out).mono ?_); rintro e w' ⟨rfl, ⟨nd, rfl⟩⟩; refine ⟨_, rfl, ?_⟩))
    go_ret
    exact ⟨by first | rfl | (simp; done) | (simp [*]; done), by repeat (first | exact Drawn0.refl _ | apply Drawn0.step)⟩
  · replace c3 := Bool.eq_false_iff.mpr c3
    subst c3
    have H1 : (some false) = some r := by rw [if_neg (show ¬ (false = true) by decide)] at H; exact H
    clear H
    have H := H1
    clear H1
    obtain rfl := Option.some.inj H
    go_enter Try.func199, Try.ntmps199
    go_wp2_with (first | ((with_reducible refine gate_callee (f := 77) rfl ?_); refine goesL_ (some 4) rfl rfl Try.func77 (by kernel_rfl) rfl #[.float .f32 a0] rfl (by (try simp only [List.map_toArray, List.map_cons, List.map_nil]); first | done | rfl | (simp only [List.length_drop, List.length_take]; rfl)) ?_; (with_reducible refine (spec_l01Finite.calls a0 false _ A2.out).mono ?_); rintro e w' ⟨rfl, ⟨nd, rfl⟩⟩; refine ⟨_, rfl, ?_⟩))
    go_ret
    exact ⟨by first | rfl | (simp; done) | (simp [*]; done), by repeat (first | exact Drawn0.refl _ | apply Drawn0.step)⟩
def spec_l06Sound.f (k : Nat) (l0 : List (S138)) : Option (Bool) := if 0 < (l0.length : Int) then ((spec_l06Name.f k ((rd_T138 l0 0).f0)).bind fun t188 => (if t188 = true then ((spec_l02Areas.f k ((rd_T138 l0 0).f1)).bind fun t191 => (if t191 = true then ((spec_l02Above.f ((rd_T138 l0 0).f2)).bind fun t194 => (if t194 = true then ((spec_l02Least.f ((rd_T138 l0 0).f3)).bind fun t197 => (if t197 = true then ((spec_l02Share.f ((rd_T138 l0 0).f4)).bind fun t200 => (if t200 = true then ((spec_l02Share.f ((rd_T138 l0 0).f5)).bind fun t203 => (some t203)) else (some false))) else (some false))) else (some false))) else (some false))) else (some false))) else (none)
theorem spec_l06Sound.mono : ∀ a0 k, LeO (spec_l06Sound.f k a0) (spec_l06Sound.f (k + 1) a0) := by
 intro a0 k
 unfold spec_l06Sound.f
 repeat' first
   | (with_reducible exact spec_l02Areas.mono _ _)
   | (with_reducible exact spec_l06Name.mono _ _)
   | (with_reducible exact LeO.refl _)
   | (with_reducible exact LeO.none _)
   | (with_reducible refine LeO.ite ?_ ?_)
   | (with_reducible refine LeO.bind ?_ (fun _ => ?_))
   | exact spec_l02Areas.mono _ _
   | exact spec_l06Name.mono _ _
   | exact LeO.none _
   | refine LeO.ite ?_ ?_
   | refine LeO.bind ?_ (fun _ => ?_)
set_option maxHeartbeats 8000000 in
set_option maxRecDepth 100000 in
theorem spec_l06Sound.calls (k : Nat) (A0 : Option Addr) (l0 : List (S138)) (r : Bool) (w : World) (hr0 : Kd.C k138 w A0 l0.length l0) (h : spec_l06Sound.f k l0 = some r) :
  Calls Try.prog 166 #[.pointer A0] w fun e w' => e = .returned (.bool r) ∧ Drawn0 w w' := by
 have hu9 := Try.underlying9
 have hu26 := Try.underlying26
 have hu36 := Try.underlying36
 have HR0 := Aside0.mk hr0
 clear hr0
 have H : (if 0 < (l0.length : Int) then ((spec_l06Name.f k ((rd_T138 l0 0).f0)).bind fun t188 => (if t188 = true then ((spec_l02Areas.f k ((rd_T138 l0 0).f1)).bind fun t191 => (if t191 = true then ((spec_l02Above.f ((rd_T138 l0 0).f2)).bind fun t194 => (if t194 = true then ((spec_l02Least.f ((rd_T138 l0 0).f3)).bind fun t197 => (if t197 = true then ((spec_l02Share.f ((rd_T138 l0 0).f4)).bind fun t200 => (if t200 = true then ((spec_l02Share.f ((rd_T138 l0 0).f5)).bind fun t203 => (some t203)) else (some false))) else (some false))) else (some false))) else (some false))) else (some false))) else (none)) = some r := h
 clear h
 by_cases c2 : 0 < (l0.length : Int)
 ·rw [if_pos c2] at H
  have c2b0 : decide (0 < (l0.length : Int)) = true := decide_eq_true c2
  have c2b1 : decide (0 < l0.length) = true := decide_eq_true (by omega)
  clear c2
  replace H := Option.bind_eq_some_iff.mp H
  obtain ⟨t188, A30, H⟩ := H
  replace H : (if t188 = true then ((spec_l02Areas.f k ((rd_T138 l0 0).f1)).bind fun t191 => (if t191 = true then ((spec_l02Above.f ((rd_T138 l0 0).f2)).bind fun t194 => (if t194 = true then ((spec_l02Least.f ((rd_T138 l0 0).f3)).bind fun t197 => (if t197 = true then ((spec_l02Share.f ((rd_T138 l0 0).f4)).bind fun t200 => (if t200 = true then ((spec_l02Share.f ((rd_T138 l0 0).f5)).bind fun t203 => (some t203)) else (some false))) else (some false))) else (some false))) else (some false))) else (some false)) = some r := H
  have A3 := Aside0.mk A30
  clear A30
  by_cases c4 : t188 = true
  ·subst c4
   have H1 : ((spec_l02Areas.f k ((rd_T138 l0 0).f1)).bind fun t191 => (if t191 = true then ((spec_l02Above.f ((rd_T138 l0 0).f2)).bind fun t194 => (if t194 = true then ((spec_l02Least.f ((rd_T138 l0 0).f3)).bind fun t197 => (if t197 = true then ((spec_l02Share.f ((rd_T138 l0 0).f4)).bind fun t200 => (if t200 = true then ((spec_l02Share.f ((rd_T138 l0 0).f5)).bind fun t203 => (some t203)) else (some false))) else (some false))) else (some false))) else (some false))) = some r := by rw [if_pos rfl] at H; exact H
   clear H
   have H := H1
   clear H1
   replace H := Option.bind_eq_some_iff.mp H
   obtain ⟨t191, A50, H⟩ := H
   replace H : (if t191 = true then ((spec_l02Above.f ((rd_T138 l0 0).f2)).bind fun t194 => (if t194 = true then ((spec_l02Least.f ((rd_T138 l0 0).f3)).bind fun t197 => (if t197 = true then ((spec_l02Share.f ((rd_T138 l0 0).f4)).bind fun t200 => (if t200 = true then ((spec_l02Share.f ((rd_T138 l0 0).f5)).bind fun t203 => (some t203)) else (some false))) else (some false))) else (some false))) else (some false)) = some r := H
   have A5 := Aside0.mk A50
   clear A50
   by_cases c6 : t191 = true
   ·subst c6
    have H1 : ((spec_l02Above.f ((rd_T138 l0 0).f2)).bind fun t194 => (if t194 = true then ((spec_l02Least.f ((rd_T138 l0 0).f3)).bind fun t197 => (if t197 = true then ((spec_l02Share.f ((rd_T138 l0 0).f4)).bind fun t200 => (if t200 = true then ((spec_l02Share.f ((rd_T138 l0 0).f5)).bind fun t203 => (some t203)) else (some false))) else (some false))) else (some false))) = some r := by rw [if_pos rfl] at H; exact H
    clear H
    have H := H1
    clear H1
    replace H := Option.bind_eq_some_iff.mp H
    obtain ⟨t194, A70, H⟩ := H
    replace H : (if t194 = true then ((spec_l02Least.f ((rd_T138 l0 0).f3)).bind fun t197 => (if t197 = true then ((spec_l02Share.f ((rd_T138 l0 0).f4)).bind fun t200 => (if t200 = true then ((spec_l02Share.f ((rd_T138 l0 0).f5)).bind fun t203 => (some t203)) else (some false))) else (some false))) else (some false)) = some r := H
    have A7 := Aside0.mk A70
    clear A70
    by_cases c8 : t194 = true
    ·subst c8
     have H1 : ((spec_l02Least.f ((rd_T138 l0 0).f3)).bind fun t197 => (if t197 = true then ((spec_l02Share.f ((rd_T138 l0 0).f4)).bind fun t200 => (if t200 = true then ((spec_l02Share.f ((rd_T138 l0 0).f5)).bind fun t203 => (some t203)) else (some false))) else (some false))) = some r := by rw [if_pos rfl] at H; exact H
     clear H
     have H := H1
     clear H1
     replace H := Option.bind_eq_some_iff.mp H
     obtain ⟨t197, A90, H⟩ := H
     replace H : (if t197 = true then ((spec_l02Share.f ((rd_T138 l0 0).f4)).bind fun t200 => (if t200 = true then ((spec_l02Share.f ((rd_T138 l0 0).f5)).bind fun t203 => (some t203)) else (some false))) else (some false)) = some r := H
     have A9 := Aside0.mk A90
     clear A90
     by_cases c10 : t197 = true
     ·subst c10
      have H1 : ((spec_l02Share.f ((rd_T138 l0 0).f4)).bind fun t200 => (if t200 = true then ((spec_l02Share.f ((rd_T138 l0 0).f5)).bind fun t203 => (some t203)) else (some false))) = some r := by rw [if_pos rfl] at H; exact H
      clear H
      have H := H1
      clear H1
      replace H := Option.bind_eq_some_iff.mp H
      obtain ⟨t200, A110, H⟩ := H
      replace H : (if t200 = true then ((spec_l02Share.f ((rd_T138 l0 0).f5)).bind fun t203 => (some t203)) else (some false)) = some r := H
      have A11 := Aside0.mk A110
      clear A110
      by_cases c12 : t200 = true
      ·subst c12
       have H1 : ((spec_l02Share.f ((rd_T138 l0 0).f5)).bind fun t203 => (some t203)) = some r := by rw [if_pos rfl] at H; exact H
       clear H
       have H := H1
       clear H1
       replace H := Option.bind_eq_some_iff.mp H
       obtain ⟨t203, A130, H⟩ := H
       replace H : (some t203) = some r := H
       have A13 := Aside0.mk A130
       clear A130
       obtain rfl := Option.some.inj H
       have p186 : 0 ≤ (0 : Int) := (by omega)
       have q186 : 0 < (l0.length : Int) := of_decide_eq_true (by first | (with_reducible assumption) | assumption)
       obtain ⟨ad186, A186_1, c186_1, e186, hx186_0, hx186_1, hx186_2, hx186_3, hx186_4, hx186_5, hl186_1, hi186_1⟩ := at_T138 HR0.out 0 p186 q186
       cases e186
       have qi186 : (0 < l0.length) = True := eq_true (by omega)
       (try rw [show ((0 : Int)).toNat = 0 from rfl] at hx186_0)
       (try rw [show 0 * 6 = 0 from rfl] at hx186_0)
       (try rw [Addr.add_zero'] at hx186_0)
       (try rw [show ((0 : Int)).toNat = 0 from rfl] at hx186_1)
       (try rw [show 0 * 6 = 0 from rfl] at hx186_1)
       (try rw [Addr.add_zero'] at hx186_1)
       (try rw [show ((0 : Int)).toNat = 0 from rfl] at hx186_2)
       (try rw [show 0 * 6 = 0 from rfl] at hx186_2)
       (try rw [Addr.add_zero'] at hx186_2)
       (try rw [show ((0 : Int)).toNat = 0 from rfl] at hx186_3)
       (try rw [show 0 * 6 = 0 from rfl] at hx186_3)
       (try rw [Addr.add_zero'] at hx186_3)
       (try rw [show ((0 : Int)).toNat = 0 from rfl] at hx186_4)
       (try rw [show 0 * 6 = 0 from rfl] at hx186_4)
       (try rw [Addr.add_zero'] at hx186_4)
       (try rw [show ((0 : Int)).toNat = 0 from rfl] at hx186_5)
       (try rw [show 0 * 6 = 0 from rfl] at hx186_5)
       (try rw [Addr.add_zero'] at hx186_5)
       have HR186_1 := Aside0.mk hi186_1
       have HC186_1 := Aside0.mk hl186_1
       clear hi186_1 hl186_1
       replace p186 := eq_true p186
       replace q186 := eq_true q186
       have p187 : 0 ≤ (0 : Int) := (by omega)
       have q187 : 0 < (l0.length : Int) := of_decide_eq_true (by first | (with_reducible assumption) | assumption)
       obtain ⟨ad187, A187_1, c187_1, e187, hx187_0, hx187_1, hx187_2, hx187_3, hx187_4, hx187_5, hl187_1, hi187_1⟩ := at_T138 HR0.out 0 p187 q187
       obtain rfl : ad186 = ad187 := (by injection e187)
       have qi187 : (0 < l0.length) = True := eq_true (by omega)
       (try rw [show ((0 : Int)).toNat = 0 from rfl] at hx187_0)
       (try rw [show 0 * 6 = 0 from rfl] at hx187_0)
       (try rw [Addr.add_zero'] at hx187_0)
       (try rw [show ((0 : Int)).toNat = 0 from rfl] at hx187_1)
       (try rw [show 0 * 6 = 0 from rfl] at hx187_1)
       (try rw [Addr.add_zero'] at hx187_1)
       (try rw [show ((0 : Int)).toNat = 0 from rfl] at hx187_2)
       (try rw [show 0 * 6 = 0 from rfl] at hx187_2)
       (try rw [Addr.add_zero'] at hx187_2)
       (try rw [show ((0 : Int)).toNat = 0 from rfl] at hx187_3)
       (try rw [show 0 * 6 = 0 from rfl] at hx187_3)
       (try rw [Addr.add_zero'] at hx187_3)
       (try rw [show ((0 : Int)).toNat = 0 from rfl] at hx187_4)
       (try rw [show 0 * 6 = 0 from rfl] at hx187_4)
       (try rw [Addr.add_zero'] at hx187_4)
       (try rw [show ((0 : Int)).toNat = 0 from rfl] at hx187_5)
       (try rw [show 0 * 6 = 0 from rfl] at hx187_5)
       (try rw [Addr.add_zero'] at hx187_5)
       have HR187_1 := Aside0.mk hi187_1
       have HC187_1 := Aside0.mk hl187_1
       clear hi187_1 hl187_1
       replace p187 := eq_true p187
       replace q187 := eq_true q187
       have ea_ := Option.some.inj (hx186_1.symm.trans hx187_1)
       injection ea_ with ea_ en_ ec_
       subst ea_
       subst ec_
       clear en_
       go_enter Try.func166, Try.ntmps166
       go_wp2_with (first | ((with_reducible refine gate_callee (f := 197) rfl ?_); refine goesL_ (some 7) rfl rfl Try.func197 (by kernel_rfl) rfl #[.string ((rd_T138 l0 0).f0)] rfl (by (try simp only [List.map_toArray, List.map_cons, List.map_nil]); first | done | rfl | (simp only [List.length_drop, List.length_take]; rfl)) ?_; (with_reducible refine (spec_l06Name.calls k ((rd_T138 l0 0).f0) true _ A3.out).mono ?_); rintro e w' ⟨rfl, ⟨nd, rfl⟩⟩; refine ⟨_, rfl, ?_⟩; have p189 : 0 ≤ (0 : Int) := (by omega); have q189 : 0 < (l0.length : Int) := of_decide_eq_true (by first | (with_reducible assumption) | assumption); obtain ⟨ad189, A189_1, c189_1, e189, hx189_0, hx189_1, hx189_2, hx189_3, hx189_4, hx189_5, hl189_1, hi189_1⟩ := at_T138 HR0.out 0 p189 q189; obtain rfl : ad186 = ad189 := (by injection e189); have qi189 : (0 < l0.length) = True := eq_true (by omega); (try rw [show ((0 : Int)).toNat = 0 from rfl] at hx189_0); (try rw [show 0 * 6 = 0 from rfl] at hx189_0); (try rw [Addr.add_zero'] at hx189_0); (try rw [show ((0 : Int)).toNat = 0 from rfl] at hx189_1); (try rw [show 0 * 6 = 0 from rfl] at hx189_1); (try rw [Addr.add_zero'] at hx189_1); (try rw [show ((0 : Int)).toNat = 0 from rfl] at hx189_2); (try rw [show 0 * 6 = 0 from rfl] at hx189_2); (try rw [Addr.add_zero'] at hx189_2); (try rw [show ((0 : Int)).toNat = 0 from rfl] at hx189_3); (try rw [show 0 * 6 = 0 from rfl] at hx189_3); (try rw [Addr.add_zero'] at hx189_3); (try rw [show ((0 : Int)).toNat = 0 from rfl] at hx189_4); (try rw [show 0 * 6 = 0 from rfl] at hx189_4); (try rw [Addr.add_zero'] at hx189_4); (try rw [show ((0 : Int)).toNat = 0 from rfl] at hx189_5); (try rw [show 0 * 6 = 0 from rfl] at hx189_5); (try rw [Addr.add_zero'] at hx189_5); have HR189_1 := Aside0.mk hi189_1; have HC189_1 := Aside0.mk hl189_1; clear hi189_1 hl189_1; replace p189 := eq_true p189; replace q189 := eq_true q189; have ea_ := Option.some.inj (hx186_1.symm.trans hx189_1); injection ea_ with ea_ en_ ec_; subst ea_; subst ec_; clear en_; have p190 : 0 ≤ (0 : Int) := (by omega); have q190 : 0 < (l0.length : Int) := of_decide_eq_true (by first | (with_reducible assumption) | assumption); obtain ⟨ad190, A190_1, c190_1, e190, hx190_0, hx190_1, hx190_2, hx190_3, hx190_4, hx190_5, hl190_1, hi190_1⟩ := at_T138 HR0.out 0 p190 q190; obtain rfl : ad186 = ad190 := (by injection e190); have qi190 : (0 < l0.length) = True := eq_true (by omega); (try rw [show ((0 : Int)).toNat = 0 from rfl] at hx190_0); (try rw [show 0 * 6 = 0 from rfl] at hx190_0); (try rw [Addr.add_zero'] at hx190_0); (try rw [show ((0 : Int)).toNat = 0 from rfl] at hx190_1); (try rw [show 0 * 6 = 0 from rfl] at hx190_1); (try rw [Addr.add_zero'] at hx190_1); (try rw [show ((0 : Int)).toNat = 0 from rfl] at hx190_2); (try rw [show 0 * 6 = 0 from rfl] at hx190_2); (try rw [Addr.add_zero'] at hx190_2); (try rw [show ((0 : Int)).toNat = 0 from rfl] at hx190_3); (try rw [show 0 * 6 = 0 from rfl] at hx190_3); (try rw [Addr.add_zero'] at hx190_3); (try rw [show ((0 : Int)).toNat = 0 from rfl] at hx190_4); (try rw [show 0 * 6 = 0 from rfl] at hx190_4); (try rw [Addr.add_zero'] at hx190_4); (try rw [show ((0 : Int)).toNat = 0 from rfl] at hx190_5); (try rw [show 0 * 6 = 0 from rfl] at hx190_5); (try rw [Addr.add_zero'] at hx190_5); have HR190_1 := Aside0.mk hi190_1; have HC190_1 := Aside0.mk hl190_1; clear hi190_1 hl190_1; replace p190 := eq_true p190; replace q190 := eq_true q190; have ea_ := Option.some.inj (hx186_1.symm.trans hx190_1); injection ea_ with ea_ en_ ec_; subst ea_; subst ec_; clear en_) | (go_at_call 198; (with_reducible refine (spec_l02Areas.calls k _ _ ((rd_T138 l0 0).f1) true _ ?side1 ?side2 A5.out).mono ?_); (case side1 => repeat (first | exact HR190_1.out | (with_reducible refine Kd.C_alloc ?_ _) | (with_reducible refine Kd.C_drewN ?_ _) | (with_reducible refine Kd.C_drew ?_))); (case side2 => exact HC190_1.out); rintro e w' ⟨rfl, ⟨nd, rfl⟩⟩; have p192 : 0 ≤ (0 : Int) := (by omega); have q192 : 0 < (l0.length : Int) := of_decide_eq_true (by first | (with_reducible assumption) | assumption); obtain ⟨ad192, A192_1, c192_1, e192, hx192_0, hx192_1, hx192_2, hx192_3, hx192_4, hx192_5, hl192_1, hi192_1⟩ := at_T138 HR0.out 0 p192 q192; obtain rfl : ad186 = ad192 := (by injection e192); have qi192 : (0 < l0.length) = True := eq_true (by omega); (try rw [show ((0 : Int)).toNat = 0 from rfl] at hx192_0); (try rw [show 0 * 6 = 0 from rfl] at hx192_0); (try rw [Addr.add_zero'] at hx192_0); (try rw [show ((0 : Int)).toNat = 0 from rfl] at hx192_1); (try rw [show 0 * 6 = 0 from rfl] at hx192_1); (try rw [Addr.add_zero'] at hx192_1); (try rw [show ((0 : Int)).toNat = 0 from rfl] at hx192_2); (try rw [show 0 * 6 = 0 from rfl] at hx192_2); (try rw [Addr.add_zero'] at hx192_2); (try rw [show ((0 : Int)).toNat = 0 from rfl] at hx192_3); (try rw [show 0 * 6 = 0 from rfl] at hx192_3); (try rw [Addr.add_zero'] at hx192_3); (try rw [show ((0 : Int)).toNat = 0 from rfl] at hx192_4); (try rw [show 0 * 6 = 0 from rfl] at hx192_4); (try rw [Addr.add_zero'] at hx192_4); (try rw [show ((0 : Int)).toNat = 0 from rfl] at hx192_5); (try rw [show 0 * 6 = 0 from rfl] at hx192_5); (try rw [Addr.add_zero'] at hx192_5); have HR192_1 := Aside0.mk hi192_1; have HC192_1 := Aside0.mk hl192_1; clear hi192_1 hl192_1; replace p192 := eq_true p192; replace q192 := eq_true q192; have ea_ := Option.some.inj (hx186_1.symm.trans hx192_1); injection ea_ with ea_ en_ ec_; subst ea_; subst ec_; clear en_; have p193 : 0 ≤ (0 : Int) := (by omega); have q193 : 0 < (l0.length : Int) := of_decide_eq_true (by first | (with_reducible assumption) | assumption); obtain ⟨ad193, A193_1, c193_1, e193, hx193_0, hx193_1, hx193_2, hx193_3, hx193_4, hx193_5, hl193_1, hi193_1⟩ := at_T138 HR0.out 0 p193 q193; obtain rfl : ad186 = ad193 := (by injection e193); have qi193 : (0 < l0.length) = True := eq_true (by omega); (try rw [show ((0 : Int)).toNat = 0 from rfl] at hx193_0); (try rw [show 0 * 6 = 0 from rfl] at hx193_0); (try rw [Addr.add_zero'] at hx193_0); (try rw [show ((0 : Int)).toNat = 0 from rfl] at hx193_1); (try rw [show 0 * 6 = 0 from rfl] at hx193_1); (try rw [Addr.add_zero'] at hx193_1); (try rw [show ((0 : Int)).toNat = 0 from rfl] at hx193_2); (try rw [show 0 * 6 = 0 from rfl] at hx193_2); (try rw [Addr.add_zero'] at hx193_2); (try rw [show ((0 : Int)).toNat = 0 from rfl] at hx193_3); (try rw [show 0 * 6 = 0 from rfl] at hx193_3); (try rw [Addr.add_zero'] at hx193_3); (try rw [show ((0 : Int)).toNat = 0 from rfl] at hx193_4); (try rw [show 0 * 6 = 0 from rfl] at hx193_4); (try rw [Addr.add_zero'] at hx193_4); (try rw [show ((0 : Int)).toNat = 0 from rfl] at hx193_5); (try rw [show 0 * 6 = 0 from rfl] at hx193_5); (try rw [Addr.add_zero'] at hx193_5); have HR193_1 := Aside0.mk hi193_1; have HC193_1 := Aside0.mk hl193_1; clear hi193_1 hl193_1; replace p193 := eq_true p193; replace q193 := eq_true q193; have ea_ := Option.some.inj (hx186_1.symm.trans hx193_1); injection ea_ with ea_ en_ ec_; subst ea_; subst ec_; clear en_) | (go_at_call 146; (with_reducible refine (spec_l02Above.calls ((rd_T138 l0 0).f2) true _ A7.out).mono ?_); rintro e w' ⟨rfl, ⟨nd, rfl⟩⟩; have p195 : 0 ≤ (0 : Int) := (by omega); have q195 : 0 < (l0.length : Int) := of_decide_eq_true (by first | (with_reducible assumption) | assumption); obtain ⟨ad195, A195_1, c195_1, e195, hx195_0, hx195_1, hx195_2, hx195_3, hx195_4, hx195_5, hl195_1, hi195_1⟩ := at_T138 HR0.out 0 p195 q195; obtain rfl : ad186 = ad195 := (by injection e195); have qi195 : (0 < l0.length) = True := eq_true (by omega); (try rw [show ((0 : Int)).toNat = 0 from rfl] at hx195_0); (try rw [show 0 * 6 = 0 from rfl] at hx195_0); (try rw [Addr.add_zero'] at hx195_0); (try rw [show ((0 : Int)).toNat = 0 from rfl] at hx195_1); (try rw [show 0 * 6 = 0 from rfl] at hx195_1); (try rw [Addr.add_zero'] at hx195_1); (try rw [show ((0 : Int)).toNat = 0 from rfl] at hx195_2); (try rw [show 0 * 6 = 0 from rfl] at hx195_2); (try rw [Addr.add_zero'] at hx195_2); (try rw [show ((0 : Int)).toNat = 0 from rfl] at hx195_3); (try rw [show 0 * 6 = 0 from rfl] at hx195_3); (try rw [Addr.add_zero'] at hx195_3); (try rw [show ((0 : Int)).toNat = 0 from rfl] at hx195_4); (try rw [show 0 * 6 = 0 from rfl] at hx195_4); (try rw [Addr.add_zero'] at hx195_4); (try rw [show ((0 : Int)).toNat = 0 from rfl] at hx195_5); (try rw [show 0 * 6 = 0 from rfl] at hx195_5); (try rw [Addr.add_zero'] at hx195_5); have HR195_1 := Aside0.mk hi195_1; have HC195_1 := Aside0.mk hl195_1; clear hi195_1 hl195_1; replace p195 := eq_true p195; replace q195 := eq_true q195; have ea_ := Option.some.inj (hx186_1.symm.trans hx195_1); injection ea_ with ea_ en_ ec_; subst ea_; subst ec_; clear en_; have p196 : 0 ≤ (0 : Int) := (by omega); have q196 : 0 < (l0.length : Int) := of_decide_eq_true (by first | (with_reducible assumption) | assumption); obtain ⟨ad196, A196_1, c196_1, e196, hx196_0, hx196_1, hx196_2, hx196_3, hx196_4, hx196_5, hl196_1, hi196_1⟩ := at_T138 HR0.out 0 p196 q196; obtain rfl : ad186 = ad196 := (by injection e196); have qi196 : (0 < l0.length) = True := eq_true (by omega); (try rw [show ((0 : Int)).toNat = 0 from rfl] at hx196_0); (try rw [show 0 * 6 = 0 from rfl] at hx196_0); (try rw [Addr.add_zero'] at hx196_0); (try rw [show ((0 : Int)).toNat = 0 from rfl] at hx196_1); (try rw [show 0 * 6 = 0 from rfl] at hx196_1); (try rw [Addr.add_zero'] at hx196_1); (try rw [show ((0 : Int)).toNat = 0 from rfl] at hx196_2); (try rw [show 0 * 6 = 0 from rfl] at hx196_2); (try rw [Addr.add_zero'] at hx196_2); (try rw [show ((0 : Int)).toNat = 0 from rfl] at hx196_3); (try rw [show 0 * 6 = 0 from rfl] at hx196_3); (try rw [Addr.add_zero'] at hx196_3); (try rw [show ((0 : Int)).toNat = 0 from rfl] at hx196_4); (try rw [show 0 * 6 = 0 from rfl] at hx196_4); (try rw [Addr.add_zero'] at hx196_4); (try rw [show ((0 : Int)).toNat = 0 from rfl] at hx196_5); (try rw [show 0 * 6 = 0 from rfl] at hx196_5); (try rw [Addr.add_zero'] at hx196_5); have HR196_1 := Aside0.mk hi196_1; have HC196_1 := Aside0.mk hl196_1; clear hi196_1 hl196_1; replace p196 := eq_true p196; replace q196 := eq_true q196; have ea_ := Option.some.inj (hx186_1.symm.trans hx196_1); injection ea_ with ea_ en_ ec_; subst ea_; subst ec_; clear en_) | (go_at_call 199; (with_reducible refine (spec_l02Least.calls ((rd_T138 l0 0).f3) true _ A9.out).mono ?_); rintro e w' ⟨rfl, ⟨nd, rfl⟩⟩; have p198 : 0 ≤ (0 : Int) := (by omega); have q198 : 0 < (l0.length : Int) := of_decide_eq_true (by first | (with_reducible assumption) | assumption); obtain ⟨ad198, A198_1, c198_1, e198, hx198_0, hx198_1, hx198_2, hx198_3, hx198_4, hx198_5, hl198_1, hi198_1⟩ := at_T138 HR0.out 0 p198 q198; obtain rfl : ad186 = ad198 := (by injection e198); have qi198 : (0 < l0.length) = True := eq_true (by omega); (try rw [show ((0 : Int)).toNat = 0 from rfl] at hx198_0); (try rw [show 0 * 6 = 0 from rfl] at hx198_0); (try rw [Addr.add_zero'] at hx198_0); (try rw [show ((0 : Int)).toNat = 0 from rfl] at hx198_1); (try rw [show 0 * 6 = 0 from rfl] at hx198_1); (try rw [Addr.add_zero'] at hx198_1); (try rw [show ((0 : Int)).toNat = 0 from rfl] at hx198_2); (try rw [show 0 * 6 = 0 from rfl] at hx198_2); (try rw [Addr.add_zero'] at hx198_2); (try rw [show ((0 : Int)).toNat = 0 from rfl] at hx198_3); (try rw [show 0 * 6 = 0 from rfl] at hx198_3); (try rw [Addr.add_zero'] at hx198_3); (try rw [show ((0 : Int)).toNat = 0 from rfl] at hx198_4); (try rw [show 0 * 6 = 0 from rfl] at hx198_4); (try rw [Addr.add_zero'] at hx198_4); (try rw [show ((0 : Int)).toNat = 0 from rfl] at hx198_5); (try rw [show 0 * 6 = 0 from rfl] at hx198_5); (try rw [Addr.add_zero'] at hx198_5); have HR198_1 := Aside0.mk hi198_1; have HC198_1 := Aside0.mk hl198_1; clear hi198_1 hl198_1; replace p198 := eq_true p198; replace q198 := eq_true q198; have ea_ := Option.some.inj (hx186_1.symm.trans hx198_1); injection ea_ with ea_ en_ ec_; subst ea_; subst ec_; clear en_; have p199 : 0 ≤ (0 : Int) := (by omega); have q199 : 0 < (l0.length : Int) := of_decide_eq_true (by first | (with_reducible assumption) | assumption); obtain ⟨ad199, A199_1, c199_1, e199, hx199_0, hx199_1, hx199_2, hx199_3, hx199_4, hx199_5, hl199_1, hi199_1⟩ := at_T138 HR0.out 0 p199 q199; obtain rfl : ad186 = ad199 := (by injection e199); have qi199 : (0 < l0.length) = True := eq_true (by omega); (try rw [show ((0 : Int)).toNat = 0 from rfl] at hx199_0); (try rw [show 0 * 6 = 0 from rfl] at hx199_0); (try rw [Addr.add_zero'] at hx199_0); (try rw [show ((0 : Int)).toNat = 0 from rfl] at hx199_1); (try rw [show 0 * 6 = 0 from rfl] at hx199_1); (try rw [Addr.add_zero'] at hx199_1); (try rw [show ((0 : Int)).toNat = 0 from rfl] at hx199_2); (try rw [show 0 * 6 = 0 from rfl] at hx199_2); (try rw [Addr.add_zero'] at hx199_2); (try rw [show ((0 : Int)).toNat = 0 from rfl] at hx199_3); (try rw [show 0 * 6 = 0 from rfl] at hx199_3); (try rw [Addr.add_zero'] at hx199_3); (try rw [show ((0 : Int)).toNat = 0 from rfl] at hx199_4); (try rw [show 0 * 6 = 0 from rfl] at hx199_4); (try rw [Addr.add_zero'] at hx199_4); (try rw [show ((0 : Int)).toNat = 0 from rfl] at hx199_5); (try rw [show 0 * 6 = 0 from rfl] at hx199_5); (try rw [Addr.add_zero'] at hx199_5); have HR199_1 := Aside0.mk hi199_1; have HC199_1 := Aside0.mk hl199_1; clear hi199_1 hl199_1; replace p199 := eq_true p199; replace q199 := eq_true q199; have ea_ := Option.some.inj (hx186_1.symm.trans hx199_1); injection ea_ with ea_ en_ ec_; subst ea_; subst ec_; clear en_) | (go_at_call 188; (with_reducible refine (spec_l02Share.calls ((rd_T138 l0 0).f4) true _ A11.out).mono ?_); rintro e w' ⟨rfl, ⟨nd, rfl⟩⟩; have p201 : 0 ≤ (0 : Int) := (by omega); have q201 : 0 < (l0.length : Int) := of_decide_eq_true (by first | (with_reducible assumption) | assumption); obtain ⟨ad201, A201_1, c201_1, e201, hx201_0, hx201_1, hx201_2, hx201_3, hx201_4, hx201_5, hl201_1, hi201_1⟩ := at_T138 HR0.out 0 p201 q201; obtain rfl : ad186 = ad201 := (by injection e201); have qi201 : (0 < l0.length) = True := eq_true (by omega); (try rw [show ((0 : Int)).toNat = 0 from rfl] at hx201_0); (try rw [show 0 * 6 = 0 from rfl] at hx201_0); (try rw [Addr.add_zero'] at hx201_0); (try rw [show ((0 : Int)).toNat = 0 from rfl] at hx201_1); (try rw [show 0 * 6 = 0 from rfl] at hx201_1); (try rw [Addr.add_zero'] at hx201_1); (try rw [show ((0 : Int)).toNat = 0 from rfl] at hx201_2); (try rw [show 0 * 6 = 0 from rfl] at hx201_2); (try rw [Addr.add_zero'] at hx201_2); (try rw [show ((0 : Int)).toNat = 0 from rfl] at hx201_3); (try rw [show 0 * 6 = 0 from rfl] at hx201_3); (try rw [Addr.add_zero'] at hx201_3); (try rw [show ((0 : Int)).toNat = 0 from rfl] at hx201_4); (try rw [show 0 * 6 = 0 from rfl] at hx201_4); (try rw [Addr.add_zero'] at hx201_4); (try rw [show ((0 : Int)).toNat = 0 from rfl] at hx201_5); (try rw [show 0 * 6 = 0 from rfl] at hx201_5); (try rw [Addr.add_zero'] at hx201_5); have HR201_1 := Aside0.mk hi201_1; have HC201_1 := Aside0.mk hl201_1; clear hi201_1 hl201_1; replace p201 := eq_true p201; replace q201 := eq_true q201; have ea_ := Option.some.inj (hx186_1.symm.trans hx201_1); injection ea_ with ea_ en_ ec_; subst ea_; subst ec_; clear en_; have p202 : 0 ≤ (0 : Int) := (by omega); have q202 : 0 < (l0.length : Int) := of_decide_eq_true (by first | (with_reducible assumption) | assumption); obtain ⟨ad202, A202_1, c202_1, e202, hx202_0, hx202_1, hx202_2, hx202_3, hx202_4, hx202_5, hl202_1, hi202_1⟩ := at_T138 HR0.out 0 p202 q202; obtain rfl : ad186 = ad202 := (by injection e202); have qi202 : (0 < l0.length) = True := eq_true (by omega); (try rw [show ((0 : Int)).toNat = 0 from rfl] at hx202_0); (try rw [show 0 * 6 = 0 from rfl] at hx202_0); (try rw [Addr.add_zero'] at hx202_0); (try rw [show ((0 : Int)).toNat = 0 from rfl] at hx202_1); (try rw [show 0 * 6 = 0 from rfl] at hx202_1); (try rw [Addr.add_zero'] at hx202_1); (try rw [show ((0 : Int)).toNat = 0 from rfl] at hx202_2); (try rw [show 0 * 6 = 0 from rfl] at hx202_2); (try rw [Addr.add_zero'] at hx202_2); (try rw [show ((0 : Int)).toNat = 0 from rfl] at hx202_3); (try rw [show 0 * 6 = 0 from rfl] at hx202_3); (try rw [Addr.add_zero'] at hx202_3); (try rw [show ((0 : Int)).toNat = 0 from rfl] at hx202_4); (try rw [show 0 * 6 = 0 from rfl] at hx202_4); (try rw [Addr.add_zero'] at hx202_4); (try rw [show ((0 : Int)).toNat = 0 from rfl] at hx202_5); (try rw [show 0 * 6 = 0 from rfl] at hx202_5); (try rw [Addr.add_zero'] at hx202_5); have HR202_1 := Aside0.mk hi202_1; have HC202_1 := Aside0.mk hl202_1; clear hi202_1 hl202_1; replace p202 := eq_true p202; replace q202 := eq_true q202; have ea_ := Option.some.inj (hx186_1.symm.trans hx202_1); injection ea_ with ea_ en_ ec_; subst ea_; subst ec_; clear en_) | (go_at_call 188; (with_reducible refine (spec_l02Share.calls ((rd_T138 l0 0).f5) t203 _ A13.out).mono ?_); rintro e w' ⟨rfl, ⟨nd, rfl⟩⟩))
       go_ret
       exact ⟨by first | rfl | (simp; done) | (simp [*]; done), by repeat (first | exact Drawn0.refl _ | apply Drawn0.step)⟩
      ·replace c12 := Bool.eq_false_iff.mpr c12
       subst c12
       have H1 : (some false) = some r := by rw [if_neg (show ¬ (false = true) by decide)] at H; exact H
       clear H
       have H := H1
       clear H1
       obtain rfl := Option.some.inj H
       have p186 : 0 ≤ (0 : Int) := (by omega)
       have q186 : 0 < (l0.length : Int) := of_decide_eq_true (by first | (with_reducible assumption) | assumption)
       obtain ⟨ad186, A186_1, c186_1, e186, hx186_0, hx186_1, hx186_2, hx186_3, hx186_4, hx186_5, hl186_1, hi186_1⟩ := at_T138 HR0.out 0 p186 q186
       cases e186
       have qi186 : (0 < l0.length) = True := eq_true (by omega)
       (try rw [show ((0 : Int)).toNat = 0 from rfl] at hx186_0)
       (try rw [show 0 * 6 = 0 from rfl] at hx186_0)
       (try rw [Addr.add_zero'] at hx186_0)
       (try rw [show ((0 : Int)).toNat = 0 from rfl] at hx186_1)
       (try rw [show 0 * 6 = 0 from rfl] at hx186_1)
       (try rw [Addr.add_zero'] at hx186_1)
       (try rw [show ((0 : Int)).toNat = 0 from rfl] at hx186_2)
       (try rw [show 0 * 6 = 0 from rfl] at hx186_2)
       (try rw [Addr.add_zero'] at hx186_2)
       (try rw [show ((0 : Int)).toNat = 0 from rfl] at hx186_3)
       (try rw [show 0 * 6 = 0 from rfl] at hx186_3)
       (try rw [Addr.add_zero'] at hx186_3)
       (try rw [show ((0 : Int)).toNat = 0 from rfl] at hx186_4)
       (try rw [show 0 * 6 = 0 from rfl] at hx186_4)
       (try rw [Addr.add_zero'] at hx186_4)
       (try rw [show ((0 : Int)).toNat = 0 from rfl] at hx186_5)
       (try rw [show 0 * 6 = 0 from rfl] at hx186_5)
       (try rw [Addr.add_zero'] at hx186_5)
       have HR186_1 := Aside0.mk hi186_1
       have HC186_1 := Aside0.mk hl186_1
       clear hi186_1 hl186_1
       replace p186 := eq_true p186
       replace q186 := eq_true q186
       have p187 : 0 ≤ (0 : Int) := (by omega)
       have q187 : 0 < (l0.length : Int) := of_decide_eq_true (by first | (with_reducible assumption) | assumption)
       obtain ⟨ad187, A187_1, c187_1, e187, hx187_0, hx187_1, hx187_2, hx187_3, hx187_4, hx187_5, hl187_1, hi187_1⟩ := at_T138 HR0.out 0 p187 q187
       obtain rfl : ad186 = ad187 := (by injection e187)
       have qi187 : (0 < l0.length) = True := eq_true (by omega)
       (try rw [show ((0 : Int)).toNat = 0 from rfl] at hx187_0)
       (try rw [show 0 * 6 = 0 from rfl] at hx187_0)
       (try rw [Addr.add_zero'] at hx187_0)
       (try rw [show ((0 : Int)).toNat = 0 from rfl] at hx187_1)
       (try rw [show 0 * 6 = 0 from rfl] at hx187_1)
       (try rw [Addr.add_zero'] at hx187_1)
       (try rw [show ((0 : Int)).toNat = 0 from rfl] at hx187_2)
       (try rw [show 0 * 6 = 0 from rfl] at hx187_2)
       (try rw [Addr.add_zero'] at hx187_2)
       (try rw [show ((0 : Int)).toNat = 0 from rfl] at hx187_3)
       (try rw [show 0 * 6 = 0 from rfl] at hx187_3)
       (try rw [Addr.add_zero'] at hx187_3)
       (try rw [show ((0 : Int)).toNat = 0 from rfl] at hx187_4)
       (try rw [show 0 * 6 = 0 from rfl] at hx187_4)
       (try rw [Addr.add_zero'] at hx187_4)
       (try rw [show ((0 : Int)).toNat = 0 from rfl] at hx187_5)
       (try rw [show 0 * 6 = 0 from rfl] at hx187_5)
       (try rw [Addr.add_zero'] at hx187_5)
       have HR187_1 := Aside0.mk hi187_1
       have HC187_1 := Aside0.mk hl187_1
       clear hi187_1 hl187_1
       replace p187 := eq_true p187
       replace q187 := eq_true q187
       have ea_ := Option.some.inj (hx186_1.symm.trans hx187_1)
       injection ea_ with ea_ en_ ec_
       subst ea_
       subst ec_
       clear en_
       go_enter Try.func166, Try.ntmps166
       go_wp2_with (first | ((with_reducible refine gate_callee (f := 197) rfl ?_); refine goesL_ (some 7) rfl rfl Try.func197 (by kernel_rfl) rfl #[.string ((rd_T138 l0 0).f0)] rfl (by (try simp only [List.map_toArray, List.map_cons, List.map_nil]); first | done | rfl | (simp only [List.length_drop, List.length_take]; rfl)) ?_; (with_reducible refine (spec_l06Name.calls k ((rd_T138 l0 0).f0) true _ A3.out).mono ?_); rintro e w' ⟨rfl, ⟨nd, rfl⟩⟩; refine ⟨_, rfl, ?_⟩; have p189 : 0 ≤ (0 : Int) := (by omega); have q189 : 0 < (l0.length : Int) := of_decide_eq_true (by first | (with_reducible assumption) | assumption); obtain ⟨ad189, A189_1, c189_1, e189, hx189_0, hx189_1, hx189_2, hx189_3, hx189_4, hx189_5, hl189_1, hi189_1⟩ := at_T138 HR0.out 0 p189 q189; obtain rfl : ad186 = ad189 := (by injection e189); have qi189 : (0 < l0.length) = True := eq_true (by omega); (try rw [show ((0 : Int)).toNat = 0 from rfl] at hx189_0); (try rw [show 0 * 6 = 0 from rfl] at hx189_0); (try rw [Addr.add_zero'] at hx189_0); (try rw [show ((0 : Int)).toNat = 0 from rfl] at hx189_1); (try rw [show 0 * 6 = 0 from rfl] at hx189_1); (try rw [Addr.add_zero'] at hx189_1); (try rw [show ((0 : Int)).toNat = 0 from rfl] at hx189_2); (try rw [show 0 * 6 = 0 from rfl] at hx189_2); (try rw [Addr.add_zero'] at hx189_2); (try rw [show ((0 : Int)).toNat = 0 from rfl] at hx189_3); (try rw [show 0 * 6 = 0 from rfl] at hx189_3); (try rw [Addr.add_zero'] at hx189_3); (try rw [show ((0 : Int)).toNat = 0 from rfl] at hx189_4); (try rw [show 0 * 6 = 0 from rfl] at hx189_4); (try rw [Addr.add_zero'] at hx189_4); (try rw [show ((0 : Int)).toNat = 0 from rfl] at hx189_5); (try rw [show 0 * 6 = 0 from rfl] at hx189_5); (try rw [Addr.add_zero'] at hx189_5); have HR189_1 := Aside0.mk hi189_1; have HC189_1 := Aside0.mk hl189_1; clear hi189_1 hl189_1; replace p189 := eq_true p189; replace q189 := eq_true q189; have ea_ := Option.some.inj (hx186_1.symm.trans hx189_1); injection ea_ with ea_ en_ ec_; subst ea_; subst ec_; clear en_; have p190 : 0 ≤ (0 : Int) := (by omega); have q190 : 0 < (l0.length : Int) := of_decide_eq_true (by first | (with_reducible assumption) | assumption); obtain ⟨ad190, A190_1, c190_1, e190, hx190_0, hx190_1, hx190_2, hx190_3, hx190_4, hx190_5, hl190_1, hi190_1⟩ := at_T138 HR0.out 0 p190 q190; obtain rfl : ad186 = ad190 := (by injection e190); have qi190 : (0 < l0.length) = True := eq_true (by omega); (try rw [show ((0 : Int)).toNat = 0 from rfl] at hx190_0); (try rw [show 0 * 6 = 0 from rfl] at hx190_0); (try rw [Addr.add_zero'] at hx190_0); (try rw [show ((0 : Int)).toNat = 0 from rfl] at hx190_1); (try rw [show 0 * 6 = 0 from rfl] at hx190_1); (try rw [Addr.add_zero'] at hx190_1); (try rw [show ((0 : Int)).toNat = 0 from rfl] at hx190_2); (try rw [show 0 * 6 = 0 from rfl] at hx190_2); (try rw [Addr.add_zero'] at hx190_2); (try rw [show ((0 : Int)).toNat = 0 from rfl] at hx190_3); (try rw [show 0 * 6 = 0 from rfl] at hx190_3); (try rw [Addr.add_zero'] at hx190_3); (try rw [show ((0 : Int)).toNat = 0 from rfl] at hx190_4); (try rw [show 0 * 6 = 0 from rfl] at hx190_4); (try rw [Addr.add_zero'] at hx190_4); (try rw [show ((0 : Int)).toNat = 0 from rfl] at hx190_5); (try rw [show 0 * 6 = 0 from rfl] at hx190_5); (try rw [Addr.add_zero'] at hx190_5); have HR190_1 := Aside0.mk hi190_1; have HC190_1 := Aside0.mk hl190_1; clear hi190_1 hl190_1; replace p190 := eq_true p190; replace q190 := eq_true q190; have ea_ := Option.some.inj (hx186_1.symm.trans hx190_1); injection ea_ with ea_ en_ ec_; subst ea_; subst ec_; clear en_) | (go_at_call 198; (with_reducible refine (spec_l02Areas.calls k _ _ ((rd_T138 l0 0).f1) true _ ?side1 ?side2 A5.out).mono ?_); (case side1 => repeat (first | exact HR190_1.out | (with_reducible refine Kd.C_alloc ?_ _) | (with_reducible refine Kd.C_drewN ?_ _) | (with_reducible refine Kd.C_drew ?_))); (case side2 => exact HC190_1.out); rintro e w' ⟨rfl, ⟨nd, rfl⟩⟩; have p192 : 0 ≤ (0 : Int) := (by omega); have q192 : 0 < (l0.length : Int) := of_decide_eq_true (by first | (with_reducible assumption) | assumption); obtain ⟨ad192, A192_1, c192_1, e192, hx192_0, hx192_1, hx192_2, hx192_3, hx192_4, hx192_5, hl192_1, hi192_1⟩ := at_T138 HR0.out 0 p192 q192; obtain rfl : ad186 = ad192 := (by injection e192); have qi192 : (0 < l0.length) = True := eq_true (by omega); (try rw [show ((0 : Int)).toNat = 0 from rfl] at hx192_0); (try rw [show 0 * 6 = 0 from rfl] at hx192_0); (try rw [Addr.add_zero'] at hx192_0); (try rw [show ((0 : Int)).toNat = 0 from rfl] at hx192_1); (try rw [show 0 * 6 = 0 from rfl] at hx192_1); (try rw [Addr.add_zero'] at hx192_1); (try rw [show ((0 : Int)).toNat = 0 from rfl] at hx192_2); (try rw [show 0 * 6 = 0 from rfl] at hx192_2); (try rw [Addr.add_zero'] at hx192_2); (try rw [show ((0 : Int)).toNat = 0 from rfl] at hx192_3); (try rw [show 0 * 6 = 0 from rfl] at hx192_3); (try rw [Addr.add_zero'] at hx192_3); (try rw [show ((0 : Int)).toNat = 0 from rfl] at hx192_4); (try rw [show 0 * 6 = 0 from rfl] at hx192_4); (try rw [Addr.add_zero'] at hx192_4); (try rw [show ((0 : Int)).toNat = 0 from rfl] at hx192_5); (try rw [show 0 * 6 = 0 from rfl] at hx192_5); (try rw [Addr.add_zero'] at hx192_5); have HR192_1 := Aside0.mk hi192_1; have HC192_1 := Aside0.mk hl192_1; clear hi192_1 hl192_1; replace p192 := eq_true p192; replace q192 := eq_true q192; have ea_ := Option.some.inj (hx186_1.symm.trans hx192_1); injection ea_ with ea_ en_ ec_; subst ea_; subst ec_; clear en_; have p193 : 0 ≤ (0 : Int) := (by omega); have q193 : 0 < (l0.length : Int) := of_decide_eq_true (by first | (with_reducible assumption) | assumption); obtain ⟨ad193, A193_1, c193_1, e193, hx193_0, hx193_1, hx193_2, hx193_3, hx193_4, hx193_5, hl193_1, hi193_1⟩ := at_T138 HR0.out 0 p193 q193; obtain rfl : ad186 = ad193 := (by injection e193); have qi193 : (0 < l0.length) = True := eq_true (by omega); (try rw [show ((0 : Int)).toNat = 0 from rfl] at hx193_0); (try rw [show 0 * 6 = 0 from rfl] at hx193_0); (try rw [Addr.add_zero'] at hx193_0); (try rw [show ((0 : Int)).toNat = 0 from rfl] at hx193_1); (try rw [show 0 * 6 = 0 from rfl] at hx193_1); (try rw [Addr.add_zero'] at hx193_1); (try rw [show ((0 : Int)).toNat = 0 from rfl] at hx193_2); (try rw [show 0 * 6 = 0 from rfl] at hx193_2); (try rw [Addr.add_zero'] at hx193_2); (try rw [show ((0 : Int)).toNat = 0 from rfl] at hx193_3); (try rw [show 0 * 6 = 0 from rfl] at hx193_3); (try rw [Addr.add_zero'] at hx193_3); (try rw [show ((0 : Int)).toNat = 0 from rfl] at hx193_4); (try rw [show 0 * 6 = 0 from rfl] at hx193_4); (try rw [Addr.add_zero'] at hx193_4); (try rw [show ((0 : Int)).toNat = 0 from rfl] at hx193_5); (try rw [show 0 * 6 = 0 from rfl] at hx193_5); (try rw [Addr.add_zero'] at hx193_5); have HR193_1 := Aside0.mk hi193_1; have HC193_1 := Aside0.mk hl193_1; clear hi193_1 hl193_1; replace p193 := eq_true p193; replace q193 := eq_true q193; have ea_ := Option.some.inj (hx186_1.symm.trans hx193_1); injection ea_ with ea_ en_ ec_; subst ea_; subst ec_; clear en_) | (go_at_call 146; (with_reducible refine (spec_l02Above.calls ((rd_T138 l0 0).f2) true _ A7.out).mono ?_); rintro e w' ⟨rfl, ⟨nd, rfl⟩⟩; have p195 : 0 ≤ (0 : Int) := (by omega); have q195 : 0 < (l0.length : Int) := of_decide_eq_true (by first | (with_reducible assumption) | assumption); obtain ⟨ad195, A195_1, c195_1, e195, hx195_0, hx195_1, hx195_2, hx195_3, hx195_4, hx195_5, hl195_1, hi195_1⟩ := at_T138 HR0.out 0 p195 q195; obtain rfl : ad186 = ad195 := (by injection e195); have qi195 : (0 < l0.length) = True := eq_true (by omega); (try rw [show ((0 : Int)).toNat = 0 from rfl] at hx195_0); (try rw [show 0 * 6 = 0 from rfl] at hx195_0); (try rw [Addr.add_zero'] at hx195_0); (try rw [show ((0 : Int)).toNat = 0 from rfl] at hx195_1); (try rw [show 0 * 6 = 0 from rfl] at hx195_1); (try rw [Addr.add_zero'] at hx195_1); (try rw [show ((0 : Int)).toNat = 0 from rfl] at hx195_2); (try rw [show 0 * 6 = 0 from rfl] at hx195_2); (try rw [Addr.add_zero'] at hx195_2); (try rw [show ((0 : Int)).toNat = 0 from rfl] at hx195_3); (try rw [show 0 * 6 = 0 from rfl] at hx195_3); (try rw [Addr.add_zero'] at hx195_3); (try rw [show ((0 : Int)).toNat = 0 from rfl] at hx195_4); (try rw [show 0 * 6 = 0 from rfl] at hx195_4); (try rw [Addr.add_zero'] at hx195_4); (try rw [show ((0 : Int)).toNat = 0 from rfl] at hx195_5); (try rw [show 0 * 6 = 0 from rfl] at hx195_5); (try rw [Addr.add_zero'] at hx195_5); have HR195_1 := Aside0.mk hi195_1; have HC195_1 := Aside0.mk hl195_1; clear hi195_1 hl195_1; replace p195 := eq_true p195; replace q195 := eq_true q195; have ea_ := Option.some.inj (hx186_1.symm.trans hx195_1); injection ea_ with ea_ en_ ec_; subst ea_; subst ec_; clear en_; have p196 : 0 ≤ (0 : Int) := (by omega); have q196 : 0 < (l0.length : Int) := of_decide_eq_true (by first | (with_reducible assumption) | assumption); obtain ⟨ad196, A196_1, c196_1, e196, hx196_0, hx196_1, hx196_2, hx196_3, hx196_4, hx196_5, hl196_1, hi196_1⟩ := at_T138 HR0.out 0 p196 q196; obtain rfl : ad186 = ad196 := (by injection e196); have qi196 : (0 < l0.length) = True := eq_true (by omega); (try rw [show ((0 : Int)).toNat = 0 from rfl] at hx196_0); (try rw [show 0 * 6 = 0 from rfl] at hx196_0); (try rw [Addr.add_zero'] at hx196_0); (try rw [show ((0 : Int)).toNat = 0 from rfl] at hx196_1); (try rw [show 0 * 6 = 0 from rfl] at hx196_1); (try rw [Addr.add_zero'] at hx196_1); (try rw [show ((0 : Int)).toNat = 0 from rfl] at hx196_2); (try rw [show 0 * 6 = 0 from rfl] at hx196_2); (try rw [Addr.add_zero'] at hx196_2); (try rw [show ((0 : Int)).toNat = 0 from rfl] at hx196_3); (try rw [show 0 * 6 = 0 from rfl] at hx196_3); (try rw [Addr.add_zero'] at hx196_3); (try rw [show ((0 : Int)).toNat = 0 from rfl] at hx196_4); (try rw [show 0 * 6 = 0 from rfl] at hx196_4); (try rw [Addr.add_zero'] at hx196_4); (try rw [show ((0 : Int)).toNat = 0 from rfl] at hx196_5); (try rw [show 0 * 6 = 0 from rfl] at hx196_5); (try rw [Addr.add_zero'] at hx196_5); have HR196_1 := Aside0.mk hi196_1; have HC196_1 := Aside0.mk hl196_1; clear hi196_1 hl196_1; replace p196 := eq_true p196; replace q196 := eq_true q196; have ea_ := Option.some.inj (hx186_1.symm.trans hx196_1); injection ea_ with ea_ en_ ec_; subst ea_; subst ec_; clear en_) | (go_at_call 199; (with_reducible refine (spec_l02Least.calls ((rd_T138 l0 0).f3) true _ A9.out).mono ?_); rintro e w' ⟨rfl, ⟨nd, rfl⟩⟩; have p198 : 0 ≤ (0 : Int) := (by omega); have q198 : 0 < (l0.length : Int) := of_decide_eq_true (by first | (with_reducible assumption) | assumption); obtain ⟨ad198, A198_1, c198_1, e198, hx198_0, hx198_1, hx198_2, hx198_3, hx198_4, hx198_5, hl198_1, hi198_1⟩ := at_T138 HR0.out 0 p198 q198; obtain rfl : ad186 = ad198 := (by injection e198); have qi198 : (0 < l0.length) = True := eq_true (by omega); (try rw [show ((0 : Int)).toNat = 0 from rfl] at hx198_0); (try rw [show 0 * 6 = 0 from rfl] at hx198_0); (try rw [Addr.add_zero'] at hx198_0); (try rw [show ((0 : Int)).toNat = 0 from rfl] at hx198_1); (try rw [show 0 * 6 = 0 from rfl] at hx198_1); (try rw [Addr.add_zero'] at hx198_1); (try rw [show ((0 : Int)).toNat = 0 from rfl] at hx198_2); (try rw [show 0 * 6 = 0 from rfl] at hx198_2); (try rw [Addr.add_zero'] at hx198_2); (try rw [show ((0 : Int)).toNat = 0 from rfl] at hx198_3); (try rw [show 0 * 6 = 0 from rfl] at hx198_3); (try rw [Addr.add_zero'] at hx198_3); (try rw [show ((0 : Int)).toNat = 0 from rfl] at hx198_4); (try rw [show 0 * 6 = 0 from rfl] at hx198_4); (try rw [Addr.add_zero'] at hx198_4); (try rw [show ((0 : Int)).toNat = 0 from rfl] at hx198_5); (try rw [show 0 * 6 = 0 from rfl] at hx198_5); (try rw [Addr.add_zero'] at hx198_5); have HR198_1 := Aside0.mk hi198_1; have HC198_1 := Aside0.mk hl198_1; clear hi198_1 hl198_1; replace p198 := eq_true p198; replace q198 := eq_true q198; have ea_ := Option.some.inj (hx186_1.symm.trans hx198_1); injection ea_ with ea_ en_ ec_; subst ea_; subst ec_; clear en_; have p199 : 0 ≤ (0 : Int) := (by omega); have q199 : 0 < (l0.length : Int) := of_decide_eq_true (by first | (with_reducible assumption) | assumption); obtain ⟨ad199, A199_1, c199_1, e199, hx199_0, hx199_1, hx199_2, hx199_3, hx199_4, hx199_5, hl199_1, hi199_1⟩ := at_T138 HR0.out 0 p199 q199; obtain rfl : ad186 = ad199 := (by injection e199); have qi199 : (0 < l0.length) = True := eq_true (by omega); (try rw [show ((0 : Int)).toNat = 0 from rfl] at hx199_0); (try rw [show 0 * 6 = 0 from rfl] at hx199_0); (try rw [Addr.add_zero'] at hx199_0); (try rw [show ((0 : Int)).toNat = 0 from rfl] at hx199_1); (try rw [show 0 * 6 = 0 from rfl] at hx199_1); (try rw [Addr.add_zero'] at hx199_1); (try rw [show ((0 : Int)).toNat = 0 from rfl] at hx199_2); (try rw [show 0 * 6 = 0 from rfl] at hx199_2); (try rw [Addr.add_zero'] at hx199_2); (try rw [show ((0 : Int)).toNat = 0 from rfl] at hx199_3); (try rw [show 0 * 6 = 0 from rfl] at hx199_3); (try rw [Addr.add_zero'] at hx199_3); (try rw [show ((0 : Int)).toNat = 0 from rfl] at hx199_4); (try rw [show 0 * 6 = 0 from rfl] at hx199_4); (try rw [Addr.add_zero'] at hx199_4); (try rw [show ((0 : Int)).toNat = 0 from rfl] at hx199_5); (try rw [show 0 * 6 = 0 from rfl] at hx199_5); (try rw [Addr.add_zero'] at hx199_5); have HR199_1 := Aside0.mk hi199_1; have HC199_1 := Aside0.mk hl199_1; clear hi199_1 hl199_1; replace p199 := eq_true p199; replace q199 := eq_true q199; have ea_ := Option.some.inj (hx186_1.symm.trans hx199_1); injection ea_ with ea_ en_ ec_; subst ea_; subst ec_; clear en_) | (go_at_call 188; (with_reducible refine (spec_l02Share.calls ((rd_T138 l0 0).f4) false _ A11.out).mono ?_); rintro e w' ⟨rfl, ⟨nd, rfl⟩⟩))
       go_ret
       exact ⟨by first | rfl | (simp; done) | (simp [*]; done), by repeat (first | exact Drawn0.refl _ | apply Drawn0.step)⟩
     ·replace c10 := Bool.eq_false_iff.mpr c10
      subst c10
      have H1 : (some false) = some r := by rw [if_neg (show ¬ (false = true) by decide)] at H; exact H
      clear H
      have H := H1
      clear H1
      obtain rfl := Option.some.inj H
      have p186 : 0 ≤ (0 : Int) := (by omega)
      have q186 : 0 < (l0.length : Int) := of_decide_eq_true (by first | (with_reducible assumption) | assumption)
      obtain ⟨ad186, A186_1, c186_1, e186, hx186_0, hx186_1, hx186_2, hx186_3, hx186_4, hx186_5, hl186_1, hi186_1⟩ := at_T138 HR0.out 0 p186 q186
      cases e186
      have qi186 : (0 < l0.length) = True := eq_true (by omega)
      (try rw [show ((0 : Int)).toNat = 0 from rfl] at hx186_0)
      (try rw [show 0 * 6 = 0 from rfl] at hx186_0)
      (try rw [Addr.add_zero'] at hx186_0)
      (try rw [show ((0 : Int)).toNat = 0 from rfl] at hx186_1)
      (try rw [show 0 * 6 = 0 from rfl] at hx186_1)
      (try rw [Addr.add_zero'] at hx186_1)
      (try rw [show ((0 : Int)).toNat = 0 from rfl] at hx186_2)
      (try rw [show 0 * 6 = 0 from rfl] at hx186_2)
      (try rw [Addr.add_zero'] at hx186_2)
      (try rw [show ((0 : Int)).toNat = 0 from rfl] at hx186_3)
      (try rw [show 0 * 6 = 0 from rfl] at hx186_3)
      (try rw [Addr.add_zero'] at hx186_3)
      (try rw [show ((0 : Int)).toNat = 0 from rfl] at hx186_4)
      (try rw [show 0 * 6 = 0 from rfl] at hx186_4)
      (try rw [Addr.add_zero'] at hx186_4)
      (try rw [show ((0 : Int)).toNat = 0 from rfl] at hx186_5)
      (try rw [show 0 * 6 = 0 from rfl] at hx186_5)
      (try rw [Addr.add_zero'] at hx186_5)
      have HR186_1 := Aside0.mk hi186_1
      have HC186_1 := Aside0.mk hl186_1
      clear hi186_1 hl186_1
      replace p186 := eq_true p186
      replace q186 := eq_true q186
      have p187 : 0 ≤ (0 : Int) := (by omega)
      have q187 : 0 < (l0.length : Int) := of_decide_eq_true (by first | (with_reducible assumption) | assumption)
      obtain ⟨ad187, A187_1, c187_1, e187, hx187_0, hx187_1, hx187_2, hx187_3, hx187_4, hx187_5, hl187_1, hi187_1⟩ := at_T138 HR0.out 0 p187 q187
      obtain rfl : ad186 = ad187 := (by injection e187)
      have qi187 : (0 < l0.length) = True := eq_true (by omega)
      (try rw [show ((0 : Int)).toNat = 0 from rfl] at hx187_0)
      (try rw [show 0 * 6 = 0 from rfl] at hx187_0)
      (try rw [Addr.add_zero'] at hx187_0)
      (try rw [show ((0 : Int)).toNat = 0 from rfl] at hx187_1)
      (try rw [show 0 * 6 = 0 from rfl] at hx187_1)
      (try rw [Addr.add_zero'] at hx187_1)
      (try rw [show ((0 : Int)).toNat = 0 from rfl] at hx187_2)
      (try rw [show 0 * 6 = 0 from rfl] at hx187_2)
      (try rw [Addr.add_zero'] at hx187_2)
      (try rw [show ((0 : Int)).toNat = 0 from rfl] at hx187_3)
      (try rw [show 0 * 6 = 0 from rfl] at hx187_3)
      (try rw [Addr.add_zero'] at hx187_3)
      (try rw [show ((0 : Int)).toNat = 0 from rfl] at hx187_4)
      (try rw [show 0 * 6 = 0 from rfl] at hx187_4)
      (try rw [Addr.add_zero'] at hx187_4)
      (try rw [show ((0 : Int)).toNat = 0 from rfl] at hx187_5)
      (try rw [show 0 * 6 = 0 from rfl] at hx187_5)
      (try rw [Addr.add_zero'] at hx187_5)
      have HR187_1 := Aside0.mk hi187_1
      have HC187_1 := Aside0.mk hl187_1
      clear hi187_1 hl187_1
      replace p187 := eq_true p187
      replace q187 := eq_true q187
      have ea_ := Option.some.inj (hx186_1.symm.trans hx187_1)
      injection ea_ with ea_ en_ ec_
      subst ea_
      subst ec_
      clear en_
      go_enter Try.func166, Try.ntmps166
      go_wp2_with (first | ((with_reducible refine gate_callee (f := 197) rfl ?_); refine goesL_ (some 7) rfl rfl Try.func197 (by kernel_rfl) rfl #[.string ((rd_T138 l0 0).f0)] rfl (by (try simp only [List.map_toArray, List.map_cons, List.map_nil]); first | done | rfl | (simp only [List.length_drop, List.length_take]; rfl)) ?_; (with_reducible refine (spec_l06Name.calls k ((rd_T138 l0 0).f0) true _ A3.out).mono ?_); rintro e w' ⟨rfl, ⟨nd, rfl⟩⟩; refine ⟨_, rfl, ?_⟩; have p189 : 0 ≤ (0 : Int) := (by omega); have q189 : 0 < (l0.length : Int) := of_decide_eq_true (by first | (with_reducible assumption) | assumption); obtain ⟨ad189, A189_1, c189_1, e189, hx189_0, hx189_1, hx189_2, hx189_3, hx189_4, hx189_5, hl189_1, hi189_1⟩ := at_T138 HR0.out 0 p189 q189; obtain rfl : ad186 = ad189 := (by injection e189); have qi189 : (0 < l0.length) = True := eq_true (by omega); (try rw [show ((0 : Int)).toNat = 0 from rfl] at hx189_0); (try rw [show 0 * 6 = 0 from rfl] at hx189_0); (try rw [Addr.add_zero'] at hx189_0); (try rw [show ((0 : Int)).toNat = 0 from rfl] at hx189_1); (try rw [show 0 * 6 = 0 from rfl] at hx189_1); (try rw [Addr.add_zero'] at hx189_1); (try rw [show ((0 : Int)).toNat = 0 from rfl] at hx189_2); (try rw [show 0 * 6 = 0 from rfl] at hx189_2); (try rw [Addr.add_zero'] at hx189_2); (try rw [show ((0 : Int)).toNat = 0 from rfl] at hx189_3); (try rw [show 0 * 6 = 0 from rfl] at hx189_3); (try rw [Addr.add_zero'] at hx189_3); (try rw [show ((0 : Int)).toNat = 0 from rfl] at hx189_4); (try rw [show 0 * 6 = 0 from rfl] at hx189_4); (try rw [Addr.add_zero'] at hx189_4); (try rw [show ((0 : Int)).toNat = 0 from rfl] at hx189_5); (try rw [show 0 * 6 = 0 from rfl] at hx189_5); (try rw [Addr.add_zero'] at hx189_5); have HR189_1 := Aside0.mk hi189_1; have HC189_1 := Aside0.mk hl189_1; clear hi189_1 hl189_1; replace p189 := eq_true p189; replace q189 := eq_true q189; have ea_ := Option.some.inj (hx186_1.symm.trans hx189_1); injection ea_ with ea_ en_ ec_; subst ea_; subst ec_; clear en_; have p190 : 0 ≤ (0 : Int) := (by omega); have q190 : 0 < (l0.length : Int) := of_decide_eq_true (by first | (with_reducible assumption) | assumption); obtain ⟨ad190, A190_1, c190_1, e190, hx190_0, hx190_1, hx190_2, hx190_3, hx190_4, hx190_5, hl190_1, hi190_1⟩ := at_T138 HR0.out 0 p190 q190; obtain rfl : ad186 = ad190 := (by injection e190); have qi190 : (0 < l0.length) = True := eq_true (by omega); (try rw [show ((0 : Int)).toNat = 0 from rfl] at hx190_0); (try rw [show 0 * 6 = 0 from rfl] at hx190_0); (try rw [Addr.add_zero'] at hx190_0); (try rw [show ((0 : Int)).toNat = 0 from rfl] at hx190_1); (try rw [show 0 * 6 = 0 from rfl] at hx190_1); (try rw [Addr.add_zero'] at hx190_1); (try rw [show ((0 : Int)).toNat = 0 from rfl] at hx190_2); (try rw [show 0 * 6 = 0 from rfl] at hx190_2); (try rw [Addr.add_zero'] at hx190_2); (try rw [show ((0 : Int)).toNat = 0 from rfl] at hx190_3); (try rw [show 0 * 6 = 0 from rfl] at hx190_3); (try rw [Addr.add_zero'] at hx190_3); (try rw [show ((0 : Int)).toNat = 0 from rfl] at hx190_4); (try rw [show 0 * 6 = 0 from rfl] at hx190_4); (try rw [Addr.add_zero'] at hx190_4); (try rw [show ((0 : Int)).toNat = 0 from rfl] at hx190_5); (try rw [show 0 * 6 = 0 from rfl] at hx190_5); (try rw [Addr.add_zero'] at hx190_5); have HR190_1 := Aside0.mk hi190_1; have HC190_1 := Aside0.mk hl190_1; clear hi190_1 hl190_1; replace p190 := eq_true p190; replace q190 := eq_true q190; have ea_ := Option.some.inj (hx186_1.symm.trans hx190_1); injection ea_ with ea_ en_ ec_; subst ea_; subst ec_; clear en_) | (go_at_call 198; (with_reducible refine (spec_l02Areas.calls k _ _ ((rd_T138 l0 0).f1) true _ ?side1 ?side2 A5.out).mono ?_); (case side1 => repeat (first | exact HR190_1.out | (with_reducible refine Kd.C_alloc ?_ _) | (with_reducible refine Kd.C_drewN ?_ _) | (with_reducible refine Kd.C_drew ?_))); (case side2 => exact HC190_1.out); rintro e w' ⟨rfl, ⟨nd, rfl⟩⟩; have p192 : 0 ≤ (0 : Int) := (by omega); have q192 : 0 < (l0.length : Int) := of_decide_eq_true (by first | (with_reducible assumption) | assumption); obtain ⟨ad192, A192_1, c192_1, e192, hx192_0, hx192_1, hx192_2, hx192_3, hx192_4, hx192_5, hl192_1, hi192_1⟩ := at_T138 HR0.out 0 p192 q192; obtain rfl : ad186 = ad192 := (by injection e192); have qi192 : (0 < l0.length) = True := eq_true (by omega); (try rw [show ((0 : Int)).toNat = 0 from rfl] at hx192_0); (try rw [show 0 * 6 = 0 from rfl] at hx192_0); (try rw [Addr.add_zero'] at hx192_0); (try rw [show ((0 : Int)).toNat = 0 from rfl] at hx192_1); (try rw [show 0 * 6 = 0 from rfl] at hx192_1); (try rw [Addr.add_zero'] at hx192_1); (try rw [show ((0 : Int)).toNat = 0 from rfl] at hx192_2); (try rw [show 0 * 6 = 0 from rfl] at hx192_2); (try rw [Addr.add_zero'] at hx192_2); (try rw [show ((0 : Int)).toNat = 0 from rfl] at hx192_3); (try rw [show 0 * 6 = 0 from rfl] at hx192_3); (try rw [Addr.add_zero'] at hx192_3); (try rw [show ((0 : Int)).toNat = 0 from rfl] at hx192_4); (try rw [show 0 * 6 = 0 from rfl] at hx192_4); (try rw [Addr.add_zero'] at hx192_4); (try rw [show ((0 : Int)).toNat = 0 from rfl] at hx192_5); (try rw [show 0 * 6 = 0 from rfl] at hx192_5); (try rw [Addr.add_zero'] at hx192_5); have HR192_1 := Aside0.mk hi192_1; have HC192_1 := Aside0.mk hl192_1; clear hi192_1 hl192_1; replace p192 := eq_true p192; replace q192 := eq_true q192; have ea_ := Option.some.inj (hx186_1.symm.trans hx192_1); injection ea_ with ea_ en_ ec_; subst ea_; subst ec_; clear en_; have p193 : 0 ≤ (0 : Int) := (by omega); have q193 : 0 < (l0.length : Int) := of_decide_eq_true (by first | (with_reducible assumption) | assumption); obtain ⟨ad193, A193_1, c193_1, e193, hx193_0, hx193_1, hx193_2, hx193_3, hx193_4, hx193_5, hl193_1, hi193_1⟩ := at_T138 HR0.out 0 p193 q193; obtain rfl : ad186 = ad193 := (by injection e193); have qi193 : (0 < l0.length) = True := eq_true (by omega); (try rw [show ((0 : Int)).toNat = 0 from rfl] at hx193_0); (try rw [show 0 * 6 = 0 from rfl] at hx193_0); (try rw [Addr.add_zero'] at hx193_0); (try rw [show ((0 : Int)).toNat = 0 from rfl] at hx193_1); (try rw [show 0 * 6 = 0 from rfl] at hx193_1); (try rw [Addr.add_zero'] at hx193_1); (try rw [show ((0 : Int)).toNat = 0 from rfl] at hx193_2); (try rw [show 0 * 6 = 0 from rfl] at hx193_2); (try rw [Addr.add_zero'] at hx193_2); (try rw [show ((0 : Int)).toNat = 0 from rfl] at hx193_3); (try rw [show 0 * 6 = 0 from rfl] at hx193_3); (try rw [Addr.add_zero'] at hx193_3); (try rw [show ((0 : Int)).toNat = 0 from rfl] at hx193_4); (try rw [show 0 * 6 = 0 from rfl] at hx193_4); (try rw [Addr.add_zero'] at hx193_4); (try rw [show ((0 : Int)).toNat = 0 from rfl] at hx193_5); (try rw [show 0 * 6 = 0 from rfl] at hx193_5); (try rw [Addr.add_zero'] at hx193_5); have HR193_1 := Aside0.mk hi193_1; have HC193_1 := Aside0.mk hl193_1; clear hi193_1 hl193_1; replace p193 := eq_true p193; replace q193 := eq_true q193; have ea_ := Option.some.inj (hx186_1.symm.trans hx193_1); injection ea_ with ea_ en_ ec_; subst ea_; subst ec_; clear en_) | (go_at_call 146; (with_reducible refine (spec_l02Above.calls ((rd_T138 l0 0).f2) true _ A7.out).mono ?_); rintro e w' ⟨rfl, ⟨nd, rfl⟩⟩; have p195 : 0 ≤ (0 : Int) := (by omega); have q195 : 0 < (l0.length : Int) := of_decide_eq_true (by first | (with_reducible assumption) | assumption); obtain ⟨ad195, A195_1, c195_1, e195, hx195_0, hx195_1, hx195_2, hx195_3, hx195_4, hx195_5, hl195_1, hi195_1⟩ := at_T138 HR0.out 0 p195 q195; obtain rfl : ad186 = ad195 := (by injection e195); have qi195 : (0 < l0.length) = True := eq_true (by omega); (try rw [show ((0 : Int)).toNat = 0 from rfl] at hx195_0); (try rw [show 0 * 6 = 0 from rfl] at hx195_0); (try rw [Addr.add_zero'] at hx195_0); (try rw [show ((0 : Int)).toNat = 0 from rfl] at hx195_1); (try rw [show 0 * 6 = 0 from rfl] at hx195_1); (try rw [Addr.add_zero'] at hx195_1); (try rw [show ((0 : Int)).toNat = 0 from rfl] at hx195_2); (try rw [show 0 * 6 = 0 from rfl] at hx195_2); (try rw [Addr.add_zero'] at hx195_2); (try rw [show ((0 : Int)).toNat = 0 from rfl] at hx195_3); (try rw [show 0 * 6 = 0 from rfl] at hx195_3); (try rw [Addr.add_zero'] at hx195_3); (try rw [show ((0 : Int)).toNat = 0 from rfl] at hx195_4); (try rw [show 0 * 6 = 0 from rfl] at hx195_4); (try rw [Addr.add_zero'] at hx195_4); (try rw [show ((0 : Int)).toNat = 0 from rfl] at hx195_5); (try rw [show 0 * 6 = 0 from rfl] at hx195_5); (try rw [Addr.add_zero'] at hx195_5); have HR195_1 := Aside0.mk hi195_1; have HC195_1 := Aside0.mk hl195_1; clear hi195_1 hl195_1; replace p195 := eq_true p195; replace q195 := eq_true q195; have ea_ := Option.some.inj (hx186_1.symm.trans hx195_1); injection ea_ with ea_ en_ ec_; subst ea_; subst ec_; clear en_; have p196 : 0 ≤ (0 : Int) := (by omega); have q196 : 0 < (l0.length : Int) := of_decide_eq_true (by first | (with_reducible assumption) | assumption); obtain ⟨ad196, A196_1, c196_1, e196, hx196_0, hx196_1, hx196_2, hx196_3, hx196_4, hx196_5, hl196_1, hi196_1⟩ := at_T138 HR0.out 0 p196 q196; obtain rfl : ad186 = ad196 := (by injection e196); have qi196 : (0 < l0.length) = True := eq_true (by omega); (try rw [show ((0 : Int)).toNat = 0 from rfl] at hx196_0); (try rw [show 0 * 6 = 0 from rfl] at hx196_0); (try rw [Addr.add_zero'] at hx196_0); (try rw [show ((0 : Int)).toNat = 0 from rfl] at hx196_1); (try rw [show 0 * 6 = 0 from rfl] at hx196_1); (try rw [Addr.add_zero'] at hx196_1); (try rw [show ((0 : Int)).toNat = 0 from rfl] at hx196_2); (try rw [show 0 * 6 = 0 from rfl] at hx196_2); (try rw [Addr.add_zero'] at hx196_2); (try rw [show ((0 : Int)).toNat = 0 from rfl] at hx196_3); (try rw [show 0 * 6 = 0 from rfl] at hx196_3); (try rw [Addr.add_zero'] at hx196_3); (try rw [show ((0 : Int)).toNat = 0 from rfl] at hx196_4); (try rw [show 0 * 6 = 0 from rfl] at hx196_4); (try rw [Addr.add_zero'] at hx196_4); (try rw [show ((0 : Int)).toNat = 0 from rfl] at hx196_5); (try rw [show 0 * 6 = 0 from rfl] at hx196_5); (try rw [Addr.add_zero'] at hx196_5); have HR196_1 := Aside0.mk hi196_1; have HC196_1 := Aside0.mk hl196_1; clear hi196_1 hl196_1; replace p196 := eq_true p196; replace q196 := eq_true q196; have ea_ := Option.some.inj (hx186_1.symm.trans hx196_1); injection ea_ with ea_ en_ ec_; subst ea_; subst ec_; clear en_) | (go_at_call 199; (with_reducible refine (spec_l02Least.calls ((rd_T138 l0 0).f3) false _ A9.out).mono ?_); rintro e w' ⟨rfl, ⟨nd, rfl⟩⟩))
      go_ret
      exact ⟨by first | rfl | (simp; done) | (simp [*]; done), by repeat (first | exact Drawn0.refl _ | apply Drawn0.step)⟩
    ·replace c8 := Bool.eq_false_iff.mpr c8
     subst c8
     have H1 : (some false) = some r := by rw [if_neg (show ¬ (false = true) by decide)] at H; exact H
     clear H
     have H := H1
     clear H1
     obtain rfl := Option.some.inj H
     have p186 : 0 ≤ (0 : Int) := (by omega)
     have q186 : 0 < (l0.length : Int) := of_decide_eq_true (by first | (with_reducible assumption) | assumption)
     obtain ⟨ad186, A186_1, c186_1, e186, hx186_0, hx186_1, hx186_2, hx186_3, hx186_4, hx186_5, hl186_1, hi186_1⟩ := at_T138 HR0.out 0 p186 q186
     cases e186
     have qi186 : (0 < l0.length) = True := eq_true (by omega)
     (try rw [show ((0 : Int)).toNat = 0 from rfl] at hx186_0)
     (try rw [show 0 * 6 = 0 from rfl] at hx186_0)
     (try rw [Addr.add_zero'] at hx186_0)
     (try rw [show ((0 : Int)).toNat = 0 from rfl] at hx186_1)
     (try rw [show 0 * 6 = 0 from rfl] at hx186_1)
     (try rw [Addr.add_zero'] at hx186_1)
     (try rw [show ((0 : Int)).toNat = 0 from rfl] at hx186_2)
     (try rw [show 0 * 6 = 0 from rfl] at hx186_2)
     (try rw [Addr.add_zero'] at hx186_2)
     (try rw [show ((0 : Int)).toNat = 0 from rfl] at hx186_3)
     (try rw [show 0 * 6 = 0 from rfl] at hx186_3)
     (try rw [Addr.add_zero'] at hx186_3)
     (try rw [show ((0 : Int)).toNat = 0 from rfl] at hx186_4)
     (try rw [show 0 * 6 = 0 from rfl] at hx186_4)
     (try rw [Addr.add_zero'] at hx186_4)
     (try rw [show ((0 : Int)).toNat = 0 from rfl] at hx186_5)
     (try rw [show 0 * 6 = 0 from rfl] at hx186_5)
     (try rw [Addr.add_zero'] at hx186_5)
     have HR186_1 := Aside0.mk hi186_1
     have HC186_1 := Aside0.mk hl186_1
     clear hi186_1 hl186_1
     replace p186 := eq_true p186
     replace q186 := eq_true q186
     have p187 : 0 ≤ (0 : Int) := (by omega)
     have q187 : 0 < (l0.length : Int) := of_decide_eq_true (by first | (with_reducible assumption) | assumption)
     obtain ⟨ad187, A187_1, c187_1, e187, hx187_0, hx187_1, hx187_2, hx187_3, hx187_4, hx187_5, hl187_1, hi187_1⟩ := at_T138 HR0.out 0 p187 q187
     obtain rfl : ad186 = ad187 := (by injection e187)
     have qi187 : (0 < l0.length) = True := eq_true (by omega)
     (try rw [show ((0 : Int)).toNat = 0 from rfl] at hx187_0)
     (try rw [show 0 * 6 = 0 from rfl] at hx187_0)
     (try rw [Addr.add_zero'] at hx187_0)
     (try rw [show ((0 : Int)).toNat = 0 from rfl] at hx187_1)
     (try rw [show 0 * 6 = 0 from rfl] at hx187_1)
     (try rw [Addr.add_zero'] at hx187_1)
     (try rw [show ((0 : Int)).toNat = 0 from rfl] at hx187_2)
     (try rw [show 0 * 6 = 0 from rfl] at hx187_2)
     (try rw [Addr.add_zero'] at hx187_2)
     (try rw [show ((0 : Int)).toNat = 0 from rfl] at hx187_3)
     (try rw [show 0 * 6 = 0 from rfl] at hx187_3)
     (try rw [Addr.add_zero'] at hx187_3)
     (try rw [show ((0 : Int)).toNat = 0 from rfl] at hx187_4)
     (try rw [show 0 * 6 = 0 from rfl] at hx187_4)
     (try rw [Addr.add_zero'] at hx187_4)
     (try rw [show ((0 : Int)).toNat = 0 from rfl] at hx187_5)
     (try rw [show 0 * 6 = 0 from rfl] at hx187_5)
     (try rw [Addr.add_zero'] at hx187_5)
     have HR187_1 := Aside0.mk hi187_1
     have HC187_1 := Aside0.mk hl187_1
     clear hi187_1 hl187_1
     replace p187 := eq_true p187
     replace q187 := eq_true q187
     have ea_ := Option.some.inj (hx186_1.symm.trans hx187_1)
     injection ea_ with ea_ en_ ec_
     subst ea_
     subst ec_
     clear en_
     go_enter Try.func166, Try.ntmps166
     go_wp2_with (first | ((with_reducible refine gate_callee (f := 197) rfl ?_); refine goesL_ (some 7) rfl rfl Try.func197 (by kernel_rfl) rfl #[.string ((rd_T138 l0 0).f0)] rfl (by (try simp only [List.map_toArray, List.map_cons, List.map_nil]); first | done | rfl | (simp only [List.length_drop, List.length_take]; rfl)) ?_; (with_reducible refine (spec_l06Name.calls k ((rd_T138 l0 0).f0) true _ A3.out).mono ?_); rintro e w' ⟨rfl, ⟨nd, rfl⟩⟩; refine ⟨_, rfl, ?_⟩; have p189 : 0 ≤ (0 : Int) := (by omega); have q189 : 0 < (l0.length : Int) := of_decide_eq_true (by first | (with_reducible assumption) | assumption); obtain ⟨ad189, A189_1, c189_1, e189, hx189_0, hx189_1, hx189_2, hx189_3, hx189_4, hx189_5, hl189_1, hi189_1⟩ := at_T138 HR0.out 0 p189 q189; obtain rfl : ad186 = ad189 := (by injection e189); have qi189 : (0 < l0.length) = True := eq_true (by omega); (try rw [show ((0 : Int)).toNat = 0 from rfl] at hx189_0); (try rw [show 0 * 6 = 0 from rfl] at hx189_0); (try rw [Addr.add_zero'] at hx189_0); (try rw [show ((0 : Int)).toNat = 0 from rfl] at hx189_1); (try rw [show 0 * 6 = 0 from rfl] at hx189_1); (try rw [Addr.add_zero'] at hx189_1); (try rw [show ((0 : Int)).toNat = 0 from rfl] at hx189_2); (try rw [show 0 * 6 = 0 from rfl] at hx189_2); (try rw [Addr.add_zero'] at hx189_2); (try rw [show ((0 : Int)).toNat = 0 from rfl] at hx189_3); (try rw [show 0 * 6 = 0 from rfl] at hx189_3); (try rw [Addr.add_zero'] at hx189_3); (try rw [show ((0 : Int)).toNat = 0 from rfl] at hx189_4); (try rw [show 0 * 6 = 0 from rfl] at hx189_4); (try rw [Addr.add_zero'] at hx189_4); (try rw [show ((0 : Int)).toNat = 0 from rfl] at hx189_5); (try rw [show 0 * 6 = 0 from rfl] at hx189_5); (try rw [Addr.add_zero'] at hx189_5); have HR189_1 := Aside0.mk hi189_1; have HC189_1 := Aside0.mk hl189_1; clear hi189_1 hl189_1; replace p189 := eq_true p189; replace q189 := eq_true q189; have ea_ := Option.some.inj (hx186_1.symm.trans hx189_1); injection ea_ with ea_ en_ ec_; subst ea_; subst ec_; clear en_; have p190 : 0 ≤ (0 : Int) := (by omega); have q190 : 0 < (l0.length : Int) := of_decide_eq_true (by first | (with_reducible assumption) | assumption); obtain ⟨ad190, A190_1, c190_1, e190, hx190_0, hx190_1, hx190_2, hx190_3, hx190_4, hx190_5, hl190_1, hi190_1⟩ := at_T138 HR0.out 0 p190 q190; obtain rfl : ad186 = ad190 := (by injection e190); have qi190 : (0 < l0.length) = True := eq_true (by omega); (try rw [show ((0 : Int)).toNat = 0 from rfl] at hx190_0); (try rw [show 0 * 6 = 0 from rfl] at hx190_0); (try rw [Addr.add_zero'] at hx190_0); (try rw [show ((0 : Int)).toNat = 0 from rfl] at hx190_1); (try rw [show 0 * 6 = 0 from rfl] at hx190_1); (try rw [Addr.add_zero'] at hx190_1); (try rw [show ((0 : Int)).toNat = 0 from rfl] at hx190_2); (try rw [show 0 * 6 = 0 from rfl] at hx190_2); (try rw [Addr.add_zero'] at hx190_2); (try rw [show ((0 : Int)).toNat = 0 from rfl] at hx190_3); (try rw [show 0 * 6 = 0 from rfl] at hx190_3); (try rw [Addr.add_zero'] at hx190_3); (try rw [show ((0 : Int)).toNat = 0 from rfl] at hx190_4); (try rw [show 0 * 6 = 0 from rfl] at hx190_4); (try rw [Addr.add_zero'] at hx190_4); (try rw [show ((0 : Int)).toNat = 0 from rfl] at hx190_5); (try rw [show 0 * 6 = 0 from rfl] at hx190_5); (try rw [Addr.add_zero'] at hx190_5); have HR190_1 := Aside0.mk hi190_1; have HC190_1 := Aside0.mk hl190_1; clear hi190_1 hl190_1; replace p190 := eq_true p190; replace q190 := eq_true q190; have ea_ := Option.some.inj (hx186_1.symm.trans hx190_1); injection ea_ with ea_ en_ ec_; subst ea_; subst ec_; clear en_) | (go_at_call 198; (with_reducible refine (spec_l02Areas.calls k _ _ ((rd_T138 l0 0).f1) true _ ?side1 ?side2 A5.out).mono ?_); (case side1 => repeat (first | exact HR190_1.out | (with_reducible refine Kd.C_alloc ?_ _) | (with_reducible refine Kd.C_drewN ?_ _) | (with_reducible refine Kd.C_drew ?_))); (case side2 => exact HC190_1.out); rintro e w' ⟨rfl, ⟨nd, rfl⟩⟩; have p192 : 0 ≤ (0 : Int) := (by omega); have q192 : 0 < (l0.length : Int) := of_decide_eq_true (by first | (with_reducible assumption) | assumption); obtain ⟨ad192, A192_1, c192_1, e192, hx192_0, hx192_1, hx192_2, hx192_3, hx192_4, hx192_5, hl192_1, hi192_1⟩ := at_T138 HR0.out 0 p192 q192; obtain rfl : ad186 = ad192 := (by injection e192); have qi192 : (0 < l0.length) = True := eq_true (by omega); (try rw [show ((0 : Int)).toNat = 0 from rfl] at hx192_0); (try rw [show 0 * 6 = 0 from rfl] at hx192_0); (try rw [Addr.add_zero'] at hx192_0); (try rw [show ((0 : Int)).toNat = 0 from rfl] at hx192_1); (try rw [show 0 * 6 = 0 from rfl] at hx192_1); (try rw [Addr.add_zero'] at hx192_1); (try rw [show ((0 : Int)).toNat = 0 from rfl] at hx192_2); (try rw [show 0 * 6 = 0 from rfl] at hx192_2); (try rw [Addr.add_zero'] at hx192_2); (try rw [show ((0 : Int)).toNat = 0 from rfl] at hx192_3); (try rw [show 0 * 6 = 0 from rfl] at hx192_3); (try rw [Addr.add_zero'] at hx192_3); (try rw [show ((0 : Int)).toNat = 0 from rfl] at hx192_4); (try rw [show 0 * 6 = 0 from rfl] at hx192_4); (try rw [Addr.add_zero'] at hx192_4); (try rw [show ((0 : Int)).toNat = 0 from rfl] at hx192_5); (try rw [show 0 * 6 = 0 from rfl] at hx192_5); (try rw [Addr.add_zero'] at hx192_5); have HR192_1 := Aside0.mk hi192_1; have HC192_1 := Aside0.mk hl192_1; clear hi192_1 hl192_1; replace p192 := eq_true p192; replace q192 := eq_true q192; have ea_ := Option.some.inj (hx186_1.symm.trans hx192_1); injection ea_ with ea_ en_ ec_; subst ea_; subst ec_; clear en_; have p193 : 0 ≤ (0 : Int) := (by omega); have q193 : 0 < (l0.length : Int) := of_decide_eq_true (by first | (with_reducible assumption) | assumption); obtain ⟨ad193, A193_1, c193_1, e193, hx193_0, hx193_1, hx193_2, hx193_3, hx193_4, hx193_5, hl193_1, hi193_1⟩ := at_T138 HR0.out 0 p193 q193; obtain rfl : ad186 = ad193 := (by injection e193); have qi193 : (0 < l0.length) = True := eq_true (by omega); (try rw [show ((0 : Int)).toNat = 0 from rfl] at hx193_0); (try rw [show 0 * 6 = 0 from rfl] at hx193_0); (try rw [Addr.add_zero'] at hx193_0); (try rw [show ((0 : Int)).toNat = 0 from rfl] at hx193_1); (try rw [show 0 * 6 = 0 from rfl] at hx193_1); (try rw [Addr.add_zero'] at hx193_1); (try rw [show ((0 : Int)).toNat = 0 from rfl] at hx193_2); (try rw [show 0 * 6 = 0 from rfl] at hx193_2); (try rw [Addr.add_zero'] at hx193_2); (try rw [show ((0 : Int)).toNat = 0 from rfl] at hx193_3); (try rw [show 0 * 6 = 0 from rfl] at hx193_3); (try rw [Addr.add_zero'] at hx193_3); (try rw [show ((0 : Int)).toNat = 0 from rfl] at hx193_4); (try rw [show 0 * 6 = 0 from rfl] at hx193_4); (try rw [Addr.add_zero'] at hx193_4); (try rw [show ((0 : Int)).toNat = 0 from rfl] at hx193_5); (try rw [show 0 * 6 = 0 from rfl] at hx193_5); (try rw [Addr.add_zero'] at hx193_5); have HR193_1 := Aside0.mk hi193_1; have HC193_1 := Aside0.mk hl193_1; clear hi193_1 hl193_1; replace p193 := eq_true p193; replace q193 := eq_true q193; have ea_ := Option.some.inj (hx186_1.symm.trans hx193_1); injection ea_ with ea_ en_ ec_; subst ea_; subst ec_; clear en_) | (go_at_call 146; (with_reducible refine (spec_l02Above.calls ((rd_T138 l0 0).f2) false _ A7.out).mono ?_); rintro e w' ⟨rfl, ⟨nd, rfl⟩⟩))
     go_ret
     exact ⟨by first | rfl | (simp; done) | (simp [*]; done), by repeat (first | exact Drawn0.refl _ | apply Drawn0.step)⟩
   ·replace c6 := Bool.eq_false_iff.mpr c6
    subst c6
    have H1 : (some false) = some r := by rw [if_neg (show ¬ (false = true) by decide)] at H; exact H
    clear H
    have H := H1
    clear H1
    obtain rfl := Option.some.inj H
    have p186 : 0 ≤ (0 : Int) := (by omega)
    have q186 : 0 < (l0.length : Int) := of_decide_eq_true (by first | (with_reducible assumption) | assumption)
    obtain ⟨ad186, A186_1, c186_1, e186, hx186_0, hx186_1, hx186_2, hx186_3, hx186_4, hx186_5, hl186_1, hi186_1⟩ := at_T138 HR0.out 0 p186 q186
    cases e186
    have qi186 : (0 < l0.length) = True := eq_true (by omega)
    (try rw [show ((0 : Int)).toNat = 0 from rfl] at hx186_0)
    (try rw [show 0 * 6 = 0 from rfl] at hx186_0)
    (try rw [Addr.add_zero'] at hx186_0)
    (try rw [show ((0 : Int)).toNat = 0 from rfl] at hx186_1)
    (try rw [show 0 * 6 = 0 from rfl] at hx186_1)
    (try rw [Addr.add_zero'] at hx186_1)
    (try rw [show ((0 : Int)).toNat = 0 from rfl] at hx186_2)
    (try rw [show 0 * 6 = 0 from rfl] at hx186_2)
    (try rw [Addr.add_zero'] at hx186_2)
    (try rw [show ((0 : Int)).toNat = 0 from rfl] at hx186_3)
    (try rw [show 0 * 6 = 0 from rfl] at hx186_3)
    (try rw [Addr.add_zero'] at hx186_3)
    (try rw [show ((0 : Int)).toNat = 0 from rfl] at hx186_4)
    (try rw [show 0 * 6 = 0 from rfl] at hx186_4)
    (try rw [Addr.add_zero'] at hx186_4)
    (try rw [show ((0 : Int)).toNat = 0 from rfl] at hx186_5)
    (try rw [show 0 * 6 = 0 from rfl] at hx186_5)
    (try rw [Addr.add_zero'] at hx186_5)
    have HR186_1 := Aside0.mk hi186_1
    have HC186_1 := Aside0.mk hl186_1
    clear hi186_1 hl186_1
    replace p186 := eq_true p186
    replace q186 := eq_true q186
    have p187 : 0 ≤ (0 : Int) := (by omega)
    have q187 : 0 < (l0.length : Int) := of_decide_eq_true (by first | (with_reducible assumption) | assumption)
    obtain ⟨ad187, A187_1, c187_1, e187, hx187_0, hx187_1, hx187_2, hx187_3, hx187_4, hx187_5, hl187_1, hi187_1⟩ := at_T138 HR0.out 0 p187 q187
    obtain rfl : ad186 = ad187 := (by injection e187)
    have qi187 : (0 < l0.length) = True := eq_true (by omega)
    (try rw [show ((0 : Int)).toNat = 0 from rfl] at hx187_0)
    (try rw [show 0 * 6 = 0 from rfl] at hx187_0)
    (try rw [Addr.add_zero'] at hx187_0)
    (try rw [show ((0 : Int)).toNat = 0 from rfl] at hx187_1)
    (try rw [show 0 * 6 = 0 from rfl] at hx187_1)
    (try rw [Addr.add_zero'] at hx187_1)
    (try rw [show ((0 : Int)).toNat = 0 from rfl] at hx187_2)
    (try rw [show 0 * 6 = 0 from rfl] at hx187_2)
    (try rw [Addr.add_zero'] at hx187_2)
    (try rw [show ((0 : Int)).toNat = 0 from rfl] at hx187_3)
    (try rw [show 0 * 6 = 0 from rfl] at hx187_3)
    (try rw [Addr.add_zero'] at hx187_3)
    (try rw [show ((0 : Int)).toNat = 0 from rfl] at hx187_4)
    (try rw [show 0 * 6 = 0 from rfl] at hx187_4)
    (try rw [Addr.add_zero'] at hx187_4)
    (try rw [show ((0 : Int)).toNat = 0 from rfl] at hx187_5)
    (try rw [show 0 * 6 = 0 from rfl] at hx187_5)
    (try rw [Addr.add_zero'] at hx187_5)
    have HR187_1 := Aside0.mk hi187_1
    have HC187_1 := Aside0.mk hl187_1
    clear hi187_1 hl187_1
    replace p187 := eq_true p187
    replace q187 := eq_true q187
    have ea_ := Option.some.inj (hx186_1.symm.trans hx187_1)
    injection ea_ with ea_ en_ ec_
    subst ea_
    subst ec_
    clear en_
    go_enter Try.func166, Try.ntmps166
    go_wp2_with (first | ((with_reducible refine gate_callee (f := 197) rfl ?_); refine goesL_ (some 7) rfl rfl Try.func197 (by kernel_rfl) rfl #[.string ((rd_T138 l0 0).f0)] rfl (by (try simp only [List.map_toArray, List.map_cons, List.map_nil]); first | done | rfl | (simp only [List.length_drop, List.length_take]; rfl)) ?_; (with_reducible refine (spec_l06Name.calls k ((rd_T138 l0 0).f0) true _ A3.out).mono ?_); rintro e w' ⟨rfl, ⟨nd, rfl⟩⟩; refine ⟨_, rfl, ?_⟩; have p189 : 0 ≤ (0 : Int) := (by omega); have q189 : 0 < (l0.length : Int) := of_decide_eq_true (by first | (with_reducible assumption) | assumption); obtain ⟨ad189, A189_1, c189_1, e189, hx189_0, hx189_1, hx189_2, hx189_3, hx189_4, hx189_5, hl189_1, hi189_1⟩ := at_T138 HR0.out 0 p189 q189; obtain rfl : ad186 = ad189 := (by injection e189); have qi189 : (0 < l0.length) = True := eq_true (by omega); (try rw [show ((0 : Int)).toNat = 0 from rfl] at hx189_0); (try rw [show 0 * 6 = 0 from rfl] at hx189_0); (try rw [Addr.add_zero'] at hx189_0); (try rw [show ((0 : Int)).toNat = 0 from rfl] at hx189_1); (try rw [show 0 * 6 = 0 from rfl] at hx189_1); (try rw [Addr.add_zero'] at hx189_1); (try rw [show ((0 : Int)).toNat = 0 from rfl] at hx189_2); (try rw [show 0 * 6 = 0 from rfl] at hx189_2); (try rw [Addr.add_zero'] at hx189_2); (try rw [show ((0 : Int)).toNat = 0 from rfl] at hx189_3); (try rw [show 0 * 6 = 0 from rfl] at hx189_3); (try rw [Addr.add_zero'] at hx189_3); (try rw [show ((0 : Int)).toNat = 0 from rfl] at hx189_4); (try rw [show 0 * 6 = 0 from rfl] at hx189_4); (try rw [Addr.add_zero'] at hx189_4); (try rw [show ((0 : Int)).toNat = 0 from rfl] at hx189_5); (try rw [show 0 * 6 = 0 from rfl] at hx189_5); (try rw [Addr.add_zero'] at hx189_5); have HR189_1 := Aside0.mk hi189_1; have HC189_1 := Aside0.mk hl189_1; clear hi189_1 hl189_1; replace p189 := eq_true p189; replace q189 := eq_true q189; have ea_ := Option.some.inj (hx186_1.symm.trans hx189_1); injection ea_ with ea_ en_ ec_; subst ea_; subst ec_; clear en_; have p190 : 0 ≤ (0 : Int) := (by omega); have q190 : 0 < (l0.length : Int) := of_decide_eq_true (by first | (with_reducible assumption) | assumption); obtain ⟨ad190, A190_1, c190_1, e190, hx190_0, hx190_1, hx190_2, hx190_3, hx190_4, hx190_5, hl190_1, hi190_1⟩ := at_T138 HR0.out 0 p190 q190; obtain rfl : ad186 = ad190 := (by injection e190); have qi190 : (0 < l0.length) = True := eq_true (by omega); (try rw [show ((0 : Int)).toNat = 0 from rfl] at hx190_0); (try rw [show 0 * 6 = 0 from rfl] at hx190_0); (try rw [Addr.add_zero'] at hx190_0); (try rw [show ((0 : Int)).toNat = 0 from rfl] at hx190_1); (try rw [show 0 * 6 = 0 from rfl] at hx190_1); (try rw [Addr.add_zero'] at hx190_1); (try rw [show ((0 : Int)).toNat = 0 from rfl] at hx190_2); (try rw [show 0 * 6 = 0 from rfl] at hx190_2); (try rw [Addr.add_zero'] at hx190_2); (try rw [show ((0 : Int)).toNat = 0 from rfl] at hx190_3); (try rw [show 0 * 6 = 0 from rfl] at hx190_3); (try rw [Addr.add_zero'] at hx190_3); (try rw [show ((0 : Int)).toNat = 0 from rfl] at hx190_4); (try rw [show 0 * 6 = 0 from rfl] at hx190_4); (try rw [Addr.add_zero'] at hx190_4); (try rw [show ((0 : Int)).toNat = 0 from rfl] at hx190_5); (try rw [show 0 * 6 = 0 from rfl] at hx190_5); (try rw [Addr.add_zero'] at hx190_5); have HR190_1 := Aside0.mk hi190_1; have HC190_1 := Aside0.mk hl190_1; clear hi190_1 hl190_1; replace p190 := eq_true p190; replace q190 := eq_true q190; have ea_ := Option.some.inj (hx186_1.symm.trans hx190_1); injection ea_ with ea_ en_ ec_; subst ea_; subst ec_; clear en_) | (go_at_call 198; (with_reducible refine (spec_l02Areas.calls k _ _ ((rd_T138 l0 0).f1) false _ ?side1 ?side2 A5.out).mono ?_); (case side1 => repeat (first | exact HR190_1.out | (with_reducible refine Kd.C_alloc ?_ _) | (with_reducible refine Kd.C_drewN ?_ _) | (with_reducible refine Kd.C_drew ?_))); (case side2 => exact HC190_1.out); rintro e w' ⟨rfl, ⟨nd, rfl⟩⟩))
    go_ret
    exact ⟨by first | rfl | (simp; done) | (simp [*]; done), by repeat (first | exact Drawn0.refl _ | apply Drawn0.step)⟩
  ·replace c4 := Bool.eq_false_iff.mpr c4
   subst c4
   have H1 : (some false) = some r := by rw [if_neg (show ¬ (false = true) by decide)] at H; exact H
   clear H
   have H := H1
   clear H1
   obtain rfl := Option.some.inj H
   have p186 : 0 ≤ (0 : Int) := (by omega)
   have q186 : 0 < (l0.length : Int) := of_decide_eq_true (by first | (with_reducible assumption) | assumption)
   obtain ⟨ad186, A186_1, c186_1, e186, hx186_0, hx186_1, hx186_2, hx186_3, hx186_4, hx186_5, hl186_1, hi186_1⟩ := at_T138 HR0.out 0 p186 q186
   cases e186
   have qi186 : (0 < l0.length) = True := eq_true (by omega)
   (try rw [show ((0 : Int)).toNat = 0 from rfl] at hx186_0)
   (try rw [show 0 * 6 = 0 from rfl] at hx186_0)
   (try rw [Addr.add_zero'] at hx186_0)
   (try rw [show ((0 : Int)).toNat = 0 from rfl] at hx186_1)
   (try rw [show 0 * 6 = 0 from rfl] at hx186_1)
   (try rw [Addr.add_zero'] at hx186_1)
   (try rw [show ((0 : Int)).toNat = 0 from rfl] at hx186_2)
   (try rw [show 0 * 6 = 0 from rfl] at hx186_2)
   (try rw [Addr.add_zero'] at hx186_2)
   (try rw [show ((0 : Int)).toNat = 0 from rfl] at hx186_3)
   (try rw [show 0 * 6 = 0 from rfl] at hx186_3)
   (try rw [Addr.add_zero'] at hx186_3)
   (try rw [show ((0 : Int)).toNat = 0 from rfl] at hx186_4)
   (try rw [show 0 * 6 = 0 from rfl] at hx186_4)
   (try rw [Addr.add_zero'] at hx186_4)
   (try rw [show ((0 : Int)).toNat = 0 from rfl] at hx186_5)
   (try rw [show 0 * 6 = 0 from rfl] at hx186_5)
   (try rw [Addr.add_zero'] at hx186_5)
   have HR186_1 := Aside0.mk hi186_1
   have HC186_1 := Aside0.mk hl186_1
   clear hi186_1 hl186_1
   replace p186 := eq_true p186
   replace q186 := eq_true q186
   have p187 : 0 ≤ (0 : Int) := (by omega)
   have q187 : 0 < (l0.length : Int) := of_decide_eq_true (by first | (with_reducible assumption) | assumption)
   obtain ⟨ad187, A187_1, c187_1, e187, hx187_0, hx187_1, hx187_2, hx187_3, hx187_4, hx187_5, hl187_1, hi187_1⟩ := at_T138 HR0.out 0 p187 q187
   obtain rfl : ad186 = ad187 := (by injection e187)
   have qi187 : (0 < l0.length) = True := eq_true (by omega)
   (try rw [show ((0 : Int)).toNat = 0 from rfl] at hx187_0)
   (try rw [show 0 * 6 = 0 from rfl] at hx187_0)
   (try rw [Addr.add_zero'] at hx187_0)
   (try rw [show ((0 : Int)).toNat = 0 from rfl] at hx187_1)
   (try rw [show 0 * 6 = 0 from rfl] at hx187_1)
   (try rw [Addr.add_zero'] at hx187_1)
   (try rw [show ((0 : Int)).toNat = 0 from rfl] at hx187_2)
   (try rw [show 0 * 6 = 0 from rfl] at hx187_2)
   (try rw [Addr.add_zero'] at hx187_2)
   (try rw [show ((0 : Int)).toNat = 0 from rfl] at hx187_3)
   (try rw [show 0 * 6 = 0 from rfl] at hx187_3)
   (try rw [Addr.add_zero'] at hx187_3)
   (try rw [show ((0 : Int)).toNat = 0 from rfl] at hx187_4)
   (try rw [show 0 * 6 = 0 from rfl] at hx187_4)
   (try rw [Addr.add_zero'] at hx187_4)
   (try rw [show ((0 : Int)).toNat = 0 from rfl] at hx187_5)
   (try rw [show 0 * 6 = 0 from rfl] at hx187_5)
   (try rw [Addr.add_zero'] at hx187_5)
   have HR187_1 := Aside0.mk hi187_1
   have HC187_1 := Aside0.mk hl187_1
   clear hi187_1 hl187_1
   replace p187 := eq_true p187
   replace q187 := eq_true q187
   have ea_ := Option.some.inj (hx186_1.symm.trans hx187_1)
   injection ea_ with ea_ en_ ec_
   subst ea_
   subst ec_
   clear en_
   go_enter Try.func166, Try.ntmps166
   go_wp2_with (first | ((with_reducible refine gate_callee (f := 197) rfl ?_); refine goesL_ (some 7) rfl rfl Try.func197 (by kernel_rfl) rfl #[.string ((rd_T138 l0 0).f0)] rfl (by (try simp only [List.map_toArray, List.map_cons, List.map_nil]); first | done | rfl | (simp only [List.length_drop, List.length_take]; rfl)) ?_; (with_reducible refine (spec_l06Name.calls k ((rd_T138 l0 0).f0) false _ A3.out).mono ?_); rintro e w' ⟨rfl, ⟨nd, rfl⟩⟩; refine ⟨_, rfl, ?_⟩))
   go_ret
   exact ⟨by first | rfl | (simp; done) | (simp [*]; done), by repeat (first | exact Drawn0.refl _ | apply Drawn0.step)⟩
 ·rw [if_neg c2] at H
  exact absurd H (by simp)
end Go.Proofs.Ytoiaojdkgagblaa.PFnExactValidDesk
