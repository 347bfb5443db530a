import Derived.Test.YteooifighndmkaaPFnExactFrameAtx0
import Derived.Test.YteooifighndmkaaPFnExactFrameAtx15
namespace Go.Proofs.Yteooifighndmkaa.PFnExactFrameAt
open Go.RowKit Go.Proofs.YteooifighndmkaaW.PrintWords Go.Proofs.YteooifighndmkaaW.PrintLast Go.Proofs.YteooifighndmkaaW.PrintMore
open Go.Proofs.YteooifighndmkaaW.PrintFl
attribute [local go_sem high] binOp_feq binOp_fne binOp_fls binOp_fle binOp_fgr binOp_fge binOp_sle binOp_sgt
attribute [local go_sem] run_fopr run_fconv run_fint run_stf run_stc
attribute [local go_sem] max2_int min2_int max_two min_two max_three min_three max_four min_four
set_option linter.unusedVariables false
set_option linter.unusedSimpArgs false
def impl_rampAt.f (a0 : Nat) : Option (Nat) := if (fls .f32 a0 0) = true then (some 0) else (if (fgr .f32 a0 1065353216) = true then (some 1065353216) else (if (foprOk .mul .f32 a0 a0) = true then (if (foprOk .mul .f32 1073741824 a0) = true then (if (foprOk .sub .f32 1077936128 (fopr .mul .f32 1073741824 a0)) = true then (if (foprOk .mul .f32 (fopr .mul .f32 a0 a0) (fopr .sub .f32 1077936128 (fopr .mul .f32 1073741824 a0))) = true then (some (fopr .mul .f32 (fopr .mul .f32 a0 a0) (fopr .sub .f32 1077936128 (fopr .mul .f32 1073741824 a0)))) else (none)) else (none)) else (none)) else (none)))
set_option maxHeartbeats 8000000 in
set_option maxRecDepth 100000 in
theorem impl_rampAt.calls (a0 : Nat) (r : Nat) (w : World) (h : impl_rampAt.f a0 = some r) :
    Calls Try.prog 86 #[.float .f32 a0] w fun e w' => e = .returned (.float .f32 r) ∧ Drawn0 w w' := by
  have H : (if (fls .f32 a0 0) = true then (some 0) else (if (fgr .f32 a0 1065353216) = true then (some 1065353216) else (if (foprOk .mul .f32 a0 a0) = true then (if (foprOk .mul .f32 1073741824 a0) = true then (if (foprOk .sub .f32 1077936128 (fopr .mul .f32 1073741824 a0)) = true then (if (foprOk .mul .f32 (fopr .mul .f32 a0 a0) (fopr .sub .f32 1077936128 (fopr .mul .f32 1073741824 a0))) = true then (some (fopr .mul .f32 (fopr .mul .f32 a0 a0) (fopr .sub .f32 1077936128 (fopr .mul .f32 1073741824 a0)))) else (none)) else (none)) else (none)) else (none)))) = some r := h
  clear h
  by_cases c2 : (fls .f32 a0 0) = true
  · rw [if_pos c2] at H
    have c2b0 : (fls .f32 a0 0) = true := c2
    clear c2
    obtain rfl := Option.some.inj H
    go_enter Try.func86, Try.ntmps86
    go_wp2
    go_ret
    exact ⟨by first | rfl | (simp; done) | (simp [*]; done), by repeat (first | exact Drawn0.refl _ | apply Drawn0.step)⟩
  · rw [if_neg c2] at H
    have c2b0 : (fls .f32 a0 0) = false := by simpa using c2
    clear c2
    by_cases c3 : (fgr .f32 a0 1065353216) = true
    · rw [if_pos c3] at H
      have c3b0 : (fgr .f32 a0 1065353216) = true := c3
      clear c3
      obtain rfl := Option.some.inj H
      go_enter Try.func86, Try.ntmps86
      go_wp2
      go_ret
      exact ⟨by first | rfl | (simp; done) | (simp [*]; done), by repeat (first | exact Drawn0.refl _ | apply Drawn0.step)⟩
    · rw [if_neg c3] at H
      have c3b0 : (fgr .f32 a0 1065353216) = false := by simpa using c3
      clear c3
      by_cases c4 : (foprOk .mul .f32 a0 a0) = true
      · rw [if_pos c4] at H
        have c4b0 : (foprOk .mul .f32 a0 a0) = true := c4
        clear c4
        by_cases c5 : (foprOk .mul .f32 1073741824 a0) = true
        · rw [if_pos c5] at H
          have c5b0 : (foprOk .mul .f32 1073741824 a0) = true := c5
          clear c5
          by_cases c6 : (foprOk .sub .f32 1077936128 (fopr .mul .f32 1073741824 a0)) = true
          · rw [if_pos c6] at H
            have c6b0 : (foprOk .sub .f32 1077936128 (fopr .mul .f32 1073741824 a0)) = true := c6
            clear c6
            by_cases c7 : (foprOk .mul .f32 (fopr .mul .f32 a0 a0) (fopr .sub .f32 1077936128 (fopr .mul .f32 1073741824 a0))) = true
            · rw [if_pos c7] at H
              have c7b0 : (foprOk .mul .f32 (fopr .mul .f32 a0 a0) (fopr .sub .f32 1077936128 (fopr .mul .f32 1073741824 a0))) = true := c7
              clear c7
              obtain rfl := Option.some.inj H
              go_enter Try.func86, Try.ntmps86
              go_wp2
              go_ret
              exact ⟨by first | rfl | (simp; done) | (simp [*]; done), by repeat (first | exact Drawn0.refl _ | apply Drawn0.step)⟩
            · rw [if_neg c7] at H
              exact absurd H (by simp)
          · rw [if_neg c6] at H
            exact absurd H (by simp)
        · rw [if_neg c5] at H
          exact absurd H (by simp)
      · rw [if_neg c4] at H
        exact absurd H (by simp)
def slices_IndexFunc_v_impl_FrameAt_1.l0 : Nat → List Nat → Int → Int → Option (Int)
  | 0, _, _, _ => none
  | k + 1, x0, x7, x8 => if x8 < x7 then (if 0 ≤ x8 then (if x8 < (x0.length : Int) then ((impl_FrameAt_1.f (rdOf (0 : Nat) x0 x8)).bind fun t338 => (if t338 = true then (some x8) else (slices_IndexFunc_v_impl_FrameAt_1.l0 k x0 x7 (wrap64 (x8 + 1))))) else (none)) else (none)) else (some (-1))
def slices_IndexFunc_v_impl_FrameAt_1.f (k : Nat) (l0 : List Nat)  : Option (Int) := slices_IndexFunc_v_impl_FrameAt_1.l0 k l0 (l0.length : Int) 0
theorem slices_IndexFunc_v_impl_FrameAt_1.mono_l : ∀ k, (∀ y0 y1 y2, LeO (slices_IndexFunc_v_impl_FrameAt_1.l0 k y0 y1 y2) (slices_IndexFunc_v_impl_FrameAt_1.l0 (k + 1) y0 y1 y2))
  | 0 => fun _ _ _ r h => by simp [slices_IndexFunc_v_impl_FrameAt_1.l0] at h
  | k + 1 => by
    have ih0 := slices_IndexFunc_v_impl_FrameAt_1.mono_l k
    · intro y0 y1 y2
      unfold slices_IndexFunc_v_impl_FrameAt_1.l0
      repeat' first
      | (with_reducible exact ih0 _ _ _)
      | (with_reducible exact LeO.refl _)
      | (with_reducible exact LeO.none _)
      | (with_reducible refine LeO.ite ?_ ?_)
      | (with_reducible refine LeO.bind ?_ (fun _ => ?_))
      | exact ih0 _ _ _
      | exact LeO.none _
      | refine LeO.ite ?_ ?_
      | refine LeO.bind ?_ (fun _ => ?_)
theorem slices_IndexFunc_v_impl_FrameAt_1.mono : ∀ a0 k, LeO (slices_IndexFunc_v_impl_FrameAt_1.f k a0) (slices_IndexFunc_v_impl_FrameAt_1.f (k + 1) a0) := by
  intro a0 k
  have ih0 := slices_IndexFunc_v_impl_FrameAt_1.mono_l k
  unfold slices_IndexFunc_v_impl_FrameAt_1.f
  repeat' first
      | (with_reducible exact ih0 _ _ _)
      | (with_reducible exact LeO.refl _)
      | (with_reducible exact LeO.none _)
      | (with_reducible refine LeO.ite ?_ ?_)
      | (with_reducible refine LeO.bind ?_ (fun _ => ?_))
      | exact ih0 _ _ _
      | exact LeO.none _
      | refine LeO.ite ?_ ?_
      | refine LeO.bind ?_ (fun _ => ?_)
set_option maxHeartbeats 8000000 in
set_option maxRecDepth 100000 in
theorem slices_IndexFunc_v_impl_FrameAt_1.calls (k : Nat) (A0 : Option Addr) (c0 : Nat) (l0 : List Nat)  (r : Int) (w : World) (hr0 : Kd.C (Kd.float .f32) w A0 l0.length l0) (hc0 : l0.length ≤ c0) (h : slices_IndexFunc_v_impl_FrameAt_1.f k l0 = some r) :
    Calls Try.prog 82 #[.slice A0 l0.length c0, .func (.func 48) #[] #[]] w fun e w' => e = .returned (.int .i64 r) ∧ Drawn0 w w' := by
  have eg48 := enters_of Try.func48 (by kernel_rfl) rfl
  have hu25 := Try.underlying25
  have HR0 := Aside0.mk hr0
  have HC0 := Aside0.mk hc0
  clear hr0 hc0
  have H : (slices_IndexFunc_v_impl_FrameAt_1.l0 k l0 (l0.length : Int) 0) = some r := h
  clear h
  have H' := Aside0.mk H
  clear H
  go_enter Try.func82, Try.ntmps82
  go_wp2
  go_loopg [8] k (fun kq v8 w' => ∃ (x8_1 : Int), v8 = .int .i64 x8_1 ∧ Aside0 (slices_IndexFunc_v_impl_FrameAt_1.l0 kq l0 (l0.length : Int) x8_1 = some r) ∧ Aside0 (kq ≤ k) ∧ Drawn0 w w')
  case atStart => exact ⟨(0), (by first | rfl | (simp; done) | (simp [*]; done)), H', ⟨Nat.le_refl _⟩, by repeat (first | exact Drawn0.refl _ | apply Drawn0.step)⟩
  case round =>
    clear H'
    try clear p2
    obtain ⟨x8_1, rfl, HA, HK1, ⟨m1, rfl⟩⟩ := hrel
    cases gk with
    | zero => exact absurd HA.out (by simp [slices_IndexFunc_v_impl_FrameAt_1.l0])
    | succ k1 =>
      have H := HA.out
      clear HA
      simp only [slices_IndexFunc_v_impl_FrameAt_1.l0] at H
      by_cases c3 : x8_1 < (l0.length : Int)
      · rw [if_pos c3] at H
        have c3b0 : decide (x8_1 < (l0.length : Int)) = true := decide_eq_true c3
        clear c3
        by_cases c4 : 0 ≤ x8_1
        · rw [if_pos c4] at H
          have c4b0 : decide (0 ≤ x8_1) = true := decide_eq_true c4
          clear c4
          by_cases c5 : x8_1 < (l0.length : Int)
          · rw [if_pos c5] at H
            have c5b0 : decide (x8_1 < (l0.length : Int)) = true := decide_eq_true c5
            clear c5
            replace H := Option.bind_eq_some_iff.mp H
            obtain ⟨t338, A60, H⟩ := H
            replace H : (if t338 = true then (some x8_1) else (slices_IndexFunc_v_impl_FrameAt_1.l0 k1 l0 (l0.length : Int) (wrap64 (x8_1 + 1)))) = some r := H
            have A6 := Aside0.mk A60
            clear A60
            by_cases c7 : t338 = true
            · subst c7
              have H1 : (some x8_1) = some r := by rw [if_pos rfl] at H; exact H
              clear H
              have H := H1
              clear H1
              obtain rfl := Option.some.inj H
              have p337 : 0 ≤ (x8_1 : Int) := of_decide_eq_true (by first | (with_reducible assumption) | assumption)
              have q337 : x8_1 < (l0.length : Int) := of_decide_eq_true (by first | (with_reducible assumption) | assumption)
              obtain ⟨ad337, e337, hx337_0⟩ := Kd.at_float HR0.out x8_1 p337 q337
              cases e337
              replace p337 := eq_true p337
              replace q337 := eq_true q337
              go_wp2_with (first | (go_at_call 48; (with_reducible refine (impl_FrameAt_1.calls (rdOf (0 : Nat) l0 x8_1) true _ A6.out).mono ?_); rintro e w' ⟨rfl, ⟨nd, rfl⟩⟩))
              go_ret
              exact ⟨by first | rfl | (simp; done) | (simp [*]; done), by repeat (first | exact Drawn0.refl _ | apply Drawn0.step)⟩
            · replace c7 := Bool.eq_false_iff.mpr c7
              subst c7
              have H1 : (slices_IndexFunc_v_impl_FrameAt_1.l0 k1 l0 (l0.length : Int) (wrap64 (x8_1 + 1))) = some r := by rw [if_neg (show ¬ (false = true) by decide)] at H; exact H
              clear H
              have H := H1
              clear H1
              have H' := Aside0.mk H
              clear H
              have p337 : 0 ≤ (x8_1 : Int) := of_decide_eq_true (by first | (with_reducible assumption) | assumption)
              have q337 : x8_1 < (l0.length : Int) := of_decide_eq_true (by first | (with_reducible assumption) | assumption)
              obtain ⟨ad337, e337, hx337_0⟩ := Kd.at_float HR0.out x8_1 p337 q337
              cases e337
              replace p337 := eq_true p337
              replace q337 := eq_true q337
              go_wp2_with (first | (go_at_call 48; (with_reducible refine (impl_FrameAt_1.calls (rdOf (0 : Nat) l0 x8_1) false _ A6.out).mono ?_); rintro e w' ⟨rfl, ⟨nd, rfl⟩⟩))
              go_roundg k1
              case measure => have := HK1.out; omega
              case rel => exact ⟨(wrap64 (x8_1 + 1)), (by first | rfl | (simp; done) | (simp [*]; done)), H', ⟨by have := HK1.out; omega⟩, by repeat (first | exact Drawn0.refl _ | apply Drawn0.step)⟩
          · rw [if_neg c5] at H
            exact absurd H (by simp)
        · rw [if_neg c4] at H
          exact absurd H (by simp)
      · rw [if_neg c3] at H
        have c3b0 : decide (x8_1 < (l0.length : Int)) = false := decide_eq_false c3
        clear c3
        obtain rfl := Option.some.inj H
        go_wp2
        go_ret
        exact ⟨by first | rfl | (simp; done) | (simp [*]; done), by repeat (first | exact Drawn0.refl _ | apply Drawn0.step)⟩
def slices_ContainsFunc_v_impl_FrameAt_1.f (k : Nat) (l0 : List Nat)  : Option (Bool) := (slices_IndexFunc_v_impl_FrameAt_1.f k l0).bind fun t339 => (some (decide (t339 ≥ 0)))
theorem slices_ContainsFunc_v_impl_FrameAt_1.mono : ∀ a0 k, LeO (slices_ContainsFunc_v_impl_FrameAt_1.f k a0) (slices_ContainsFunc_v_impl_FrameAt_1.f (k + 1) a0) := by
  intro a0 k
  unfold slices_ContainsFunc_v_impl_FrameAt_1.f
  repeat' first
      | (with_reducible exact slices_IndexFunc_v_impl_FrameAt_1.mono _ _)
      | (with_reducible exact LeO.refl _)
      | (with_reducible exact LeO.none _)
      | (with_reducible refine LeO.ite ?_ ?_)
      | (with_reducible refine LeO.bind ?_ (fun _ => ?_))
      | exact slices_IndexFunc_v_impl_FrameAt_1.mono _ _
      | exact LeO.none _
      | refine LeO.ite ?_ ?_
      | refine LeO.bind ?_ (fun _ => ?_)
set_option maxHeartbeats 8000000 in
set_option maxRecDepth 100000 in
theorem slices_ContainsFunc_v_impl_FrameAt_1.calls (k : Nat) (A0 : Option Addr) (c0 : Nat) (l0 : List Nat)  (r : Bool) (w : World) (hr0 : Kd.C (Kd.float .f32) w A0 l0.length l0) (hc0 : l0.length ≤ c0) (h : slices_ContainsFunc_v_impl_FrameAt_1.f k l0 = some r) :
    Calls Try.prog 47 #[.slice A0 l0.length c0, .func (.func 48) #[] #[]] w fun e w' => e = .returned (.bool r) ∧ Drawn0 w w' := by
  have eg48 := enters_of Try.func48 (by kernel_rfl) rfl
  have HR0 := Aside0.mk hr0
  have HC0 := Aside0.mk hc0
  clear hr0 hc0
  have H : ((slices_IndexFunc_v_impl_FrameAt_1.f k l0).bind fun t339 => (some (decide (t339 ≥ 0)))) = some r := h
  clear h
  replace H := Option.bind_eq_some_iff.mp H
  obtain ⟨t339, A30, H⟩ := H
  replace H : (some (decide (t339 ≥ 0))) = some r := H
  have A3 := Aside0.mk A30
  clear A30
  obtain rfl := Option.some.inj H
  go_enter Try.func47, Try.ntmps47
  go_wp2_with (first | ((with_reducible refine gate_callee (f := 82) rfl ?_); refine goesL_ (some 7) rfl rfl Try.func82 (by kernel_rfl) rfl #[.slice A0 l0.length c0, .func (.func 48) #[] #[]] rfl (by (try simp only [List.map_toArray, List.map_cons, List.map_nil]); first | done | rfl | (simp only [List.length_drop, List.length_take]; rfl)) ?_; (with_reducible refine (slices_IndexFunc_v_impl_FrameAt_1.calls k _ _ l0  t339 _ ?side1 ?side2 A3.out).mono ?_); (case side1 => repeat (first | exact HR0.out | (with_reducible refine Kd.C_alloc ?_ _) | (with_reducible refine Kd.C_drewN ?_ _) | (with_reducible refine Kd.C_drew ?_))); (case side2 => exact HC0.out); rintro e w' ⟨rfl, ⟨nd, rfl⟩⟩; refine ⟨_, rfl, ?_⟩))
  go_ret
  exact ⟨by first | rfl | (simp; done) | (simp [*]; done), by repeat (first | exact Drawn0.refl _ | apply Drawn0.step)⟩
def laws_eqFrame.f (l0_0 : List Nat) (a0_1 a0_2 a0_3 : Nat) (l1_0 : List Nat) (a1_1 a1_2 a1_3 : Nat) : Option Bool := if l0_0 = l1_0 ∧ a0_1 = a1_1 ∧ a0_2 = a1_2 ∧ a0_3 = a1_3 ∧ l0_0.length ≤ 1048576 ∧ (∀ x ∈ l0_0, x < 4294967296) ∧ a0_1 < 4294967296 ∧ a0_2 < 4294967296 ∧ a0_3 < 4294967296 then some true else none
theorem laws_eqFrame.calls (A0_0 : Option Addr) (c0_0 : Nat) (l0_0 : List Nat) (a0_1 a0_2 a0_3 : Nat) (A1_0 : Option Addr) (c1_0 : Nat) (l1_0 : List Nat) (a1_1 a1_2 a1_3 : Nat) (r : Bool) (w : World) (hr0_0 : Kd.C (Kd.float .f32) w A0_0 l0_0.length l0_0) (hc0_0 : l0_0.length ≤ c0_0) (hr1_0 : Kd.C (Kd.float .f32) w A1_0 l1_0.length l1_0) (hc1_0 : l1_0.length ≤ c1_0) (h : laws_eqFrame.f l0_0 a0_1 a0_2 a0_3 l1_0 a1_1 a1_2 a1_3 = some r) :
    Calls Try.prog 13 #[.agg #[.slice A0_0 l0_0.length c0_0, .float .f32 a0_1, .float .f32 a0_2, .float .f32 a0_3], .agg #[.slice A1_0 l1_0.length c1_0, .float .f32 a1_1, .float .f32 a1_2, .float .f32 a1_3]] w fun e w' => e = .returned (.bool r) ∧ Below w.heap.size w w' := by
  unfold laws_eqFrame.f at h
  split at h
  · rename_i hh
    obtain rfl := Option.some.inj h
    obtain ⟨rfl, rfl, rfl, rfl, hl, hx, ha0_1, ha0_2, ha0_3⟩ := hh
    exact giv_eqFrame A0_0 A1_0 c0_0 c1_0 l0_0 a0_1 a0_2 a0_3 w hr0_0 hr1_0 hl hx ha0_1 ha0_2 ha0_3
  · cases h
def laws_eqSound.f (a0_0 : ByteArray) (l0_1 : List Nat) (a0_2 a0_3 a0_4 a0_5 : Nat) (a1_0 : ByteArray) (l1_1 : List Nat) (a1_2 a1_3 a1_4 a1_5 : Nat) : Option Bool := if a0_0 = a1_0 ∧ l0_1 = l1_1 ∧ a0_2 = a1_2 ∧ a0_3 = a1_3 ∧ a0_4 = a1_4 ∧ a0_5 = a1_5 ∧ l0_1.length ≤ 1048576 ∧ (∀ x ∈ l0_1, x < 4294967296) ∧ a0_2 < 4294967296 ∧ a0_3 < 4294967296 ∧ a0_4 < 4294967296 ∧ a0_5 < 4294967296 then some true else none
theorem laws_eqSound.calls (a0_0 : ByteArray) (A0_1 : Option Addr) (c0_1 : Nat) (l0_1 : List Nat) (a0_2 a0_3 a0_4 a0_5 : Nat) (a1_0 : ByteArray) (A1_1 : Option Addr) (c1_1 : Nat) (l1_1 : List Nat) (a1_2 a1_3 a1_4 a1_5 : Nat) (r : Bool) (w : World) (hr0_1 : Kd.C (Kd.float .f32) w A0_1 l0_1.length l0_1) (hc0_1 : l0_1.length ≤ c0_1) (hr1_1 : Kd.C (Kd.float .f32) w A1_1 l1_1.length l1_1) (hc1_1 : l1_1.length ≤ c1_1) (h : laws_eqSound.f a0_0 l0_1 a0_2 a0_3 a0_4 a0_5 a1_0 l1_1 a1_2 a1_3 a1_4 a1_5 = some r) :
    Calls Try.prog 26 #[.agg #[.string a0_0, .slice A0_1 l0_1.length c0_1, .float .f32 a0_2, .float .f32 a0_3, .float .f32 a0_4, .float .f32 a0_5], .agg #[.string a1_0, .slice A1_1 l1_1.length c1_1, .float .f32 a1_2, .float .f32 a1_3, .float .f32 a1_4, .float .f32 a1_5]] w fun e w' => e = .returned (.bool r) ∧ Below w.heap.size w w' := by
  unfold laws_eqSound.f at h
  split at h
  · rename_i hh
    obtain rfl := Option.some.inj h
    obtain ⟨rfl, rfl, rfl, rfl, rfl, rfl, hl, hx, h2, h3, h4, h5⟩ := hh
    exact giv_eqSound A0_1 A1_1 c0_1 c1_1 a0_0 l0_1 a0_2 a0_3 a0_4 a0_5 w hr0_1 hr1_1 hl hx h2 h3 h4 h5
  · cases h
abbrev laws_eqSoundS.z0 : Array Bool := #[false, false, false, false, false, false, false, false, false, false]
abbrev laws_eqSoundS.z1 : Array Bool := #[true, false, false, false, false, false, false, false, false, false]
abbrev laws_eqSoundS.z2 : Array Bool := #[true, true, false, false, false, false, false, false, false, false]
abbrev laws_eqSoundS.z3 : Array Bool := #[true, true, true, false, false, false, false, false, false, false]
abbrev laws_eqSoundS.z4 : Array Bool := #[true, true, true, false, true, false, false, false, false, false]
abbrev laws_eqSoundS.z5 : Array Bool := #[true, true, true, false, true, true, false, false, false, false]
abbrev laws_eqSoundS.z6 : Array Bool := #[true, true, true, false, true, true, true, false, false, false]
abbrev laws_eqSoundS.z7 : Array Bool := #[true, true, true, true, true, true, true, false, false, false]
abbrev laws_eqSoundS.z8 : Array Bool := #[true, true, true, true, true, true, true, true, false, false]
abbrev laws_eqSoundS.z9 : Array Bool := #[true, true, true, true, true, true, true, true, true, false]
abbrev laws_eqSoundS.z10 : Array Bool := #[true, true, true, true, true, true, true, true, true, true]
def laws_eqSoundS.l0 : Nat → List (S49) → List (S49) → Int → Option (Bool)
 | 0, _, _, _ => none
 | k + 1, x0, x1, x5 => if x5 < (x0.length : Int) then (if 0 ≤ x5 then (if x5 < (x1.length : Int) then ((laws_eqSound.f ((rd_T49 x0 x5).f0) ((rd_T49 x0 x5).f1) ((rd_T49 x0 x5).f2) ((rd_T49 x0 x5).f3) ((rd_T49 x0 x5).f4) ((rd_T49 x0 x5).f5) ((rd_T49 x1 x5).f0) ((rd_T49 x1 x5).f1) ((rd_T49 x1 x5).f2) ((rd_T49 x1 x5).f3) ((rd_T49 x1 x5).f4) ((rd_T49 x1 x5).f5)).bind fun t346 => (if t346 = true then (laws_eqSoundS.l0 k x0 x1 (wrap64 (x5 + 1))) else (some false))) else (none)) else (none)) else (some true)
def laws_eqSoundS.f (k : Nat) (l0 : List (S49)) (l1 : List (S49)) : Option (Bool) := if (l0.length : Int) = (l1.length : Int) then (laws_eqSoundS.l0 k l0 l1 0) else (some false)
theorem laws_eqSoundS.mono_l : ∀ k, (∀ y0 y1 y2, LeO (laws_eqSoundS.l0 k y0 y1 y2) (laws_eqSoundS.l0 (k + 1) y0 y1 y2))
 | 0 => fun _ _ _ r h => by simp [laws_eqSoundS.l0] at h
 | k + 1 => by
  have ih0 := laws_eqSoundS.mono_l k
  ·intro y0 y1 y2
   unfold laws_eqSoundS.l0
   repeat' first
   | (with_reducible exact ih0 _ _ _)
   | (with_reducible exact LeO.refl _)
   | (with_reducible exact LeO.none _)
   | (with_reducible refine LeO.ite ?_ ?_)
   | (with_reducible refine LeO.bind ?_ (fun _ => ?_))
   | exact ih0 _ _ _
   | exact LeO.none _
   | refine LeO.ite ?_ ?_
   | refine LeO.bind ?_ (fun _ => ?_)
theorem laws_eqSoundS.mono : ∀ a0 a1 k, LeO (laws_eqSoundS.f k a0 a1) (laws_eqSoundS.f (k + 1) a0 a1) := by
 intro a0 a1 k
 have ih0 := laws_eqSoundS.mono_l k
 unfold laws_eqSoundS.f
 repeat' first
   | (with_reducible exact ih0 _ _ _)
   | (with_reducible exact LeO.refl _)
   | (with_reducible exact LeO.none _)
   | (with_reducible refine LeO.ite ?_ ?_)
   | (with_reducible refine LeO.bind ?_ (fun _ => ?_))
   | exact ih0 _ _ _
   | exact LeO.none _
   | refine LeO.ite ?_ ?_
   | refine LeO.bind ?_ (fun _ => ?_)
def laws_eqSoundS.T6 : Bool × List (List Nat × List Nat) := (true, [([], []), ([], []), ([0, 1], [0, 1]), ([2], [2]), ([], []), ([], []), ([4, 5], [4, 5]), ([6], [6]), ([3, 7], [3, 7]), ([8], [8])])
def laws_eqSoundS.B6 : List Nat := [0, 0, 3, 7, 0, 0, 48, 112, 255, 511]
theorem laws_eqSoundS.tab6 : rtab .any (opsOf Try.f14 6) = laws_eqSoundS.T6 := by kernel_rfl
theorem laws_eqSoundS.bits6 : waitsOk laws_eqSoundS.T6.2 laws_eqSoundS.B6 = true := by kernel_rfl
set_option maxHeartbeats 8000000 in
set_option maxRecDepth 100000 in
theorem laws_eqSoundS.calls (k : Nat) (A0 : Option Addr) (c0 : Nat) (l0 : List (S49)) (A1 : Option Addr) (c1 : Nat) (l1 : List (S49)) (r : Bool) (w : World) (hr0 : Kd.C k49 w A0 l0.length l0) (hc0 : l0.length ≤ c0) (hr1 : Kd.C k49 w A1 l1.length l1) (hc1 : l1.length ≤ c1) (h : laws_eqSoundS.f k l0 l1 = some r) :
  Calls Try.prog 14 #[.slice A0 l0.length c0, .slice A1 l1.length c1] w fun e w' => e = .returned (.bool r) ∧ Below w.heap.size w w' := by
 have hu49 := Try.underlying49
 have HR0 := Aside0.mk hr0
 have HC0 := Aside0.mk hc0
 clear hr0 hc0
 have HR1 := Aside0.mk hr1
 have HC1 := Aside0.mk hc1
 clear hr1 hc1
 have HB := Aside0.mk (Below.refl w.heap.size w)
 have H : (if (l0.length : Int) = (l1.length : Int) then (laws_eqSoundS.l0 k l0 l1 0) else (some false)) = some r := h
 clear h
 by_cases c3 : (l0.length : Int) = (l1.length : Int)
 ·rw [if_pos c3] at H
  have c3b0 : ((l0.length : Int) == (l1.length : Int)) = true := beq_iff_eq.mpr c3
  have c3b1 : ((l0.length : Int) != (l1.length : Int)) = false := bne_eq_false_iff_eq.mpr c3
  have c3b2 : (l0.length == l1.length) = true := by first | simpa using c3 | (simp at c3 ⊢; omega)
  clear c3
  have H' := Aside0.mk H
  clear H
  go_enter Try.func14, Try.ntmps14
  go_wp2
  go_loopg [5] k (fun kq v5 w' => ∃ (x5_1 : Int), v5 = .int .i64 x5_1 ∧ Aside0 (laws_eqSoundS.l0 kq l0 l1 x5_1 = some r) ∧ Aside0 (kq ≤ k) ∧ Aside0 (Below w.heap.size w w'))
  case atStart => exact ⟨(0), (by first | rfl | (simp; done) | (simp [*]; done)), H', ⟨Nat.le_refl _⟩, ⟨by repeat (first | (with_reducible first | exact HB.out | apply below_alloc | apply pw_below_drewN | apply below_drew1) | exact HB.out)⟩⟩
  case round =>
   clear H'
   try clear c1
   try clear p2
   try clear c3
   try clear c3b0
   try clear c3b1
   try clear c3b2
   obtain ⟨x5_1, rfl, HA, HK1, HB⟩ := hrel
   cases gk with
   | zero => exact absurd HA.out (by simp [laws_eqSoundS.l0])
   | succ k1 =>
    have H := HA.out
    clear HA
    simp only [laws_eqSoundS.l0] at H
    by_cases c4 : x5_1 < (l0.length : Int)
    ·rw [if_pos c4] at H
     have c4b0 : decide (x5_1 < (l0.length : Int)) = true := decide_eq_true c4
     clear c4
     by_cases c5 : 0 ≤ x5_1
     ·rw [if_pos c5] at H
      have c5b0 : decide (0 ≤ x5_1) = true := decide_eq_true c5
      clear c5
      by_cases c6 : x5_1 < (l1.length : Int)
      ·rw [if_pos c6] at H
       have c6b0 : decide (x5_1 < (l1.length : Int)) = true := decide_eq_true c6
       clear c6
       replace H := Option.bind_eq_some_iff.mp H
       obtain ⟨t346, A70, H⟩ := H
       replace H : (if t346 = true then (laws_eqSoundS.l0 k1 l0 l1 (wrap64 (x5_1 + 1))) else (some false)) = some r := H
       have A7 := Aside0.mk A70
       clear A70
       by_cases c8 : t346 = true
       ·subst c8
        have H1 : (laws_eqSoundS.l0 k1 l0 l1 (wrap64 (x5_1 + 1))) = some r := by rw [if_pos rfl] at H; exact H
        clear H
        have H := H1
        clear H1
        have H' := Aside0.mk H
        clear H
        try go_wp2
        have n0_ := Aside0.mk (below_drew1 HB.out)
        clear HB
        have HB := n0_
        clear n0_
        have p344 : 0 ≤ (x5_1 : Int) := of_decide_eq_true (by first | (with_reducible assumption) | assumption)
        have q344 : x5_1 < (l0.length : Int) := of_decide_eq_true (by first | (with_reducible assumption) | assumption)
        obtain ⟨ad344, A344_1, c344_1, e344, hx344_0, hx344_1, hx344_2, hx344_3, hx344_4, hx344_5, hl344_1, hi344_1⟩ := at_T49 HR0.out x5_1 p344 q344
        have hw344_5 := hx344_5
        have hw344_4 := hx344_4
        have hw344_3 := hx344_3
        have hw344_2 := hx344_2
        have hw344_1 := hx344_1
        have hw344_0 := hx344_0
        cases e344
        replace hx344_0 := (HB.out.cell (World.block_lt_of_cell? w _ hx344_0)).trans hx344_0
        replace hx344_1 := (HB.out.cell (World.block_lt_of_cell? w _ hx344_1)).trans hx344_1
        replace hx344_2 := (HB.out.cell (World.block_lt_of_cell? w _ hx344_2)).trans hx344_2
        replace hx344_3 := (HB.out.cell (World.block_lt_of_cell? w _ hx344_3)).trans hx344_3
        replace hx344_4 := (HB.out.cell (World.block_lt_of_cell? w _ hx344_4)).trans hx344_4
        replace hx344_5 := (HB.out.cell (World.block_lt_of_cell? w _ hx344_5)).trans hx344_5
        have HR344_1 := Aside0.mk hi344_1
        have HC344_1 := Aside0.mk hl344_1
        clear hi344_1 hl344_1
        replace p344 := eq_true p344
        replace q344 := eq_true q344
        have p345 : 0 ≤ (x5_1 : Int) := of_decide_eq_true (by first | (with_reducible assumption) | assumption)
        have q345 : x5_1 < (l1.length : Int) := of_decide_eq_true (by first | (with_reducible assumption) | assumption)
        obtain ⟨ad345, A345_1, c345_1, e345, hx345_0, hx345_1, hx345_2, hx345_3, hx345_4, hx345_5, hl345_1, hi345_1⟩ := at_T49 HR1.out x5_1 p345 q345
        have hw345_5 := hx345_5
        have hw345_4 := hx345_4
        have hw345_3 := hx345_3
        have hw345_2 := hx345_2
        have hw345_1 := hx345_1
        have hw345_0 := hx345_0
        cases e345
        replace hx345_0 := (HB.out.cell (World.block_lt_of_cell? w _ hx345_0)).trans hx345_0
        replace hx345_1 := (HB.out.cell (World.block_lt_of_cell? w _ hx345_1)).trans hx345_1
        replace hx345_2 := (HB.out.cell (World.block_lt_of_cell? w _ hx345_2)).trans hx345_2
        replace hx345_3 := (HB.out.cell (World.block_lt_of_cell? w _ hx345_3)).trans hx345_3
        replace hx345_4 := (HB.out.cell (World.block_lt_of_cell? w _ hx345_4)).trans hx345_4
        replace hx345_5 := (HB.out.cell (World.block_lt_of_cell? w _ hx345_5)).trans hx345_5
        have HR345_1 := Aside0.mk hi345_1
        have HC345_1 := Aside0.mk hl345_1
        clear hi345_1 hl345_1
        replace p345 := eq_true p345
        replace q345 := eq_true q345
        refine start_ (n := 10) (S := fun w' => w'.cell? (ad344.add ((x5_1).toNat * 6)) = some (.string ((rd_T49 l0 x5_1).f0)) ∧ w'.cell? ⟨(ad344.add ((x5_1).toNat * 6)).block, (ad344.add ((x5_1).toNat * 6)).off + 1, none⟩ = some (.slice A344_1 ((rd_T49 l0 x5_1).f1).length c344_1) ∧ w'.cell? ⟨(ad344.add ((x5_1).toNat * 6)).block, (ad344.add ((x5_1).toNat * 6)).off + 2, none⟩ = some (.float .f32 ((rd_T49 l0 x5_1).f2)) ∧ w'.cell? ⟨(ad344.add ((x5_1).toNat * 6)).block, (ad344.add ((x5_1).toNat * 6)).off + 3, none⟩ = some (.float .f32 ((rd_T49 l0 x5_1).f3)) ∧ w'.cell? ⟨(ad344.add ((x5_1).toNat * 6)).block, (ad344.add ((x5_1).toNat * 6)).off + 4, none⟩ = some (.float .f32 ((rd_T49 l0 x5_1).f4)) ∧ w'.cell? ⟨(ad344.add ((x5_1).toNat * 6)).block, (ad344.add ((x5_1).toNat * 6)).off + 5, none⟩ = some (.float .f32 ((rd_T49 l0 x5_1).f5)) ∧ w'.cell? (ad345.add ((x5_1).toNat * 6)) = some (.string ((rd_T49 l1 x5_1).f0)) ∧ w'.cell? ⟨(ad345.add ((x5_1).toNat * 6)).block, (ad345.add ((x5_1).toNat * 6)).off + 1, none⟩ = some (.slice A345_1 ((rd_T49 l1 x5_1).f1).length c345_1) ∧ w'.cell? ⟨(ad345.add ((x5_1).toNat * 6)).block, (ad345.add ((x5_1).toNat * 6)).off + 2, none⟩ = some (.float .f32 ((rd_T49 l1 x5_1).f2)) ∧ w'.cell? ⟨(ad345.add ((x5_1).toNat * 6)).block, (ad345.add ((x5_1).toNat * 6)).off + 3, none⟩ = some (.float .f32 ((rd_T49 l1 x5_1).f3)) ∧ w'.cell? ⟨(ad345.add ((x5_1).toNat * 6)).block, (ad345.add ((x5_1).toNat * 6)).off + 4, none⟩ = some (.float .f32 ((rd_T49 l1 x5_1).f4)) ∧ w'.cell? ⟨(ad345.add ((x5_1).toNat * 6)).block, (ad345.add ((x5_1).toNat * 6)).off + 5, none⟩ = some (.float .f32 ((rd_T49 l1 x5_1).f5))) (ds := []) laws_eqSoundS.z0 (by kernel_rfl) rfl rfl ⟨(cu_ HB.out hw344_0), (cu_ HB.out hw344_1), (cu_ HB.out hw344_2), (cu_ HB.out hw344_3), (cu_ HB.out hw344_4), (cu_ HB.out hw344_5), (cu_ HB.out hw345_0), (cu_ HB.out hw345_1), (cu_ HB.out hw345_2), (cu_ HB.out hw345_3), (cu_ HB.out hw345_4), (cu_ HB.out hw345_5)⟩ (fun hHeld => ?_); refine with_tabW laws_eqSoundS.tab6 laws_eqSoundS.bits6 (fun HT_ HW_ => ?_)
        generalize wr.drew = w9 at HB HR344_1 HR345_1 hx344_0 hx344_1 hx344_2 hx344_3 hx344_4 hx344_5 hx345_0 hx345_1 hx345_2 hx345_3 hx345_4 hx345_5 hHeld ⊢
        refine pure_ (i := 0) (N := some 17) (v := ?_) (a' := ?_) laws_eqSoundS.z1 rfl rfl (any_of HT_.out (by kernel_rfl)) (fun _ _ _ h => h) (Or.inl ⟨by rfl, ?_⟩) ?_ ?_
        pv_
        refine pure_ (i := 1) (N := some 18) (v := ?_) (a' := ?_) laws_eqSoundS.z2 rfl rfl (any_of HT_.out (by kernel_rfl)) (fun _ _ _ h => h) (Or.inl ⟨by rfl, ?_⟩) ?_ ?_
        pv_
        refine pure_ (i := 2) (N := some 19) (v := ?_) (a' := ?_) laws_eqSoundS.z3 rfl rfl (any_of HT_.out (by kernel_rfl)) (fun _ _ _ h => h) (Or.inl ⟨by rfl, ?_⟩) ?_ ?_
        pv_
        refine pure_ (i := 4) (N := some 21) (v := ?_) (a' := ?_) laws_eqSoundS.z4 rfl rfl (any_of HT_.out (by kernel_rfl)) (fun _ _ _ h => h) (Or.inl ⟨by rfl, ?_⟩) ?_ ?_
        pv_
        refine pure_ (i := 5) (N := some 22) (v := ?_) (a' := ?_) laws_eqSoundS.z5 rfl rfl (any_of HT_.out (by kernel_rfl)) (fun _ _ _ h => h) (Or.inl ⟨by rfl, ?_⟩) ?_ ?_
        pv_
        refine pure_ (i := 6) (N := some 23) (v := ?_) (a' := ?_) laws_eqSoundS.z6 rfl rfl (any_of HT_.out (by kernel_rfl)) (fun _ _ _ h => h) (Or.inl ⟨by rfl, ?_⟩) ?_ ?_
        pv_
        refine take_ (i := 3) (N := some 20) (v := ?_) (a' := ?_) laws_eqSoundS.z7 rfl rfl (take_ofW HT_.out HW_.out (by kernel_rfl)) (fun _ _ _ h => h) (Or.inl ⟨by rfl, ?_⟩) hHeld ?_ ?_
        rotate_left
        ·rintro w' ⟨s0, s1, s2, s3, s4, s5, s6, s7, s8, s9, s10, s11⟩
         go_simp
         with_reducible rfl
        rotate_left
        ·pw_
        refine take_ (i := 7) (N := some 24) (v := ?_) (a' := ?_) laws_eqSoundS.z8 rfl rfl (take_ofW HT_.out HW_.out (by kernel_rfl)) (fun _ _ _ h => h) (Or.inl ⟨by rfl, ?_⟩) hHeld ?_ ?_
        rotate_left
        ·rintro w' ⟨s0, s1, s2, s3, s4, s5, s6, s7, s8, s9, s10, s11⟩
         go_simp
         with_reducible rfl
        rotate_left
        ·pw_
        refine one_ (i := 8) (N := some 25) laws_eqSoundS.z9 rfl rfl (one_of HT_.out (by kernel_rfl)) (by decide) (fun K hK => ?_)
        refine goes_ Try.func26 (by kernel_rfl) rfl #[.agg #[.string ((rd_T49 l0 x5_1).f0), .slice A344_1 ((rd_T49 l0 x5_1).f1).length c344_1, .float .f32 ((rd_T49 l0 x5_1).f2), .float .f32 ((rd_T49 l0 x5_1).f3), .float .f32 ((rd_T49 l0 x5_1).f4), .float .f32 ((rd_T49 l0 x5_1).f5)], .agg #[.string ((rd_T49 l1 x5_1).f0), .slice A345_1 ((rd_T49 l1 x5_1).f1).length c345_1, .float .f32 ((rd_T49 l1 x5_1).f2), .float .f32 ((rd_T49 l1 x5_1).f3), .float .f32 ((rd_T49 l1 x5_1).f4), .float .f32 ((rd_T49 l1 x5_1).f5)]] (by rfl) rfl rfl (by (try simp only [List.map_toArray, List.map_cons, List.map_nil]); first | done | rfl | (simp only [List.length_drop, List.length_take]; rfl)) ?_
        with_reducible refine (laws_eqSound.calls ((rd_T49 l0 x5_1).f0) _ _ ((rd_T49 l0 x5_1).f1) ((rd_T49 l0 x5_1).f2) ((rd_T49 l0 x5_1).f3) ((rd_T49 l0 x5_1).f4) ((rd_T49 l0 x5_1).f5) ((rd_T49 l1 x5_1).f0) _ _ ((rd_T49 l1 x5_1).f1) ((rd_T49 l1 x5_1).f2) ((rd_T49 l1 x5_1).f3) ((rd_T49 l1 x5_1).f4) ((rd_T49 l1 x5_1).f5) true _ ?side1 ?side2 ?side3 ?side4 A7.out).mono ?_
        (case side1 => repeat (first | exact (Kd.C_below HR344_1.out HB.out) | (with_reducible refine Kd.C_alloc ?_ _) | (with_reducible refine Kd.C_drewN ?_ _) | (with_reducible refine Kd.C_drew ?_)))
        (case side2 => exact HC344_1.out)
        (case side3 => repeat (first | exact (Kd.C_below HR345_1.out HB.out) | (with_reducible refine Kd.C_alloc ?_ _) | (with_reducible refine Kd.C_drewN ?_ _) | (with_reducible refine Kd.C_drew ?_)))
        (case side4 => exact HC345_1.out)
        rintro e w10 ⟨rfl, hb⟩
        refine ⟨_, rfl, ?_⟩
        have n0_ := Aside0.mk (below_step (by repeat (first | (with_reducible first | exact HB.out | apply below_alloc | apply pw_below_drewN | apply below_drew1) | exact HB.out)) hb)
        clear HB
        have HB := n0_
        clear n0_
        (try clear hb)
        (try clear hb2)
        (try clear hk)
        (try clear hi)
        refine hK.out _ _ ⟨(cu_ HB.out hw344_0), (cu_ HB.out hw344_1), (cu_ HB.out hw344_2), (cu_ HB.out hw344_3), (cu_ HB.out hw344_4), (cu_ HB.out hw344_5), (cu_ HB.out hw345_0), (cu_ HB.out hw345_1), (cu_ HB.out hw345_2), (cu_ HB.out hw345_3), (cu_ HB.out hw345_4), (cu_ HB.out hw345_5)⟩ (fun hHeld => ?_)
        clear hK K
        refine norm_ (a' := ?_) ?_ ?_
        rotate_left
        ·show Act.put _ (some 25) _ = _
         pw_
        refine pure_ (i := 9) (N := some 26) (v := ?_) (a' := ?_) laws_eqSoundS.z10 rfl rfl (any_of HT_.out (by kernel_rfl)) (fun _ _ _ h => h) (Or.inl ⟨by rfl, ?_⟩) ?_ ?_
        pv_
        refine done_ (done_of HT_.out (by kernel_rfl)) ?_
        try go_wp2
        go_roundg k1
        case measure => have := HK1.out; omega
        case rel => exact ⟨(wrap64 (x5_1 + 1)), (by first | rfl | (simp; done) | (simp [*]; done)), H', ⟨by have := HK1.out; omega⟩, ⟨by repeat (first | (with_reducible first | exact HB.out | apply below_alloc | apply pw_below_drewN | apply below_drew1) | exact HB.out)⟩⟩
       ·replace c8 := Bool.eq_false_iff.mpr c8
        subst c8
        have H1 : (some false) = some r := by rw [if_neg (show ¬ (false = true) by decide)] at H; exact H
        clear H
        have H := H1
        clear H1
        obtain rfl := Option.some.inj H
        try go_wp2
        have n0_ := Aside0.mk (below_drew1 HB.out)
        clear HB
        have HB := n0_
        clear n0_
        have p344 : 0 ≤ (x5_1 : Int) := of_decide_eq_true (by first | (with_reducible assumption) | assumption)
        have q344 : x5_1 < (l0.length : Int) := of_decide_eq_true (by first | (with_reducible assumption) | assumption)
        obtain ⟨ad344, A344_1, c344_1, e344, hx344_0, hx344_1, hx344_2, hx344_3, hx344_4, hx344_5, hl344_1, hi344_1⟩ := at_T49 HR0.out x5_1 p344 q344
        have hw344_5 := hx344_5
        have hw344_4 := hx344_4
        have hw344_3 := hx344_3
        have hw344_2 := hx344_2
        have hw344_1 := hx344_1
        have hw344_0 := hx344_0
        cases e344
        replace hx344_0 := (HB.out.cell (World.block_lt_of_cell? w _ hx344_0)).trans hx344_0
        replace hx344_1 := (HB.out.cell (World.block_lt_of_cell? w _ hx344_1)).trans hx344_1
        replace hx344_2 := (HB.out.cell (World.block_lt_of_cell? w _ hx344_2)).trans hx344_2
        replace hx344_3 := (HB.out.cell (World.block_lt_of_cell? w _ hx344_3)).trans hx344_3
        replace hx344_4 := (HB.out.cell (World.block_lt_of_cell? w _ hx344_4)).trans hx344_4
        replace hx344_5 := (HB.out.cell (World.block_lt_of_cell? w _ hx344_5)).trans hx344_5
        have HR344_1 := Aside0.mk hi344_1
        have HC344_1 := Aside0.mk hl344_1
        clear hi344_1 hl344_1
        replace p344 := eq_true p344
        replace q344 := eq_true q344
        have p345 : 0 ≤ (x5_1 : Int) := of_decide_eq_true (by first | (with_reducible assumption) | assumption)
        have q345 : x5_1 < (l1.length : Int) := of_decide_eq_true (by first | (with_reducible assumption) | assumption)
        obtain ⟨ad345, A345_1, c345_1, e345, hx345_0, hx345_1, hx345_2, hx345_3, hx345_4, hx345_5, hl345_1, hi345_1⟩ := at_T49 HR1.out x5_1 p345 q345
        have hw345_5 := hx345_5
        have hw345_4 := hx345_4
        have hw345_3 := hx345_3
        have hw345_2 := hx345_2
        have hw345_1 := hx345_1
        have hw345_0 := hx345_0
        cases e345
        replace hx345_0 := (HB.out.cell (World.block_lt_of_cell? w _ hx345_0)).trans hx345_0
        replace hx345_1 := (HB.out.cell (World.block_lt_of_cell? w _ hx345_1)).trans hx345_1
        replace hx345_2 := (HB.out.cell (World.block_lt_of_cell? w _ hx345_2)).trans hx345_2
        replace hx345_3 := (HB.out.cell (World.block_lt_of_cell? w _ hx345_3)).trans hx345_3
        replace hx345_4 := (HB.out.cell (World.block_lt_of_cell? w _ hx345_4)).trans hx345_4
        replace hx345_5 := (HB.out.cell (World.block_lt_of_cell? w _ hx345_5)).trans hx345_5
        have HR345_1 := Aside0.mk hi345_1
        have HC345_1 := Aside0.mk hl345_1
        clear hi345_1 hl345_1
        replace p345 := eq_true p345
        replace q345 := eq_true q345
        refine start_ (n := 10) (S := fun w' => w'.cell? (ad344.add ((x5_1).toNat * 6)) = some (.string ((rd_T49 l0 x5_1).f0)) ∧ w'.cell? ⟨(ad344.add ((x5_1).toNat * 6)).block, (ad344.add ((x5_1).toNat * 6)).off + 1, none⟩ = some (.slice A344_1 ((rd_T49 l0 x5_1).f1).length c344_1) ∧ w'.cell? ⟨(ad344.add ((x5_1).toNat * 6)).block, (ad344.add ((x5_1).toNat * 6)).off + 2, none⟩ = some (.float .f32 ((rd_T49 l0 x5_1).f2)) ∧ w'.cell? ⟨(ad344.add ((x5_1).toNat * 6)).block, (ad344.add ((x5_1).toNat * 6)).off + 3, none⟩ = some (.float .f32 ((rd_T49 l0 x5_1).f3)) ∧ w'.cell? ⟨(ad344.add ((x5_1).toNat * 6)).block, (ad344.add ((x5_1).toNat * 6)).off + 4, none⟩ = some (.float .f32 ((rd_T49 l0 x5_1).f4)) ∧ w'.cell? ⟨(ad344.add ((x5_1).toNat * 6)).block, (ad344.add ((x5_1).toNat * 6)).off + 5, none⟩ = some (.float .f32 ((rd_T49 l0 x5_1).f5)) ∧ w'.cell? (ad345.add ((x5_1).toNat * 6)) = some (.string ((rd_T49 l1 x5_1).f0)) ∧ w'.cell? ⟨(ad345.add ((x5_1).toNat * 6)).block, (ad345.add ((x5_1).toNat * 6)).off + 1, none⟩ = some (.slice A345_1 ((rd_T49 l1 x5_1).f1).length c345_1) ∧ w'.cell? ⟨(ad345.add ((x5_1).toNat * 6)).block, (ad345.add ((x5_1).toNat * 6)).off + 2, none⟩ = some (.float .f32 ((rd_T49 l1 x5_1).f2)) ∧ w'.cell? ⟨(ad345.add ((x5_1).toNat * 6)).block, (ad345.add ((x5_1).toNat * 6)).off + 3, none⟩ = some (.float .f32 ((rd_T49 l1 x5_1).f3)) ∧ w'.cell? ⟨(ad345.add ((x5_1).toNat * 6)).block, (ad345.add ((x5_1).toNat * 6)).off + 4, none⟩ = some (.float .f32 ((rd_T49 l1 x5_1).f4)) ∧ w'.cell? ⟨(ad345.add ((x5_1).toNat * 6)).block, (ad345.add ((x5_1).toNat * 6)).off + 5, none⟩ = some (.float .f32 ((rd_T49 l1 x5_1).f5))) (ds := []) laws_eqSoundS.z0 (by kernel_rfl) rfl rfl ⟨(cu_ HB.out hw344_0), (cu_ HB.out hw344_1), (cu_ HB.out hw344_2), (cu_ HB.out hw344_3), (cu_ HB.out hw344_4), (cu_ HB.out hw344_5), (cu_ HB.out hw345_0), (cu_ HB.out hw345_1), (cu_ HB.out hw345_2), (cu_ HB.out hw345_3), (cu_ HB.out hw345_4), (cu_ HB.out hw345_5)⟩ (fun hHeld => ?_); refine with_tabW laws_eqSoundS.tab6 laws_eqSoundS.bits6 (fun HT_ HW_ => ?_)
        generalize wr.drew = w11 at HB HR344_1 HR345_1 hx344_0 hx344_1 hx344_2 hx344_3 hx344_4 hx344_5 hx345_0 hx345_1 hx345_2 hx345_3 hx345_4 hx345_5 hHeld ⊢
        refine pure_ (i := 0) (N := some 17) (v := ?_) (a' := ?_) laws_eqSoundS.z1 rfl rfl (any_of HT_.out (by kernel_rfl)) (fun _ _ _ h => h) (Or.inl ⟨by rfl, ?_⟩) ?_ ?_
        pv_
        refine pure_ (i := 1) (N := some 18) (v := ?_) (a' := ?_) laws_eqSoundS.z2 rfl rfl (any_of HT_.out (by kernel_rfl)) (fun _ _ _ h => h) (Or.inl ⟨by rfl, ?_⟩) ?_ ?_
        pv_
        refine pure_ (i := 2) (N := some 19) (v := ?_) (a' := ?_) laws_eqSoundS.z3 rfl rfl (any_of HT_.out (by kernel_rfl)) (fun _ _ _ h => h) (Or.inl ⟨by rfl, ?_⟩) ?_ ?_
        pv_
        refine pure_ (i := 4) (N := some 21) (v := ?_) (a' := ?_) laws_eqSoundS.z4 rfl rfl (any_of HT_.out (by kernel_rfl)) (fun _ _ _ h => h) (Or.inl ⟨by rfl, ?_⟩) ?_ ?_
        pv_
        refine pure_ (i := 5) (N := some 22) (v := ?_) (a' := ?_) laws_eqSoundS.z5 rfl rfl (any_of HT_.out (by kernel_rfl)) (fun _ _ _ h => h) (Or.inl ⟨by rfl, ?_⟩) ?_ ?_
        pv_
        refine pure_ (i := 6) (N := some 23) (v := ?_) (a' := ?_) laws_eqSoundS.z6 rfl rfl (any_of HT_.out (by kernel_rfl)) (fun _ _ _ h => h) (Or.inl ⟨by rfl, ?_⟩) ?_ ?_
        pv_
        refine take_ (i := 3) (N := some 20) (v := ?_) (a' := ?_) laws_eqSoundS.z7 rfl rfl (take_ofW HT_.out HW_.out (by kernel_rfl)) (fun _ _ _ h => h) (Or.inl ⟨by rfl, ?_⟩) hHeld ?_ ?_
        rotate_left
        ·rintro w' ⟨s0, s1, s2, s3, s4, s5, s6, s7, s8, s9, s10, s11⟩
         go_simp
         with_reducible rfl
        rotate_left
        ·pw_
        refine take_ (i := 7) (N := some 24) (v := ?_) (a' := ?_) laws_eqSoundS.z8 rfl rfl (take_ofW HT_.out HW_.out (by kernel_rfl)) (fun _ _ _ h => h) (Or.inl ⟨by rfl, ?_⟩) hHeld ?_ ?_
        rotate_left
        ·rintro w' ⟨s0, s1, s2, s3, s4, s5, s6, s7, s8, s9, s10, s11⟩
         go_simp
         with_reducible rfl
        rotate_left
        ·pw_
        refine one_ (i := 8) (N := some 25) laws_eqSoundS.z9 rfl rfl (one_of HT_.out (by kernel_rfl)) (by decide) (fun K hK => ?_)
        refine goes_ Try.func26 (by kernel_rfl) rfl #[.agg #[.string ((rd_T49 l0 x5_1).f0), .slice A344_1 ((rd_T49 l0 x5_1).f1).length c344_1, .float .f32 ((rd_T49 l0 x5_1).f2), .float .f32 ((rd_T49 l0 x5_1).f3), .float .f32 ((rd_T49 l0 x5_1).f4), .float .f32 ((rd_T49 l0 x5_1).f5)], .agg #[.string ((rd_T49 l1 x5_1).f0), .slice A345_1 ((rd_T49 l1 x5_1).f1).length c345_1, .float .f32 ((rd_T49 l1 x5_1).f2), .float .f32 ((rd_T49 l1 x5_1).f3), .float .f32 ((rd_T49 l1 x5_1).f4), .float .f32 ((rd_T49 l1 x5_1).f5)]] (by rfl) rfl rfl (by (try simp only [List.map_toArray, List.map_cons, List.map_nil]); first | done | rfl | (simp only [List.length_drop, List.length_take]; rfl)) ?_
        with_reducible refine (laws_eqSound.calls ((rd_T49 l0 x5_1).f0) _ _ ((rd_T49 l0 x5_1).f1) ((rd_T49 l0 x5_1).f2) ((rd_T49 l0 x5_1).f3) ((rd_T49 l0 x5_1).f4) ((rd_T49 l0 x5_1).f5) ((rd_T49 l1 x5_1).f0) _ _ ((rd_T49 l1 x5_1).f1) ((rd_T49 l1 x5_1).f2) ((rd_T49 l1 x5_1).f3) ((rd_T49 l1 x5_1).f4) ((rd_T49 l1 x5_1).f5) false _ ?side1 ?side2 ?side3 ?side4 A7.out).mono ?_
        (case side1 => repeat (first | exact (Kd.C_below HR344_1.out HB.out) | (with_reducible refine Kd.C_alloc ?_ _) | (with_reducible refine Kd.C_drewN ?_ _) | (with_reducible refine Kd.C_drew ?_)))
        (case side2 => exact HC344_1.out)
        (case side3 => repeat (first | exact (Kd.C_below HR345_1.out HB.out) | (with_reducible refine Kd.C_alloc ?_ _) | (with_reducible refine Kd.C_drewN ?_ _) | (with_reducible refine Kd.C_drew ?_)))
        (case side4 => exact HC345_1.out)
        rintro e w12 ⟨rfl, hb⟩
        refine ⟨_, rfl, ?_⟩
        have n0_ := Aside0.mk (below_step (by repeat (first | (with_reducible first | exact HB.out | apply below_alloc | apply pw_below_drewN | apply below_drew1) | exact HB.out)) hb)
        clear HB
        have HB := n0_
        clear n0_
        (try clear hb)
        (try clear hb2)
        (try clear hk)
        (try clear hi)
        refine hK.out _ _ ⟨(cu_ HB.out hw344_0), (cu_ HB.out hw344_1), (cu_ HB.out hw344_2), (cu_ HB.out hw344_3), (cu_ HB.out hw344_4), (cu_ HB.out hw344_5), (cu_ HB.out hw345_0), (cu_ HB.out hw345_1), (cu_ HB.out hw345_2), (cu_ HB.out hw345_3), (cu_ HB.out hw345_4), (cu_ HB.out hw345_5)⟩ (fun hHeld => ?_)
        clear hK K
        refine norm_ (a' := ?_) ?_ ?_
        rotate_left
        ·show Act.put _ (some 25) _ = _
         pw_
        refine pure_ (i := 9) (N := some 26) (v := ?_) (a' := ?_) laws_eqSoundS.z10 rfl rfl (any_of HT_.out (by kernel_rfl)) (fun _ _ _ h => h) (Or.inl ⟨by rfl, ?_⟩) ?_ ?_
        pv_
        refine done_ (done_of HT_.out (by kernel_rfl)) ?_
        try go_wp2
        go_ret
        exact ⟨by first | rfl | (simp [errW_none, errW_some] <;> rfl) | (simp [*, errW_none, errW_some] <;> rfl), by repeat (first | (with_reducible first | exact HB.out | apply below_alloc | apply pw_below_drewN | apply below_drew1) | exact HB.out)⟩
      ·rw [if_neg c6] at H
       exact absurd H (by simp)
     ·rw [if_neg c5] at H
      exact absurd H (by simp)
    ·rw [if_neg c4] at H
     have c4b0 : decide (x5_1 < (l0.length : Int)) = false := decide_eq_false c4
     clear c4
     obtain rfl := Option.some.inj H
     go_wp2
     go_ret
     exact ⟨by first | rfl | (simp [errW_none, errW_some] <;> rfl) | (simp [*, errW_none, errW_some] <;> rfl), by repeat (first | (with_reducible first | exact HB.out | apply below_alloc | apply pw_below_drewN | apply below_drew1) | exact HB.out)⟩
 ·rw [if_neg c3] at H
  have c3b0 : ((l0.length : Int) == (l1.length : Int)) = false := beq_eq_false_iff_ne.mpr c3
  have c3b1 : ((l0.length : Int) != (l1.length : Int)) = true := bne_iff_ne.mpr c3
  have c3b2 : (l0.length == l1.length) = false := by first | simpa using c3 | (simp at c3 ⊢; omega)
  obtain rfl := Option.some.inj H
  go_enter Try.func14, Try.ntmps14
  go_wp2
  go_ret
  exact ⟨by first | rfl | (simp [errW_none, errW_some] <;> rfl) | (simp [*, errW_none, errW_some] <;> rfl), by repeat (first | (with_reducible first | exact HB.out | apply below_alloc | apply pw_below_drewN | apply below_drew1) | exact HB.out)⟩
end Go.Proofs.Yteooifighndmkaa.PFnExactFrameAt
