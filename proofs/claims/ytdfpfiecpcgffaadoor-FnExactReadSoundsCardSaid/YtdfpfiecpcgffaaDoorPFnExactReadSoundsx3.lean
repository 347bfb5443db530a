import Derived.Test.YtdfpfiecpcgffaaDoorPFnExactReadSoundsx0
import Derived.Test.YtdfpfiecpcgffaaDoorPFnExactReadSoundsx2
namespace Go.Proofs.YtdfpfiecpcgffaaDoor.PFnExactReadSounds
open Go.RowKit Go.Proofs.YtdfpfiecpcgffaaDoorW.PrintWords Go.Proofs.YtdfpfiecpcgffaaDoorW.PrintLast Go.Proofs.YtdfpfiecpcgffaaDoorW.PrintMore
open Go.Proofs.YtdfpfiecpcgffaaDoorW.PrintFl
attribute [local go_sem high] binOp_feq binOp_fne binOp_fls binOp_fle binOp_fgr binOp_fge binOp_sle binOp_sgt
attribute [local go_sem] run_fopr run_fconv run_fint run_stf run_stc ext_f32bits ext_f32frombits
attribute [local go_sem] max2_int min2_int max_two min_two max_three min_three max_four min_four
set_option linter.unusedVariables false
set_option linter.unusedSimpArgs false
def spec_ReadSounds.f (k : Nat) (a0 : ByteArray) : Option ((List (S58)) × Bool) := (spec_l08ReadSounds.f k a0).bind fun bt187 => (some (bt187.1, bt187.2))
theorem spec_ReadSounds.mono : ∀ a0 k, LeO (spec_ReadSounds.f k a0) (spec_ReadSounds.f (k + 1) a0) := by
  intro a0 k
  unfold spec_ReadSounds.f
  repeat' first
      | (with_reducible exact spec_l08ReadSounds.mono _ _)
      | (with_reducible exact LeO.refl _)
      | (with_reducible exact LeO.none _)
      | (with_reducible refine LeO.ite ?_ ?_)
      | (with_reducible refine LeO.bind ?_ (fun _ => ?_))
      | exact spec_l08ReadSounds.mono _ _
      | exact LeO.none _
      | refine LeO.ite ?_ ?_
      | refine LeO.bind ?_ (fun _ => ?_)
set_option maxHeartbeats 8000000 in
set_option maxRecDepth 100000 in
theorem spec_ReadSounds.calls (k : Nat) (a0 : ByteArray) (r1 : List (S58)) (r2 : Bool) (w : World) (h : spec_ReadSounds.f k a0 = some (r1, r2)) :
    Calls Tryd.prog 26 #[.string a0] w fun e w' => ∃ v0_ : Value, e = .returned (.tuple #[v0_, .bool r2]) ∧ Kd.V k58 58 w' w.heap.size (fun k_ => (w.heap.size ≤ k_)) v0_ r1 ∧ Below w.heap.size w w' := by
  have HB := Aside0.mk (Below.refl w.heap.size w)
  have H : ((spec_l08ReadSounds.f k a0).bind fun bt187 => (some (bt187.1, bt187.2))) = some (r1, r2) := h
  clear h
  replace H := Option.bind_eq_some_iff.mp H
  obtain ⟨⟨t187, t190⟩, A20, H⟩ := H
  replace H : (some (t187, t190)) = some (r1, r2) := H
  have A2 := Aside0.mk A20
  clear A20
  simp only [Option.some.injEq, Prod.mk.injEq] at H
  obtain ⟨rfl, rfl⟩ := H
  go_enter Tryd.func26, Tryd.ntmps26
  go_wp2_with (first | ((with_reducible refine gate_callee (f := 49) rfl ?_); refine goesL_ (some 5) rfl rfl Tryd.func49 (by kernel_rfl) rfl #[.string a0] rfl (by (try simp only [List.map_toArray, List.map_cons, List.map_nil]); first | done | rfl | (simp only [List.length_drop, List.length_take]; rfl)) ?_; (with_reducible refine (spec_l08ReadSounds.calls k a0 t187 t190 _ A2.out).mono ?_); rintro e w3 ⟨v188, rfl, ho0, hb⟩; refine ⟨_, rfl, ?_⟩; have n0_ := Aside0.mk (Kd.V_lower (Kd.V_mono (ok' := fun k_ => (w.heap.size ≤ k_)) ho0 (fun k_ hk_ => (Nat.le_trans (below_size (by repeat (first | (with_reducible first | exact HB.out | apply below_alloc | apply pw_below_drewN | apply below_drew1) | exact HB.out))) hk_))) (below_size (by repeat (first | (with_reducible first | exact HB.out | apply below_alloc | apply pw_below_drewN | apply below_drew1) | exact HB.out)))); have n1_ := Aside0.mk (below_step (by repeat (first | (with_reducible first | exact HB.out | apply below_alloc | apply pw_below_drewN | apply below_drew1) | exact HB.out)) hb); clear HB; have HO189 := n0_; have HB := n1_; clear n0_ n1_; (try clear hb); (try clear hb2); (try clear hk); (try clear hi); (try clear ho0)))
  go_ret2
  exact ⟨_, by first | rfl | (simp [errW_none, errW_some] <;> rfl) | (simp [*, errW_none, errW_some] <;> rfl), by (with_reducible repeat (first | apply Kd.V_alloc | apply Kd.V_drewN | apply Kd.V_drew)); exact HO189.out, by repeat (first | (with_reducible first | exact HB.out | apply below_alloc | apply pw_below_drewN | apply below_drew1) | exact HB.out)⟩
def impl_isBetween.f (a0 : Nat) (a1 : Nat) (a2 : Nat) : Option (Bool) := if (fge .f32 a0 a1) = true then (some (fle .f32 a0 a2)) else (some false)
set_option maxHeartbeats 8000000 in
set_option maxRecDepth 100000 in
theorem impl_isBetween.calls (a0 : Nat) (a1 : Nat) (a2 : Nat) (r : Bool) (w : World) (h : impl_isBetween.f a0 a1 a2 = some r) :
    Calls Tryd.prog 63 #[.float .f32 a0, .float .f32 a1, .float .f32 a2] w fun e w' => e = .returned (.bool r) ∧ Drawn0 w w' := by
  have H : (if (fge .f32 a0 a1) = true then (some (fle .f32 a0 a2)) else (some false)) = some r := h
  clear h
  by_cases c4 : (fge .f32 a0 a1) = true
  · rw [if_pos c4] at H
    have c4b0 : (fge .f32 a0 a1) = true := c4
    clear c4
    obtain rfl := Option.some.inj H
    go_enter Tryd.func63, Tryd.ntmps63
    go_wp2
    go_ret
    exact ⟨by first | rfl | (simp; done) | (simp [*]; done), by repeat (first | exact Drawn0.refl _ | apply Drawn0.step)⟩
  · rw [if_neg c4] at H
    have c4b0 : (fge .f32 a0 a1) = false := by simpa using c4
    clear c4
    obtain rfl := Option.some.inj H
    go_enter Tryd.func63, Tryd.ntmps63
    go_wp2
    go_ret
    exact ⟨by first | rfl | (simp; done) | (simp [*]; done), by repeat (first | exact Drawn0.refl _ | apply Drawn0.step)⟩
def impl_IsFinite.f (a0 : Nat) : Option Bool := some (finB a0)
theorem impl_IsFinite.calls (a0 : Nat) (r : Bool) (w : World) (h : impl_IsFinite.f a0 = some r) :
    Calls Tryd.prog 64 #[.float .f32 a0] w fun e w' => e = .returned (.bool r) ∧ Drawn0 w w' := by
  obtain rfl := Option.some.inj h
  exact fin_impl a0 w
def impl_within.f (a0 : Int) (a1 : Int) (a2 : Int) : Option (Bool) := if a0 ≥ a1 then (some (decide (a0 ≤ a2))) else (some false)
set_option maxHeartbeats 8000000 in
set_option maxRecDepth 100000 in
theorem impl_within.calls (a0 : Int) (a1 : Int) (a2 : Int) (r : Bool) (w : World) (h : impl_within.f a0 a1 a2 = some r) :
    Calls Tryd.prog 91 #[.int .i64 a0, .int .i64 a1, .int .i64 a2] w fun e w' => e = .returned (.bool r) ∧ Drawn0 w w' := by
  have H : (if a0 ≥ a1 then (some (decide (a0 ≤ a2))) else (some false)) = some r := h
  clear h
  by_cases c4 : a0 ≥ a1
  · rw [if_pos c4] at H
    have c4b0 : decide (a1 ≤ a0) = true := decide_eq_true c4
    clear c4
    obtain rfl := Option.some.inj H
    go_enter Tryd.func91, Tryd.ntmps91
    go_wp2
    go_ret
    exact ⟨by first | rfl | (simp; done) | (simp [*]; done), by repeat (first | exact Drawn0.refl _ | apply Drawn0.step)⟩
  · rw [if_neg c4] at H
    have c4b0 : decide (a1 ≤ a0) = false := decide_eq_false c4
    clear c4
    obtain rfl := Option.some.inj H
    go_enter Tryd.func91, Tryd.ntmps91
    go_wp2
    go_ret
    exact ⟨by first | rfl | (simp; done) | (simp [*]; done), by repeat (first | exact Drawn0.refl _ | apply Drawn0.step)⟩
def impl_IsName.l0 : Nat → ByteArray → Int → Option (Bool)
  | 0, _, _ => none
  | k + 1, x0, x3 => if x3 < (x0.size : Int) then (if 0 ≤ x3 then (if (bt x0 x3) < 97 then (some false) else (if (bt x0 x3) > 122 then (some false) else (impl_IsName.l0 k x0 (wrap64 (x3 + 1))))) else (none)) else ((impl_within.f (x0.size : Int) 1 8).bind fun t191 => (some t191))
def impl_IsName.f (k : Nat) (a0 : ByteArray) : Option (Bool) := impl_IsName.l0 k a0 0
theorem impl_IsName.mono_l : ∀ k, (∀ y0 y1, LeO (impl_IsName.l0 k y0 y1) (impl_IsName.l0 (k + 1) y0 y1))
  | 0 => fun _ _ r h => by simp [impl_IsName.l0] at h
  | k + 1 => by
    have ih0 := impl_IsName.mono_l k
    · intro y0 y1
      unfold impl_IsName.l0
      repeat' first
      | (with_reducible exact ih0 _ _)
      | (with_reducible exact LeO.refl _)
      | (with_reducible exact LeO.none _)
      | (with_reducible refine LeO.ite ?_ ?_)
      | (with_reducible refine LeO.bind ?_ (fun _ => ?_))
      | exact ih0 _ _
      | exact LeO.none _
      | refine LeO.ite ?_ ?_
      | refine LeO.bind ?_ (fun _ => ?_)
theorem impl_IsName.mono : ∀ a0 k, LeO (impl_IsName.f k a0) (impl_IsName.f (k + 1) a0) := by
  intro a0 k
  have ih0 := impl_IsName.mono_l k
  unfold impl_IsName.f
  repeat' first
      | (with_reducible exact ih0 _ _)
      | (with_reducible exact LeO.refl _)
      | (with_reducible exact LeO.none _)
      | (with_reducible refine LeO.ite ?_ ?_)
      | (with_reducible refine LeO.bind ?_ (fun _ => ?_))
      | exact ih0 _ _
      | exact LeO.none _
      | refine LeO.ite ?_ ?_
      | refine LeO.bind ?_ (fun _ => ?_)
set_option maxHeartbeats 8000000 in
set_option maxRecDepth 100000 in
theorem impl_IsName.calls (k : Nat) (a0 : ByteArray) (r : Bool) (w : World) (h : impl_IsName.f k a0 = some r) :
    Calls Tryd.prog 99 #[.string a0] w fun e w' => e = .returned (.bool r) ∧ Drawn0 w w' := by
  have H : (impl_IsName.l0 k a0 0) = some r := h
  clear h
  have H' := Aside0.mk H
  clear H
  go_enter Tryd.func99, Tryd.ntmps99
  go_wp2
  go_loopg [3] k (fun kq v3 w' => ∃ (x3_1 : Int), v3 = .int .i64 x3_1 ∧ Aside0 (impl_IsName.l0 kq a0 x3_1 = some r) ∧ Aside0 (kq ≤ k) ∧ Drawn0 w w')
  case atStart => exact ⟨(0), (by first | rfl | (simp; done) | (simp [*]; done)), H', ⟨Nat.le_refl _⟩, by repeat (first | exact Drawn0.refl _ | apply Drawn0.step)⟩
  case round =>
    clear H'
    obtain ⟨x3_1, rfl, HA, HK1, ⟨m1, rfl⟩⟩ := hrel
    cases gk with
    | zero => exact absurd HA.out (by simp [impl_IsName.l0])
    | succ k1 =>
      have H := HA.out
      clear HA
      simp only [impl_IsName.l0] at H
      by_cases c2 : x3_1 < (a0.size : Int)
      · rw [if_pos c2] at H
        have c2b0 : decide (x3_1 < (a0.size : Int)) = true := decide_eq_true c2
        clear c2
        by_cases c3 : 0 ≤ x3_1
        · rw [if_pos c3] at H
          have c3b0 : decide (0 ≤ x3_1) = true := decide_eq_true c3
          clear c3
          by_cases c5 : (bt a0 x3_1) < 97
          · rw [if_pos c5] at H
            have c5b0 : decide ((bt a0 x3_1) < 97) = true := decide_eq_true c5
            clear c5
            obtain rfl := Option.some.inj H
            have p4 : 0 ≤ (x3_1 : Int) := of_decide_eq_true (by first | (with_reducible assumption) | assumption)
            have q4 : x3_1 < (a0.size : Int) := of_decide_eq_true (by first | (with_reducible assumption) | assumption)
            have hx4 := bt_at a0 x3_1
            replace p4 := eq_true p4
            replace q4 := eq_true q4
            go_wp2
            go_ret
            exact ⟨by first | rfl | (simp; done) | (simp [*]; done), by repeat (first | exact Drawn0.refl _ | apply Drawn0.step)⟩
          · rw [if_neg c5] at H
            have c5b0 : decide ((bt a0 x3_1) < 97) = false := decide_eq_false c5
            clear c5
            by_cases c7 : (bt a0 x3_1) > 122
            · rw [if_pos c7] at H
              have c7b0 : decide (122 < (bt a0 x3_1)) = true := decide_eq_true c7
              clear c7
              obtain rfl := Option.some.inj H
              have p4 : 0 ≤ (x3_1 : Int) := of_decide_eq_true (by first | (with_reducible assumption) | assumption)
              have q4 : x3_1 < (a0.size : Int) := of_decide_eq_true (by first | (with_reducible assumption) | assumption)
              have hx4 := bt_at a0 x3_1
              replace p4 := eq_true p4
              replace q4 := eq_true q4
              have p6 : 0 ≤ (x3_1 : Int) := of_decide_eq_true (by first | (with_reducible assumption) | assumption)
              have q6 : x3_1 < (a0.size : Int) := of_decide_eq_true (by first | (with_reducible assumption) | assumption)
              have hx6 := bt_at a0 x3_1
              replace p6 := eq_true p6
              replace q6 := eq_true q6
              go_wp2
              go_ret
              exact ⟨by first | rfl | (simp; done) | (simp [*]; done), by repeat (first | exact Drawn0.refl _ | apply Drawn0.step)⟩
            · rw [if_neg c7] at H
              have c7b0 : decide (122 < (bt a0 x3_1)) = false := decide_eq_false c7
              clear c7
              have H' := Aside0.mk H
              clear H
              have p4 : 0 ≤ (x3_1 : Int) := of_decide_eq_true (by first | (with_reducible assumption) | assumption)
              have q4 : x3_1 < (a0.size : Int) := of_decide_eq_true (by first | (with_reducible assumption) | assumption)
              have hx4 := bt_at a0 x3_1
              replace p4 := eq_true p4
              replace q4 := eq_true q4
              have p6 : 0 ≤ (x3_1 : Int) := of_decide_eq_true (by first | (with_reducible assumption) | assumption)
              have q6 : x3_1 < (a0.size : Int) := of_decide_eq_true (by first | (with_reducible assumption) | assumption)
              have hx6 := bt_at a0 x3_1
              replace p6 := eq_true p6
              replace q6 := eq_true q6
              go_wp2
              go_roundg k1
              case measure => have := HK1.out; omega
              case rel => exact ⟨(wrap64 (x3_1 + 1)), (by first | rfl | (simp; done) | (simp [*]; done)), H', ⟨by have := HK1.out; omega⟩, by repeat (first | exact Drawn0.refl _ | apply Drawn0.step)⟩
        · rw [if_neg c3] at H
          exact absurd H (by simp)
      · rw [if_neg c2] at H
        have c2b0 : decide (x3_1 < (a0.size : Int)) = false := decide_eq_false c2
        clear c2
        replace H := Option.bind_eq_some_iff.mp H
        obtain ⟨t191, A80, H⟩ := H
        replace H : (some t191) = some r := H
        have A8 := Aside0.mk A80
        clear A80
        obtain rfl := Option.some.inj H
        go_wp2_with (first | ((with_reducible refine gate_callee (f := 91) rfl ?_); refine goesL_ (some 22) rfl rfl Tryd.func91 (by kernel_rfl) rfl #[.int .i64 (a0.size : Int), .int .i64 1, .int .i64 8] rfl (by (try simp only [List.map_toArray, List.map_cons, List.map_nil]); first | done | rfl | (simp only [List.length_drop, List.length_take]; rfl)) ?_; (with_reducible refine (impl_within.calls (a0.size : Int) 1 8 t191 _ A8.out).mono ?_); rintro e w' ⟨rfl, ⟨nd, rfl⟩⟩; refine ⟨_, rfl, ?_⟩))
        go_ret
        exact ⟨by first | rfl | (simp; done) | (simp [*]; done), by repeat (first | exact Drawn0.refl _ | apply Drawn0.step)⟩
def impl_isSoundName.f (k : Nat) (a0 : ByteArray) : Option (Bool) := if (a0.size : Int) ≤ 4 then ((impl_IsName.f k a0).bind fun t192 => (some t192)) else (some false)
theorem impl_isSoundName.mono : ∀ a0 k, LeO (impl_isSoundName.f k a0) (impl_isSoundName.f (k + 1) a0) := by
  intro a0 k
  unfold impl_isSoundName.f
  repeat' first
      | (with_reducible exact impl_IsName.mono _ _)
      | (with_reducible exact LeO.refl _)
      | (with_reducible exact LeO.none _)
      | (with_reducible refine LeO.ite ?_ ?_)
      | (with_reducible refine LeO.bind ?_ (fun _ => ?_))
      | exact impl_IsName.mono _ _
      | exact LeO.none _
      | refine LeO.ite ?_ ?_
      | refine LeO.bind ?_ (fun _ => ?_)
set_option maxHeartbeats 8000000 in
set_option maxRecDepth 100000 in
theorem impl_isSoundName.calls (k : Nat) (a0 : ByteArray) (r : Bool) (w : World) (h : impl_isSoundName.f k a0 = some r) :
    Calls Tryd.prog 80 #[.string a0] w fun e w' => e = .returned (.bool r) ∧ Drawn0 w w' := by
  have H : (if (a0.size : Int) ≤ 4 then ((impl_IsName.f k a0).bind fun t192 => (some t192)) else (some false)) = some r := h
  clear h
  by_cases c2 : (a0.size : Int) ≤ 4
  · rw [if_pos c2] at H
    have c2b0 : decide ((a0.size : Int) ≤ 4) = true := decide_eq_true c2
    have c2b1 : decide (a0.size ≤ 4) = true := decide_eq_true (by omega)
    clear c2
    replace H := Option.bind_eq_some_iff.mp H
    obtain ⟨t192, A30, H⟩ := H
    replace H : (some t192) = some r := H
    have A3 := Aside0.mk A30
    clear A30
    obtain rfl := Option.some.inj H
    go_enter Tryd.func80, Tryd.ntmps80
    go_wp2_with (first | (go_at_call 99; (with_reducible refine (impl_IsName.calls k a0 t192 _ A3.out).mono ?_); rintro e w' ⟨rfl, ⟨nd, rfl⟩⟩))
    go_ret
    exact ⟨by first | rfl | (simp; done) | (simp [*]; done), by repeat (first | exact Drawn0.refl _ | apply Drawn0.step)⟩
  · rw [if_neg c2] at H
    have c2b0 : decide ((a0.size : Int) ≤ 4) = false := decide_eq_false c2
    have c2b1 : decide (a0.size ≤ 4) = false := decide_eq_false (by omega)
    clear c2
    obtain rfl := Option.some.inj H
    go_enter Tryd.func80, Tryd.ntmps80
    go_wp2
    go_ret
    exact ⟨by first | rfl | (simp; done) | (simp [*]; done), by repeat (first | exact Drawn0.refl _ | apply Drawn0.step)⟩
def impl_areFinite.l0 : Nat → List Nat → Int → Int → Option (Bool)
  | 0, _, _, _ => none
  | k + 1, x5, x6, x7 => if x7 < x6 then (if 0 ≤ x7 then (if x7 < (x5.length : Int) then ((impl_IsFinite.f (rdOf (0 : Nat) x5 x7)).bind fun t194 => (if t194 = true then (impl_areFinite.l0 k x5 x6 (wrap64 (x7 + 1))) else (some false))) else (none)) else (none)) else (some true)
def impl_areFinite.f (k : Nat) (l0 : List Nat) : Option (Bool) := impl_areFinite.l0 k l0 (l0.length : Int) 0
theorem impl_areFinite.mono_l : ∀ k, (∀ y0 y1 y2, LeO (impl_areFinite.l0 k y0 y1 y2) (impl_areFinite.l0 (k + 1) y0 y1 y2))
  | 0 => fun _ _ _ r h => by simp [impl_areFinite.l0] at h
  | k + 1 => by
    have ih0 := impl_areFinite.mono_l k
    · intro y0 y1 y2
      unfold impl_areFinite.l0
      repeat' first
      | (with_reducible exact ih0 _ _ _)
      | (with_reducible exact LeO.refl _)
      | (with_reducible exact LeO.none _)
      | (with_reducible refine LeO.ite ?_ ?_)
      | (with_reducible refine LeO.bind ?_ (fun _ => ?_))
      | exact ih0 _ _ _
      | exact LeO.none _
      | refine LeO.ite ?_ ?_
      | refine LeO.bind ?_ (fun _ => ?_)
theorem impl_areFinite.mono : ∀ a0 k, LeO (impl_areFinite.f k a0) (impl_areFinite.f (k + 1) a0) := by
  intro a0 k
  have ih0 := impl_areFinite.mono_l k
  unfold impl_areFinite.f
  repeat' first
      | (with_reducible exact ih0 _ _ _)
      | (with_reducible exact LeO.refl _)
      | (with_reducible exact LeO.none _)
      | (with_reducible refine LeO.ite ?_ ?_)
      | (with_reducible refine LeO.bind ?_ (fun _ => ?_))
      | exact ih0 _ _ _
      | exact LeO.none _
      | refine LeO.ite ?_ ?_
      | refine LeO.bind ?_ (fun _ => ?_)
set_option maxHeartbeats 8000000 in
set_option maxRecDepth 100000 in
theorem impl_areFinite.calls (k : Nat) (A0 : Option Addr) (c0 : Nat) (l0 : List Nat) (r : Bool) (w : World) (hr0 : Kd.C (Kd.float .f32) w A0 l0.length l0) (hc0 : l0.length ≤ c0) (h : impl_areFinite.f k l0 = some r) :
    Calls Tryd.prog 92 #[.slice A0 l0.length c0] w fun e w' => e = .returned (.bool r) ∧ Drawn0 w w' := by
  have hu30 := Tryd.underlying30
  have HR0 := Aside0.mk hr0
  have HC0 := Aside0.mk hc0
  clear hr0 hc0
  have H : (impl_areFinite.l0 k l0 (l0.length : Int) 0) = some r := h
  clear h
  have H' := Aside0.mk H
  clear H
  go_enter Tryd.func92, Tryd.ntmps92
  go_wp2
  go_loopg [7] k (fun kq v7 w' => ∃ (x7_1 : Int), v7 = .int .i64 x7_1 ∧ Aside0 (impl_areFinite.l0 kq l0 (l0.length : Int) x7_1 = some r) ∧ Aside0 (kq ≤ k) ∧ Drawn0 w w')
  case atStart => exact ⟨(0), (by first | rfl | (simp; done) | (simp [*]; done)), H', ⟨Nat.le_refl _⟩, by repeat (first | exact Drawn0.refl _ | apply Drawn0.step)⟩
  case round =>
    clear H'
    obtain ⟨x7_1, rfl, HA, HK1, ⟨m1, rfl⟩⟩ := hrel
    cases gk with
    | zero => exact absurd HA.out (by simp [impl_areFinite.l0])
    | succ k1 =>
      have H := HA.out
      clear HA
      simp only [impl_areFinite.l0] at H
      by_cases c2 : x7_1 < (l0.length : Int)
      · rw [if_pos c2] at H
        have c2b0 : decide (x7_1 < (l0.length : Int)) = true := decide_eq_true c2
        clear c2
        by_cases c3 : 0 ≤ x7_1
        · rw [if_pos c3] at H
          have c3b0 : decide (0 ≤ x7_1) = true := decide_eq_true c3
          clear c3
          by_cases c4 : x7_1 < (l0.length : Int)
          · rw [if_pos c4] at H
            have c4b0 : decide (x7_1 < (l0.length : Int)) = true := decide_eq_true c4
            clear c4
            replace H := Option.bind_eq_some_iff.mp H
            obtain ⟨t194, A50, H⟩ := H
            replace H : (if t194 = true then (impl_areFinite.l0 k1 l0 (l0.length : Int) (wrap64 (x7_1 + 1))) else (some false)) = some r := H
            have A5 := Aside0.mk A50
            clear A50
            by_cases c6 : t194 = true
            · subst c6
              have H1 : (impl_areFinite.l0 k1 l0 (l0.length : Int) (wrap64 (x7_1 + 1))) = some r := by rw [if_pos rfl] at H; exact H
              clear H
              have H := H1
              clear H1
              have H' := Aside0.mk H
              clear H
              have p193 : 0 ≤ (x7_1 : Int) := of_decide_eq_true (by first | (with_reducible assumption) | assumption)
              have q193 : x7_1 < (l0.length : Int) := of_decide_eq_true (by first | (with_reducible assumption) | assumption)
              obtain ⟨ad193, e193, hx193_0⟩ := Kd.at_float HR0.out x7_1 p193 q193
              cases e193
              replace p193 := eq_true p193
              replace q193 := eq_true q193
              go_wp2_with (first | ((with_reducible refine gate_callee (f := 64) rfl ?_); refine goesL_ (some 12) rfl rfl Tryd.func64 (by kernel_rfl) rfl #[.float .f32 (rdOf (0 : Nat) l0 x7_1)] rfl (by (try simp only [List.map_toArray, List.map_cons, List.map_nil]); first | done | rfl | (simp only [List.length_drop, List.length_take]; rfl)) ?_; (with_reducible refine (impl_IsFinite.calls (rdOf (0 : Nat) l0 x7_1) true _ A5.out).mono ?_); rintro e w' ⟨rfl, ⟨nd, rfl⟩⟩; refine ⟨_, rfl, ?_⟩))
              go_roundg k1
              case measure => have := HK1.out; omega
              case rel => exact ⟨(wrap64 (x7_1 + 1)), (by first | rfl | (simp; done) | (simp [*]; done)), H', ⟨by have := HK1.out; omega⟩, by repeat (first | exact Drawn0.refl _ | apply Drawn0.step)⟩
            · replace c6 := Bool.eq_false_iff.mpr c6
              subst c6
              have H1 : (some false) = some r := by rw [if_neg (show ¬ (false = true) by decide)] at H; exact H
              clear H
              have H := H1
              clear H1
              obtain rfl := Option.some.inj H
              have p193 : 0 ≤ (x7_1 : Int) := of_decide_eq_true (by first | (with_reducible assumption) | assumption)
              have q193 : x7_1 < (l0.length : Int) := of_decide_eq_true (by first | (with_reducible assumption) | assumption)
              obtain ⟨ad193, e193, hx193_0⟩ := Kd.at_float HR0.out x7_1 p193 q193
              cases e193
              replace p193 := eq_true p193
              replace q193 := eq_true q193
              go_wp2_with (first | ((with_reducible refine gate_callee (f := 64) rfl ?_); refine goesL_ (some 12) rfl rfl Tryd.func64 (by kernel_rfl) rfl #[.float .f32 (rdOf (0 : Nat) l0 x7_1)] rfl (by (try simp only [List.map_toArray, List.map_cons, List.map_nil]); first | done | rfl | (simp only [List.length_drop, List.length_take]; rfl)) ?_; (with_reducible refine (impl_IsFinite.calls (rdOf (0 : Nat) l0 x7_1) false _ A5.out).mono ?_); rintro e w' ⟨rfl, ⟨nd, rfl⟩⟩; refine ⟨_, rfl, ?_⟩))
              go_ret
              exact ⟨by first | rfl | (simp; done) | (simp [*]; done), by repeat (first | exact Drawn0.refl _ | apply Drawn0.step)⟩
          · rw [if_neg c4] at H
            exact absurd H (by simp)
        · rw [if_neg c3] at H
          exact absurd H (by simp)
      · rw [if_neg c2] at H
        have c2b0 : decide (x7_1 < (l0.length : Int)) = false := decide_eq_false c2
        clear c2
        obtain rfl := Option.some.inj H
        go_wp2
        go_ret
        exact ⟨by first | rfl | (simp; done) | (simp [*]; done), by repeat (first | exact Drawn0.refl _ | apply Drawn0.step)⟩
def impl_areAreas_1.f (a0 : Nat) : Option (Bool) := some (fle .f32 a0 0)
set_option maxHeartbeats 8000000 in
set_option maxRecDepth 100000 in
theorem impl_areAreas_1.calls (a0 : Nat) (r : Bool) (w : World) (h : impl_areAreas_1.f a0 = some r) :
    Calls Tryd.prog 101 #[.float .f32 a0] w fun e w' => e = .returned (.bool r) ∧ Drawn0 w w' := by
  have H : (some (fle .f32 a0 0)) = some r := h
  clear h
  obtain rfl := Option.some.inj H
  go_enter Tryd.func101, Tryd.ntmps101
  go_wp2
  go_ret
  exact ⟨by first | rfl | (simp; done) | (simp [*]; done), by repeat (first | exact Drawn0.refl _ | apply Drawn0.step)⟩
def slices_IndexFunc_v_impl_areAreas_1.l0 : Nat → List Nat → Int → Int → Option (Int)
  | 0, _, _, _ => none
  | k + 1, x0, x7, x8 => if x8 < x7 then (if 0 ≤ x8 then (if x8 < (x0.length : Int) then ((impl_areAreas_1.f (rdOf (0 : Nat) x0 x8)).bind fun t196 => (if t196 = true then (some x8) else (slices_IndexFunc_v_impl_areAreas_1.l0 k x0 x7 (wrap64 (x8 + 1))))) else (none)) else (none)) else (some (-1))
def slices_IndexFunc_v_impl_areAreas_1.f (k : Nat) (l0 : List Nat)  : Option (Int) := slices_IndexFunc_v_impl_areAreas_1.l0 k l0 (l0.length : Int) 0
theorem slices_IndexFunc_v_impl_areAreas_1.mono_l : ∀ k, (∀ y0 y1 y2, LeO (slices_IndexFunc_v_impl_areAreas_1.l0 k y0 y1 y2) (slices_IndexFunc_v_impl_areAreas_1.l0 (k + 1) y0 y1 y2))
  | 0 => fun _ _ _ r h => by simp [slices_IndexFunc_v_impl_areAreas_1.l0] at h
  | k + 1 => by
    have ih0 := slices_IndexFunc_v_impl_areAreas_1.mono_l k
    · intro y0 y1 y2
      unfold slices_IndexFunc_v_impl_areAreas_1.l0
      repeat' first
      | (with_reducible exact ih0 _ _ _)
      | (with_reducible exact LeO.refl _)
      | (with_reducible exact LeO.none _)
      | (with_reducible refine LeO.ite ?_ ?_)
      | (with_reducible refine LeO.bind ?_ (fun _ => ?_))
      | exact ih0 _ _ _
      | exact LeO.none _
      | refine LeO.ite ?_ ?_
      | refine LeO.bind ?_ (fun _ => ?_)
theorem slices_IndexFunc_v_impl_areAreas_1.mono : ∀ a0 k, LeO (slices_IndexFunc_v_impl_areAreas_1.f k a0) (slices_IndexFunc_v_impl_areAreas_1.f (k + 1) a0) := by
  intro a0 k
  have ih0 := slices_IndexFunc_v_impl_areAreas_1.mono_l k
  unfold slices_IndexFunc_v_impl_areAreas_1.f
  repeat' first
      | (with_reducible exact ih0 _ _ _)
      | (with_reducible exact LeO.refl _)
      | (with_reducible exact LeO.none _)
      | (with_reducible refine LeO.ite ?_ ?_)
      | (with_reducible refine LeO.bind ?_ (fun _ => ?_))
      | exact ih0 _ _ _
      | exact LeO.none _
      | refine LeO.ite ?_ ?_
      | refine LeO.bind ?_ (fun _ => ?_)
set_option maxHeartbeats 8000000 in
set_option maxRecDepth 100000 in
theorem slices_IndexFunc_v_impl_areAreas_1.calls (k : Nat) (A0 : Option Addr) (c0 : Nat) (l0 : List Nat)  (r : Int) (w : World) (hr0 : Kd.C (Kd.float .f32) w A0 l0.length l0) (hc0 : l0.length ≤ c0) (h : slices_IndexFunc_v_impl_areAreas_1.f k l0 = some r) :
    Calls Tryd.prog 118 #[.slice A0 l0.length c0, .func (.func 101) #[] #[]] w fun e w' => e = .returned (.int .i64 r) ∧ Drawn0 w w' := by
  have eg101 := enters_of Tryd.func101 (by kernel_rfl) rfl
  have hu30 := Tryd.underlying30
  have HR0 := Aside0.mk hr0
  have HC0 := Aside0.mk hc0
  clear hr0 hc0
  have H : (slices_IndexFunc_v_impl_areAreas_1.l0 k l0 (l0.length : Int) 0) = some r := h
  clear h
  have H' := Aside0.mk H
  clear H
  go_enter Tryd.func118, Tryd.ntmps118
  go_wp2
  go_loopg [8] k (fun kq v8 w' => ∃ (x8_1 : Int), v8 = .int .i64 x8_1 ∧ Aside0 (slices_IndexFunc_v_impl_areAreas_1.l0 kq l0 (l0.length : Int) x8_1 = some r) ∧ Aside0 (kq ≤ k) ∧ Drawn0 w w')
  case atStart => exact ⟨(0), (by first | rfl | (simp; done) | (simp [*]; done)), H', ⟨Nat.le_refl _⟩, by repeat (first | exact Drawn0.refl _ | apply Drawn0.step)⟩
  case round =>
    clear H'
    try clear p2
    obtain ⟨x8_1, rfl, HA, HK1, ⟨m1, rfl⟩⟩ := hrel
    cases gk with
    | zero => exact absurd HA.out (by simp [slices_IndexFunc_v_impl_areAreas_1.l0])
    | succ k1 =>
      have H := HA.out
      clear HA
      simp only [slices_IndexFunc_v_impl_areAreas_1.l0] at H
      by_cases c3 : x8_1 < (l0.length : Int)
      · rw [if_pos c3] at H
        have c3b0 : decide (x8_1 < (l0.length : Int)) = true := decide_eq_true c3
        clear c3
        by_cases c4 : 0 ≤ x8_1
        · rw [if_pos c4] at H
          have c4b0 : decide (0 ≤ x8_1) = true := decide_eq_true c4
          clear c4
          by_cases c5 : x8_1 < (l0.length : Int)
          · rw [if_pos c5] at H
            have c5b0 : decide (x8_1 < (l0.length : Int)) = true := decide_eq_true c5
            clear c5
            replace H := Option.bind_eq_some_iff.mp H
            obtain ⟨t196, A60, H⟩ := H
            replace H : (if t196 = true then (some x8_1) else (slices_IndexFunc_v_impl_areAreas_1.l0 k1 l0 (l0.length : Int) (wrap64 (x8_1 + 1)))) = some r := H
            have A6 := Aside0.mk A60
            clear A60
            by_cases c7 : t196 = true
            · subst c7
              have H1 : (some x8_1) = some r := by rw [if_pos rfl] at H; exact H
              clear H
              have H := H1
              clear H1
              obtain rfl := Option.some.inj H
              have p195 : 0 ≤ (x8_1 : Int) := of_decide_eq_true (by first | (with_reducible assumption) | assumption)
              have q195 : x8_1 < (l0.length : Int) := of_decide_eq_true (by first | (with_reducible assumption) | assumption)
              obtain ⟨ad195, e195, hx195_0⟩ := Kd.at_float HR0.out x8_1 p195 q195
              cases e195
              replace p195 := eq_true p195
              replace q195 := eq_true q195
              go_wp2_with (first | (go_at_call 101; (with_reducible refine (impl_areAreas_1.calls (rdOf (0 : Nat) l0 x8_1) true _ A6.out).mono ?_); rintro e w' ⟨rfl, ⟨nd, rfl⟩⟩))
              go_ret
              exact ⟨by first | rfl | (simp; done) | (simp [*]; done), by repeat (first | exact Drawn0.refl _ | apply Drawn0.step)⟩
            · replace c7 := Bool.eq_false_iff.mpr c7
              subst c7
              have H1 : (slices_IndexFunc_v_impl_areAreas_1.l0 k1 l0 (l0.length : Int) (wrap64 (x8_1 + 1))) = some r := by rw [if_neg (show ¬ (false = true) by decide)] at H; exact H
              clear H
              have H := H1
              clear H1
              have H' := Aside0.mk H
              clear H
              have p195 : 0 ≤ (x8_1 : Int) := of_decide_eq_true (by first | (with_reducible assumption) | assumption)
              have q195 : x8_1 < (l0.length : Int) := of_decide_eq_true (by first | (with_reducible assumption) | assumption)
              obtain ⟨ad195, e195, hx195_0⟩ := Kd.at_float HR0.out x8_1 p195 q195
              cases e195
              replace p195 := eq_true p195
              replace q195 := eq_true q195
              go_wp2_with (first | (go_at_call 101; (with_reducible refine (impl_areAreas_1.calls (rdOf (0 : Nat) l0 x8_1) false _ A6.out).mono ?_); rintro e w' ⟨rfl, ⟨nd, rfl⟩⟩))
              go_roundg k1
              case measure => have := HK1.out; omega
              case rel => exact ⟨(wrap64 (x8_1 + 1)), (by first | rfl | (simp; done) | (simp [*]; done)), H', ⟨by have := HK1.out; omega⟩, by repeat (first | exact Drawn0.refl _ | apply Drawn0.step)⟩
          · rw [if_neg c5] at H
            exact absurd H (by simp)
        · rw [if_neg c4] at H
          exact absurd H (by simp)
      · rw [if_neg c3] at H
        have c3b0 : decide (x8_1 < (l0.length : Int)) = false := decide_eq_false c3
        clear c3
        obtain rfl := Option.some.inj H
        go_wp2
        go_ret
        exact ⟨by first | rfl | (simp; done) | (simp [*]; done), by repeat (first | exact Drawn0.refl _ | apply Drawn0.step)⟩
def slices_ContainsFunc_v_impl_areAreas_1.f (k : Nat) (l0 : List Nat)  : Option (Bool) := (slices_IndexFunc_v_impl_areAreas_1.f k l0).bind fun t197 => (some (decide (t197 ≥ 0)))
theorem slices_ContainsFunc_v_impl_areAreas_1.mono : ∀ a0 k, LeO (slices_ContainsFunc_v_impl_areAreas_1.f k a0) (slices_ContainsFunc_v_impl_areAreas_1.f (k + 1) a0) := by
  intro a0 k
  unfold slices_ContainsFunc_v_impl_areAreas_1.f
  repeat' first
      | (with_reducible exact slices_IndexFunc_v_impl_areAreas_1.mono _ _)
      | (with_reducible exact LeO.refl _)
      | (with_reducible exact LeO.none _)
      | (with_reducible refine LeO.ite ?_ ?_)
      | (with_reducible refine LeO.bind ?_ (fun _ => ?_))
      | exact slices_IndexFunc_v_impl_areAreas_1.mono _ _
      | exact LeO.none _
      | refine LeO.ite ?_ ?_
      | refine LeO.bind ?_ (fun _ => ?_)
set_option maxHeartbeats 8000000 in
set_option maxRecDepth 100000 in
theorem slices_ContainsFunc_v_impl_areAreas_1.calls (k : Nat) (A0 : Option Addr) (c0 : Nat) (l0 : List Nat)  (r : Bool) (w : World) (hr0 : Kd.C (Kd.float .f32) w A0 l0.length l0) (hc0 : l0.length ≤ c0) (h : slices_ContainsFunc_v_impl_areAreas_1.f k l0 = some r) :
    Calls Tryd.prog 100 #[.slice A0 l0.length c0, .func (.func 101) #[] #[]] w fun e w' => e = .returned (.bool r) ∧ Drawn0 w w' := by
  have eg101 := enters_of Tryd.func101 (by kernel_rfl) rfl
  have HR0 := Aside0.mk hr0
  have HC0 := Aside0.mk hc0
  clear hr0 hc0
  have H : ((slices_IndexFunc_v_impl_areAreas_1.f k l0).bind fun t197 => (some (decide (t197 ≥ 0)))) = some r := h
  clear h
  replace H := Option.bind_eq_some_iff.mp H
  obtain ⟨t197, A30, H⟩ := H
  replace H : (some (decide (t197 ≥ 0))) = some r := H
  have A3 := Aside0.mk A30
  clear A30
  obtain rfl := Option.some.inj H
  go_enter Tryd.func100, Tryd.ntmps100
  go_wp2_with (first | ((with_reducible refine gate_callee (f := 118) rfl ?_); refine goesL_ (some 7) rfl rfl Tryd.func118 (by kernel_rfl) rfl #[.slice A0 l0.length c0, .func (.func 101) #[] #[]] rfl (by (try simp only [List.map_toArray, List.map_cons, List.map_nil]); first | done | rfl | (simp only [List.length_drop, List.length_take]; rfl)) ?_; (with_reducible refine (slices_IndexFunc_v_impl_areAreas_1.calls k _ _ l0  t197 _ ?side1 ?side2 A3.out).mono ?_); (case side1 => repeat (first | exact HR0.out | (with_reducible refine Kd.C_alloc ?_ _) | (with_reducible refine Kd.C_drewN ?_ _) | (with_reducible refine Kd.C_drew ?_))); (case side2 => exact HC0.out); rintro e w' ⟨rfl, ⟨nd, rfl⟩⟩; refine ⟨_, rfl, ?_⟩))
  go_ret
  exact ⟨by first | rfl | (simp; done) | (simp [*]; done), by repeat (first | exact Drawn0.refl _ | apply Drawn0.step)⟩
def impl_areAreas.f (k : Nat) (l0 : List Nat) : Option (Bool) := (impl_within.f (l0.length : Int) 1 16).bind fun t198 => (if t198 = true then ((impl_areFinite.f k l0).bind fun t199 => (if t199 = true then ((slices_ContainsFunc_v_impl_areAreas_1.f k l0).bind fun t200 => (some (!t200))) else (some false))) else (some false))
theorem impl_areAreas.mono : ∀ a0 k, LeO (impl_areAreas.f k a0) (impl_areAreas.f (k + 1) a0) := by
  intro a0 k
  unfold impl_areAreas.f
  repeat' first
      | (with_reducible exact impl_areFinite.mono _ _)
      | (with_reducible exact slices_ContainsFunc_v_impl_areAreas_1.mono _ _)
      | (with_reducible exact LeO.refl _)
      | (with_reducible exact LeO.none _)
      | (with_reducible refine LeO.ite ?_ ?_)
      | (with_reducible refine LeO.bind ?_ (fun _ => ?_))
      | exact impl_areFinite.mono _ _
      | exact slices_ContainsFunc_v_impl_areAreas_1.mono _ _
      | exact LeO.none _
      | refine LeO.ite ?_ ?_
      | refine LeO.bind ?_ (fun _ => ?_)
set_option maxHeartbeats 8000000 in
set_option maxRecDepth 100000 in
theorem impl_areAreas.calls (k : Nat) (A0 : Option Addr) (c0 : Nat) (l0 : List Nat) (r : Bool) (w : World) (hr0 : Kd.C (Kd.float .f32) w A0 l0.length l0) (hc0 : l0.length ≤ c0) (h : impl_areAreas.f k l0 = some r) :
    Calls Tryd.prog 81 #[.slice A0 l0.length c0] w fun e w' => e = .returned (.bool r) ∧ Drawn0 w w' := by
  have eg101 := enters_of Tryd.func101 (by kernel_rfl) rfl
  have HR0 := Aside0.mk hr0
  have HC0 := Aside0.mk hc0
  clear hr0 hc0
  have H : ((impl_within.f (l0.length : Int) 1 16).bind fun t198 => (if t198 = true then ((impl_areFinite.f k l0).bind fun t199 => (if t199 = true then ((slices_ContainsFunc_v_impl_areAreas_1.f k l0).bind fun t200 => (some (!t200))) else (some false))) else (some false))) = some r := h
  clear h
  replace H := Option.bind_eq_some_iff.mp H
  obtain ⟨t198, A20, H⟩ := H
  replace H : (if t198 = true then ((impl_areFinite.f k l0).bind fun t199 => (if t199 = true then ((slices_ContainsFunc_v_impl_areAreas_1.f k l0).bind fun t200 => (some (!t200))) else (some false))) else (some false)) = some r := H
  have A2 := Aside0.mk A20
  clear A20
  by_cases c3 : t198 = true
  · subst c3
    have H1 : ((impl_areFinite.f k l0).bind fun t199 => (if t199 = true then ((slices_ContainsFunc_v_impl_areAreas_1.f k l0).bind fun t200 => (some (!t200))) else (some false))) = some r := by rw [if_pos rfl] at H; exact H
    clear H
    have H := H1
    clear H1
    replace H := Option.bind_eq_some_iff.mp H
    obtain ⟨t199, A40, H⟩ := H
    replace H : (if t199 = true then ((slices_ContainsFunc_v_impl_areAreas_1.f k l0).bind fun t200 => (some (!t200))) else (some false)) = some r := H
    have A4 := Aside0.mk A40
    clear A40
    by_cases c5 : t199 = true
    · subst c5
      have H1 : ((slices_ContainsFunc_v_impl_areAreas_1.f k l0).bind fun t200 => (some (!t200))) = some r := by rw [if_pos rfl] at H; exact H
      clear H
      have H := H1
      clear H1
      replace H := Option.bind_eq_some_iff.mp H
      obtain ⟨t200, A60, H⟩ := H
      replace H : (some (!t200)) = some r := H
      have A6 := Aside0.mk A60
      clear A60
      obtain rfl := Option.some.inj H
      go_enter Tryd.func81, Tryd.ntmps81
      go_wp2_with (first | ((with_reducible refine gate_callee (f := 91) rfl ?_); refine goesL_ (some 5) rfl rfl Tryd.func91 (by kernel_rfl) rfl #[.int .i64 (l0.length : Int), .int .i64 1, .int .i64 16] rfl (by (try simp only [List.map_toArray, List.map_cons, List.map_nil]); first | done | rfl | (simp only [List.length_drop, List.length_take]; rfl)) ?_; (with_reducible refine (impl_within.calls (l0.length : Int) 1 16 true _ A2.out).mono ?_); rintro e w' ⟨rfl, ⟨nd, rfl⟩⟩; refine ⟨_, rfl, ?_⟩) | (go_at_call 92; (with_reducible refine (impl_areFinite.calls k _ _ l0 true _ ?side1 ?side2 A4.out).mono ?_); (case side1 => repeat (first | exact HR0.out | (with_reducible refine Kd.C_alloc ?_ _) | (with_reducible refine Kd.C_drewN ?_ _) | (with_reducible refine Kd.C_drew ?_))); (case side2 => exact HC0.out); rintro e w' ⟨rfl, ⟨nd, rfl⟩⟩) | (go_at_call 100; (with_reducible refine (slices_ContainsFunc_v_impl_areAreas_1.calls k _ _ l0  t200 _ ?side1 ?side2 A6.out).mono ?_); (case side1 => repeat (first | exact HR0.out | (with_reducible refine Kd.C_alloc ?_ _) | (with_reducible refine Kd.C_drewN ?_ _) | (with_reducible refine Kd.C_drew ?_))); (case side2 => exact HC0.out); rintro e w' ⟨rfl, ⟨nd, rfl⟩⟩))
      go_ret
      exact ⟨by first | rfl | (simp; done) | (simp [*]; done), by repeat (first | exact Drawn0.refl _ | apply Drawn0.step)⟩
    · replace c5 := Bool.eq_false_iff.mpr c5
      subst c5
      have H1 : (some false) = some r := by rw [if_neg (show ¬ (false = true) by decide)] at H; exact H
      clear H
      have H := H1
      clear H1
      obtain rfl := Option.some.inj H
      go_enter Tryd.func81, Tryd.ntmps81
      go_wp2_with (first | ((with_reducible refine gate_callee (f := 91) rfl ?_); refine goesL_ (some 5) rfl rfl Tryd.func91 (by kernel_rfl) rfl #[.int .i64 (l0.length : Int), .int .i64 1, .int .i64 16] rfl (by (try simp only [List.map_toArray, List.map_cons, List.map_nil]); first | done | rfl | (simp only [List.length_drop, List.length_take]; rfl)) ?_; (with_reducible refine (impl_within.calls (l0.length : Int) 1 16 true _ A2.out).mono ?_); rintro e w' ⟨rfl, ⟨nd, rfl⟩⟩; refine ⟨_, rfl, ?_⟩) | (go_at_call 92; (with_reducible refine (impl_areFinite.calls k _ _ l0 false _ ?side1 ?side2 A4.out).mono ?_); (case side1 => repeat (first | exact HR0.out | (with_reducible refine Kd.C_alloc ?_ _) | (with_reducible refine Kd.C_drewN ?_ _) | (with_reducible refine Kd.C_drew ?_))); (case side2 => exact HC0.out); rintro e w' ⟨rfl, ⟨nd, rfl⟩⟩))
      go_ret
      exact ⟨by first | rfl | (simp; done) | (simp [*]; done), by repeat (first | exact Drawn0.refl _ | apply Drawn0.step)⟩
  · replace c3 := Bool.eq_false_iff.mpr c3
    subst c3
    have H1 : (some false) = some r := by rw [if_neg (show ¬ (false = true) by decide)] at H; exact H
    clear H
    have H := H1
    clear H1
    obtain rfl := Option.some.inj H
    go_enter Tryd.func81, Tryd.ntmps81
    go_wp2_with (first | ((with_reducible refine gate_callee (f := 91) rfl ?_); refine goesL_ (some 5) rfl rfl Tryd.func91 (by kernel_rfl) rfl #[.int .i64 (l0.length : Int), .int .i64 1, .int .i64 16] rfl (by (try simp only [List.map_toArray, List.map_cons, List.map_nil]); first | done | rfl | (simp only [List.length_drop, List.length_take]; rfl)) ?_; (with_reducible refine (impl_within.calls (l0.length : Int) 1 16 false _ A2.out).mono ?_); rintro e w' ⟨rfl, ⟨nd, rfl⟩⟩; refine ⟨_, rfl, ?_⟩))
    go_ret
    exact ⟨by first | rfl | (simp; done) | (simp [*]; done), by repeat (first | exact Drawn0.refl _ | apply Drawn0.step)⟩
def impl_ValidSound.f (k : Nat) (a0_0 : ByteArray) (l0_1 : List Nat) (a0_2 : Nat) (a0_3 : Nat) (a0_4 : Nat) (a0_5 : Nat) : Option (Bool) := (impl_isSoundName.f k a0_0).bind fun t202 => (if t202 = true then ((impl_areAreas.f k l0_1).bind fun t203 => (if t203 = true then ((impl_IsFinite.f a0_2).bind fun t204 => (if t204 = true then (if (fgr .f32 a0_2 0) = true then ((impl_IsFinite.f a0_3).bind fun t205 => (if t205 = true then (if (fge .f32 a0_3 0) = true then ((impl_isBetween.f a0_4 0 1065353216).bind fun t206 => (if t206 = true then ((impl_isBetween.f a0_5 0 1065353216).bind fun t207 => (some t207)) else (some false))) else (some false)) else (some false))) else (some false)) else (some false))) else (some false))) else (some false))
theorem impl_ValidSound.mono : ∀ a0 a1 a2 a3 a4 a5 k, LeO (impl_ValidSound.f k a0 a1 a2 a3 a4 a5) (impl_ValidSound.f (k + 1) a0 a1 a2 a3 a4 a5) := by
 intro a0 a1 a2 a3 a4 a5 k
 unfold impl_ValidSound.f
 repeat' first
   | (with_reducible exact impl_areAreas.mono _ _)
   | (with_reducible exact impl_isSoundName.mono _ _)
   | (with_reducible exact LeO.refl _)
   | (with_reducible exact LeO.none _)
   | (with_reducible refine LeO.ite ?_ ?_)
   | (with_reducible refine LeO.bind ?_ (fun _ => ?_))
   | exact impl_areAreas.mono _ _
   | exact impl_isSoundName.mono _ _
   | exact LeO.none _
   | refine LeO.ite ?_ ?_
   | refine LeO.bind ?_ (fun _ => ?_)
set_option maxHeartbeats 8000000 in
set_option maxRecDepth 100000 in
theorem impl_ValidSound.calls (k : Nat) (a0_0 : ByteArray) (A0_1 : Option Addr) (c0_1 : Nat) (l0_1 : List Nat) (a0_2 : Nat) (a0_3 : Nat) (a0_4 : Nat) (a0_5 : Nat) (r : Bool) (w : World) (hr0_1 : Kd.C (Kd.float .f32) w A0_1 l0_1.length l0_1) (hc0_1 : l0_1.length ≤ c0_1) (h : impl_ValidSound.f k a0_0 l0_1 a0_2 a0_3 a0_4 a0_5 = some r) :
  Calls Tryd.prog 57 #[.agg #[.string a0_0, .slice A0_1 l0_1.length c0_1, .float .f32 a0_2, .float .f32 a0_3, .float .f32 a0_4, .float .f32 a0_5]] w fun e w' => e = .returned (.bool r) ∧ Below w.heap.size w w' := by
 have hu58 := Tryd.underlying58
 have hu9 := Tryd.underlying9
 have hu37 := Tryd.underlying37
 have hu30 := Tryd.underlying30
 have HR0_1 := Aside0.mk hr0_1
 have HC0_1 := Aside0.mk hc0_1
 clear hr0_1 hc0_1
 have HB := Aside0.mk (Below.refl w.heap.size w)
 have H : ((impl_isSoundName.f k a0_0).bind fun t202 => (if t202 = true then ((impl_areAreas.f k l0_1).bind fun t203 => (if t203 = true then ((impl_IsFinite.f a0_2).bind fun t204 => (if t204 = true then (if (fgr .f32 a0_2 0) = true then ((impl_IsFinite.f a0_3).bind fun t205 => (if t205 = true then (if (fge .f32 a0_3 0) = true then ((impl_isBetween.f a0_4 0 1065353216).bind fun t206 => (if t206 = true then ((impl_isBetween.f a0_5 0 1065353216).bind fun t207 => (some t207)) else (some false))) else (some false)) else (some false))) else (some false)) else (some false))) else (some false))) else (some false))) = some r := h
 clear h
 replace H := Option.bind_eq_some_iff.mp H
 obtain ⟨t202, A20, H⟩ := H
 replace H : (if t202 = true then ((impl_areAreas.f k l0_1).bind fun t203 => (if t203 = true then ((impl_IsFinite.f a0_2).bind fun t204 => (if t204 = true then (if (fgr .f32 a0_2 0) = true then ((impl_IsFinite.f a0_3).bind fun t205 => (if t205 = true then (if (fge .f32 a0_3 0) = true then ((impl_isBetween.f a0_4 0 1065353216).bind fun t206 => (if t206 = true then ((impl_isBetween.f a0_5 0 1065353216).bind fun t207 => (some t207)) else (some false))) else (some false)) else (some false))) else (some false)) else (some false))) else (some false))) else (some false)) = some r := H
 have A2 := Aside0.mk A20
 clear A20
 by_cases c3 : t202 = true
 ·subst c3
  have H1 : ((impl_areAreas.f k l0_1).bind fun t203 => (if t203 = true then ((impl_IsFinite.f a0_2).bind fun t204 => (if t204 = true then (if (fgr .f32 a0_2 0) = true then ((impl_IsFinite.f a0_3).bind fun t205 => (if t205 = true then (if (fge .f32 a0_3 0) = true then ((impl_isBetween.f a0_4 0 1065353216).bind fun t206 => (if t206 = true then ((impl_isBetween.f a0_5 0 1065353216).bind fun t207 => (some t207)) else (some false))) else (some false)) else (some false))) else (some false)) else (some false))) else (some false))) = some r := by rw [if_pos rfl] at H; exact H
  clear H
  have H := H1
  clear H1
  replace H := Option.bind_eq_some_iff.mp H
  obtain ⟨t203, A40, H⟩ := H
  replace H : (if t203 = true then ((impl_IsFinite.f a0_2).bind fun t204 => (if t204 = true then (if (fgr .f32 a0_2 0) = true then ((impl_IsFinite.f a0_3).bind fun t205 => (if t205 = true then (if (fge .f32 a0_3 0) = true then ((impl_isBetween.f a0_4 0 1065353216).bind fun t206 => (if t206 = true then ((impl_isBetween.f a0_5 0 1065353216).bind fun t207 => (some t207)) else (some false))) else (some false)) else (some false))) else (some false)) else (some false))) else (some false)) = some r := H
  have A4 := Aside0.mk A40
  clear A40
  by_cases c5 : t203 = true
  ·subst c5
   have H1 : ((impl_IsFinite.f a0_2).bind fun t204 => (if t204 = true then (if (fgr .f32 a0_2 0) = true then ((impl_IsFinite.f a0_3).bind fun t205 => (if t205 = true then (if (fge .f32 a0_3 0) = true then ((impl_isBetween.f a0_4 0 1065353216).bind fun t206 => (if t206 = true then ((impl_isBetween.f a0_5 0 1065353216).bind fun t207 => (some t207)) else (some false))) else (some false)) else (some false))) else (some false)) else (some false))) = some r := by rw [if_pos rfl] at H; exact H
   clear H
   have H := H1
   clear H1
   replace H := Option.bind_eq_some_iff.mp H
   obtain ⟨t204, A60, H⟩ := H
   replace H : (if t204 = true then (if (fgr .f32 a0_2 0) = true then ((impl_IsFinite.f a0_3).bind fun t205 => (if t205 = true then (if (fge .f32 a0_3 0) = true then ((impl_isBetween.f a0_4 0 1065353216).bind fun t206 => (if t206 = true then ((impl_isBetween.f a0_5 0 1065353216).bind fun t207 => (some t207)) else (some false))) else (some false)) else (some false))) else (some false)) else (some false)) = some r := H
   have A6 := Aside0.mk A60
   clear A60
   by_cases c7 : t204 = true
   ·subst c7
    have H1 : (if (fgr .f32 a0_2 0) = true then ((impl_IsFinite.f a0_3).bind fun t205 => (if t205 = true then (if (fge .f32 a0_3 0) = true then ((impl_isBetween.f a0_4 0 1065353216).bind fun t206 => (if t206 = true then ((impl_isBetween.f a0_5 0 1065353216).bind fun t207 => (some t207)) else (some false))) else (some false)) else (some false))) else (some false)) = some r := by rw [if_pos rfl] at H; exact H
    clear H
    have H := H1
    clear H1
    by_cases c8 : (fgr .f32 a0_2 0) = true
    ·rw [if_pos c8] at H
     have c8b0 : (fgr .f32 a0_2 0) = true := c8
     clear c8
     replace H := Option.bind_eq_some_iff.mp H
     obtain ⟨t205, A90, H⟩ := H
     replace H : (if t205 = true then (if (fge .f32 a0_3 0) = true then ((impl_isBetween.f a0_4 0 1065353216).bind fun t206 => (if t206 = true then ((impl_isBetween.f a0_5 0 1065353216).bind fun t207 => (some t207)) else (some false))) else (some false)) else (some false)) = some r := H
     have A9 := Aside0.mk A90
     clear A90
     by_cases c10 : t205 = true
     ·subst c10
      have H1 : (if (fge .f32 a0_3 0) = true then ((impl_isBetween.f a0_4 0 1065353216).bind fun t206 => (if t206 = true then ((impl_isBetween.f a0_5 0 1065353216).bind fun t207 => (some t207)) else (some false))) else (some false)) = some r := by rw [if_pos rfl] at H; exact H
      clear H
      have H := H1
      clear H1
      by_cases c11 : (fge .f32 a0_3 0) = true
      ·rw [if_pos c11] at H
       have c11b0 : (fge .f32 a0_3 0) = true := c11
       clear c11
       replace H := Option.bind_eq_some_iff.mp H
       obtain ⟨t206, A120, H⟩ := H
       replace H : (if t206 = true then ((impl_isBetween.f a0_5 0 1065353216).bind fun t207 => (some t207)) else (some false)) = some r := H
       have A12 := Aside0.mk A120
       clear A120
       by_cases c13 : t206 = true
       ·subst c13
        have H1 : ((impl_isBetween.f a0_5 0 1065353216).bind fun t207 => (some t207)) = some r := by rw [if_pos rfl] at H; exact H
        clear H
        have H := H1
        clear H1
        replace H := Option.bind_eq_some_iff.mp H
        obtain ⟨t207, A140, H⟩ := H
        replace H : (some t207) = some r := H
        have A14 := Aside0.mk A140
        clear A140
        obtain rfl := Option.some.inj H
        go_enter Tryd.func57, Tryd.ntmps57
        go_wp2_with (first | ((with_reducible refine gate_dst (N := 1) rfl ?_); refine box_event ?hg (N := 1) ?hd (cs := #[.string a0_0, .slice A0_1 l0_1.length c0_1, .float .f32 a0_2, .float .f32 a0_3, .float .f32 a0_4, .float .f32 a0_5]) (t := 58) ?hr ?_; (case hd => rfl); (case hg => rfl); (case hr => first | (go_simp; done) | (go_simp; rfl) | (simp (disch := omega) only [w64_id]; go_simp; done) | (go_simp; simp (disch := omega) only [w64_id]; done)); intro gb201 hg w15 hbox hb; have n0_ := Aside0.mk (below_step (by repeat (first | (with_reducible first | exact HB.out | apply below_alloc | apply pw_below_drewN | apply below_drew1) | exact HB.out)) hb); have n1_ := Aside0.mk (hbox); have n2_ := Aside0.mk ((by rw [hg]; exact (below_size (by repeat (first | (with_reducible first | exact HB.out | apply below_alloc | apply pw_below_drewN | apply below_drew1) | exact HB.out))) : w.heap.size ≤ gb201)); have n3_ := Aside0.mk ((by rw [hg]; exact (below_size (by repeat (first | (with_reducible first | exact HB.out | apply below_alloc | apply pw_below_drewN | apply below_drew1) | exact HB.out))) : w.heap.size ≤ gb201)); clear HB; have HB := n0_; have BK201 := n1_; have GW201 := n2_; have GE201 := n3_; clear n0_ n1_ n2_ n3_; clear hb hbox hg; have hcz16_0 : w15.cell? ⟨gb201, 0, none⟩ = some (.string a0_0) := (blk_cell BK201.out 0).trans rfl; have hcz16_1 : w15.cell? ⟨gb201, 1, none⟩ = some (.slice A0_1 l0_1.length c0_1) := (blk_cell BK201.out 1).trans rfl; have hcz16_2 : w15.cell? ⟨gb201, 2, none⟩ = some (.float .f32 a0_2) := (blk_cell BK201.out 2).trans rfl; have hcz16_3 : w15.cell? ⟨gb201, 3, none⟩ = some (.float .f32 a0_3) := (blk_cell BK201.out 3).trans rfl; have hcz16_4 : w15.cell? ⟨gb201, 4, none⟩ = some (.float .f32 a0_4) := (blk_cell BK201.out 4).trans rfl; have hcz16_5 : w15.cell? ⟨gb201, 5, none⟩ = some (.float .f32 a0_5) := (blk_cell BK201.out 5).trans rfl; have hfz16_0 := blk_frozen BK201.out 0; have hfz16_1 := blk_frozen BK201.out 1; have hfz16_2 := blk_frozen BK201.out 2; have hfz16_3 := blk_frozen BK201.out 3; have hfz16_4 := blk_frozen BK201.out 4; have hfz16_5 := blk_frozen BK201.out 5) | ((with_reducible refine gate_callee (f := 80) rfl ?_); refine goesL_ (some 5) rfl rfl Tryd.func80 (by kernel_rfl) rfl #[.string a0_0] rfl (by (try simp only [List.map_toArray, List.map_cons, List.map_nil]); first | done | rfl | (simp only [List.length_drop, List.length_take]; rfl)) ?_; (with_reducible refine (impl_isSoundName.calls k a0_0 true _ A2.out).mono ?_); rintro e w' ⟨rfl, ⟨nd, rfl⟩⟩; refine ⟨_, rfl, ?_⟩) | (go_at_call 81; (with_reducible refine (impl_areAreas.calls k _ _ l0_1 true _ ?side1 ?side2 A4.out).mono ?_); (case side1 => repeat (first | exact (Kd.C_below HR0_1.out (by repeat (first | (with_reducible first | exact HB.out | apply below_alloc | apply pw_below_drewN | apply below_drew1 | refine below_set ?_ GE201.out) | exact HB.out))) | (with_reducible refine Kd.C_alloc ?_ _) | (with_reducible refine Kd.C_drewN ?_ _) | (with_reducible refine Kd.C_drew ?_))); (case side2 => exact HC0_1.out); rintro e w' ⟨rfl, ⟨nd, rfl⟩⟩) | (go_at_call 64; (with_reducible refine (impl_IsFinite.calls a0_2 true _ A6.out).mono ?_); rintro e w' ⟨rfl, ⟨nd, rfl⟩⟩) | (go_at_call 64; (with_reducible refine (impl_IsFinite.calls a0_3 true _ A9.out).mono ?_); rintro e w' ⟨rfl, ⟨nd, rfl⟩⟩) | (go_at_call 63; (with_reducible refine (impl_isBetween.calls a0_4 0 1065353216 true _ A12.out).mono ?_); rintro e w' ⟨rfl, ⟨nd, rfl⟩⟩) | (go_at_call 63; (with_reducible refine (impl_isBetween.calls a0_5 0 1065353216 t207 _ A14.out).mono ?_); rintro e w' ⟨rfl, ⟨nd, rfl⟩⟩))
        go_ret
        exact ⟨by first | rfl | (simp [errW_none, errW_some] <;> rfl) | (simp [*, errW_none, errW_some] <;> rfl), by repeat (first | (with_reducible first | exact HB.out | apply below_alloc | apply pw_below_drewN | apply below_drew1 | refine below_set ?_ GE201.out) | exact HB.out)⟩
       ·replace c13 := Bool.eq_false_iff.mpr c13
        subst c13
        have H1 : (some false) = some r := by rw [if_neg (show ¬ (false = true) by decide)] at H; exact H
        clear H
        have H := H1
        clear H1
        obtain rfl := Option.some.inj H
        go_enter Tryd.func57, Tryd.ntmps57
        go_wp2_with (first | ((with_reducible refine gate_dst (N := 1) rfl ?_); refine box_event ?hg (N := 1) ?hd (cs := #[.string a0_0, .slice A0_1 l0_1.length c0_1, .float .f32 a0_2, .float .f32 a0_3, .float .f32 a0_4, .float .f32 a0_5]) (t := 58) ?hr ?_; (case hd => rfl); (case hg => rfl); (case hr => first | (go_simp; done) | (go_simp; rfl) | (simp (disch := omega) only [w64_id]; go_simp; done) | (go_simp; simp (disch := omega) only [w64_id]; done)); intro gb201 hg w17 hbox hb; have n0_ := Aside0.mk (below_step (by repeat (first | (with_reducible first | exact HB.out | apply below_alloc | apply pw_below_drewN | apply below_drew1) | exact HB.out)) hb); have n1_ := Aside0.mk (hbox); have n2_ := Aside0.mk ((by rw [hg]; exact (below_size (by repeat (first | (with_reducible first | exact HB.out | apply below_alloc | apply pw_below_drewN | apply below_drew1) | exact HB.out))) : w.heap.size ≤ gb201)); have n3_ := Aside0.mk ((by rw [hg]; exact (below_size (by repeat (first | (with_reducible first | exact HB.out | apply below_alloc | apply pw_below_drewN | apply below_drew1) | exact HB.out))) : w.heap.size ≤ gb201)); clear HB; have HB := n0_; have BK201 := n1_; have GW201 := n2_; have GE201 := n3_; clear n0_ n1_ n2_ n3_; clear hb hbox hg; have hcz18_0 : w17.cell? ⟨gb201, 0, none⟩ = some (.string a0_0) := (blk_cell BK201.out 0).trans rfl; have hcz18_1 : w17.cell? ⟨gb201, 1, none⟩ = some (.slice A0_1 l0_1.length c0_1) := (blk_cell BK201.out 1).trans rfl; have hcz18_2 : w17.cell? ⟨gb201, 2, none⟩ = some (.float .f32 a0_2) := (blk_cell BK201.out 2).trans rfl; have hcz18_3 : w17.cell? ⟨gb201, 3, none⟩ = some (.float .f32 a0_3) := (blk_cell BK201.out 3).trans rfl; have hcz18_4 : w17.cell? ⟨gb201, 4, none⟩ = some (.float .f32 a0_4) := (blk_cell BK201.out 4).trans rfl; have hcz18_5 : w17.cell? ⟨gb201, 5, none⟩ = some (.float .f32 a0_5) := (blk_cell BK201.out 5).trans rfl; have hfz18_0 := blk_frozen BK201.out 0; have hfz18_1 := blk_frozen BK201.out 1; have hfz18_2 := blk_frozen BK201.out 2; have hfz18_3 := blk_frozen BK201.out 3; have hfz18_4 := blk_frozen BK201.out 4; have hfz18_5 := blk_frozen BK201.out 5) | ((with_reducible refine gate_callee (f := 80) rfl ?_); refine goesL_ (some 5) rfl rfl Tryd.func80 (by kernel_rfl) rfl #[.string a0_0] rfl (by (try simp only [List.map_toArray, List.map_cons, List.map_nil]); first | done | rfl | (simp only [List.length_drop, List.length_take]; rfl)) ?_; (with_reducible refine (impl_isSoundName.calls k a0_0 true _ A2.out).mono ?_); rintro e w' ⟨rfl, ⟨nd, rfl⟩⟩; refine ⟨_, rfl, ?_⟩) | (go_at_call 81; (with_reducible refine (impl_areAreas.calls k _ _ l0_1 true _ ?side1 ?side2 A4.out).mono ?_); (case side1 => repeat (first | exact (Kd.C_below HR0_1.out (by repeat (first | (with_reducible first | exact HB.out | apply below_alloc | apply pw_below_drewN | apply below_drew1 | refine below_set ?_ GE201.out) | exact HB.out))) | (with_reducible refine Kd.C_alloc ?_ _) | (with_reducible refine Kd.C_drewN ?_ _) | (with_reducible refine Kd.C_drew ?_))); (case side2 => exact HC0_1.out); rintro e w' ⟨rfl, ⟨nd, rfl⟩⟩) | (go_at_call 64; (with_reducible refine (impl_IsFinite.calls a0_2 true _ A6.out).mono ?_); rintro e w' ⟨rfl, ⟨nd, rfl⟩⟩) | (go_at_call 64; (with_reducible refine (impl_IsFinite.calls a0_3 true _ A9.out).mono ?_); rintro e w' ⟨rfl, ⟨nd, rfl⟩⟩) | (go_at_call 63; (with_reducible refine (impl_isBetween.calls a0_4 0 1065353216 false _ A12.out).mono ?_); rintro e w' ⟨rfl, ⟨nd, rfl⟩⟩))
        go_ret
        exact ⟨by first | rfl | (simp [errW_none, errW_some] <;> rfl) | (simp [*, errW_none, errW_some] <;> rfl), by repeat (first | (with_reducible first | exact HB.out | apply below_alloc | apply pw_below_drewN | apply below_drew1 | refine below_set ?_ GE201.out) | exact HB.out)⟩
      ·rw [if_neg c11] at H
       have c11b0 : (fge .f32 a0_3 0) = false := by simpa using c11
       clear c11
       obtain rfl := Option.some.inj H
       go_enter Tryd.func57, Tryd.ntmps57
       go_wp2_with (first | ((with_reducible refine gate_dst (N := 1) rfl ?_); refine box_event ?hg (N := 1) ?hd (cs := #[.string a0_0, .slice A0_1 l0_1.length c0_1, .float .f32 a0_2, .float .f32 a0_3, .float .f32 a0_4, .float .f32 a0_5]) (t := 58) ?hr ?_; (case hd => rfl); (case hg => rfl); (case hr => first | (go_simp; done) | (go_simp; rfl) | (simp (disch := omega) only [w64_id]; go_simp; done) | (go_simp; simp (disch := omega) only [w64_id]; done)); intro gb201 hg w19 hbox hb; have n0_ := Aside0.mk (below_step (by repeat (first | (with_reducible first | exact HB.out | apply below_alloc | apply pw_below_drewN | apply below_drew1) | exact HB.out)) hb); have n1_ := Aside0.mk (hbox); have n2_ := Aside0.mk ((by rw [hg]; exact (below_size (by repeat (first | (with_reducible first | exact HB.out | apply below_alloc | apply pw_below_drewN | apply below_drew1) | exact HB.out))) : w.heap.size ≤ gb201)); have n3_ := Aside0.mk ((by rw [hg]; exact (below_size (by repeat (first | (with_reducible first | exact HB.out | apply below_alloc | apply pw_below_drewN | apply below_drew1) | exact HB.out))) : w.heap.size ≤ gb201)); clear HB; have HB := n0_; have BK201 := n1_; have GW201 := n2_; have GE201 := n3_; clear n0_ n1_ n2_ n3_; clear hb hbox hg; have hcz20_0 : w19.cell? ⟨gb201, 0, none⟩ = some (.string a0_0) := (blk_cell BK201.out 0).trans rfl; have hcz20_1 : w19.cell? ⟨gb201, 1, none⟩ = some (.slice A0_1 l0_1.length c0_1) := (blk_cell BK201.out 1).trans rfl; have hcz20_2 : w19.cell? ⟨gb201, 2, none⟩ = some (.float .f32 a0_2) := (blk_cell BK201.out 2).trans rfl; have hcz20_3 : w19.cell? ⟨gb201, 3, none⟩ = some (.float .f32 a0_3) := (blk_cell BK201.out 3).trans rfl; have hcz20_4 : w19.cell? ⟨gb201, 4, none⟩ = some (.float .f32 a0_4) := (blk_cell BK201.out 4).trans rfl; have hcz20_5 : w19.cell? ⟨gb201, 5, none⟩ = some (.float .f32 a0_5) := (blk_cell BK201.out 5).trans rfl; have hfz20_0 := blk_frozen BK201.out 0; have hfz20_1 := blk_frozen BK201.out 1; have hfz20_2 := blk_frozen BK201.out 2; have hfz20_3 := blk_frozen BK201.out 3; have hfz20_4 := blk_frozen BK201.out 4; have hfz20_5 := blk_frozen BK201.out 5) | ((with_reducible refine gate_callee (f := 80) rfl ?_); refine goesL_ (some 5) rfl rfl Tryd.func80 (by kernel_rfl) rfl #[.string a0_0] rfl (by (try simp only [List.map_toArray, List.map_cons, List.map_nil]); first | done | rfl | (simp only [List.length_drop, List.length_take]; rfl)) ?_; (with_reducible refine (impl_isSoundName.calls k a0_0 true _ A2.out).mono ?_); rintro e w' ⟨rfl, ⟨nd, rfl⟩⟩; refine ⟨_, rfl, ?_⟩) | (go_at_call 81; (with_reducible refine (impl_areAreas.calls k _ _ l0_1 true _ ?side1 ?side2 A4.out).mono ?_); (case side1 => repeat (first | exact (Kd.C_below HR0_1.out (by repeat (first | (with_reducible first | exact HB.out | apply below_alloc | apply pw_below_drewN | apply below_drew1 | refine below_set ?_ GE201.out) | exact HB.out))) | (with_reducible refine Kd.C_alloc ?_ _) | (with_reducible refine Kd.C_drewN ?_ _) | (with_reducible refine Kd.C_drew ?_))); (case side2 => exact HC0_1.out); rintro e w' ⟨rfl, ⟨nd, rfl⟩⟩) | (go_at_call 64; (with_reducible refine (impl_IsFinite.calls a0_2 true _ A6.out).mono ?_); rintro e w' ⟨rfl, ⟨nd, rfl⟩⟩) | (go_at_call 64; (with_reducible refine (impl_IsFinite.calls a0_3 true _ A9.out).mono ?_); rintro e w' ⟨rfl, ⟨nd, rfl⟩⟩))
       go_ret
       exact ⟨by first | rfl | (simp [errW_none, errW_some] <;> rfl) | (simp [*, errW_none, errW_some] <;> rfl), by repeat (first | (with_reducible first | exact HB.out | apply below_alloc | apply pw_below_drewN | apply below_drew1 | refine below_set ?_ GE201.out) | exact HB.out)⟩
     ·replace c10 := Bool.eq_false_iff.mpr c10
      subst c10
      have H1 : (some false) = some r := by rw [if_neg (show ¬ (false = true) by decide)] at H; exact H
      clear H
      have H := H1
      clear H1
      obtain rfl := Option.some.inj H
      go_enter Tryd.func57, Tryd.ntmps57
      go_wp2_with (first | ((with_reducible refine gate_dst (N := 1) rfl ?_); refine box_event ?hg (N := 1) ?hd (cs := #[.string a0_0, .slice A0_1 l0_1.length c0_1, .float .f32 a0_2, .float .f32 a0_3, .float .f32 a0_4, .float .f32 a0_5]) (t := 58) ?hr ?_; (case hd => rfl); (case hg => rfl); (case hr => first | (go_simp; done) | (go_simp; rfl) | (simp (disch := omega) only [w64_id]; go_simp; done) | (go_simp; simp (disch := omega) only [w64_id]; done)); intro gb201 hg w21 hbox hb; have n0_ := Aside0.mk (below_step (by repeat (first | (with_reducible first | exact HB.out | apply below_alloc | apply pw_below_drewN | apply below_drew1) | exact HB.out)) hb); have n1_ := Aside0.mk (hbox); have n2_ := Aside0.mk ((by rw [hg]; exact (below_size (by repeat (first | (with_reducible first | exact HB.out | apply below_alloc | apply pw_below_drewN | apply below_drew1) | exact HB.out))) : w.heap.size ≤ gb201)); have n3_ := Aside0.mk ((by rw [hg]; exact (below_size (by repeat (first | (with_reducible first | exact HB.out | apply below_alloc | apply pw_below_drewN | apply below_drew1) | exact HB.out))) : w.heap.size ≤ gb201)); clear HB; have HB := n0_; have BK201 := n1_; have GW201 := n2_; have GE201 := n3_; clear n0_ n1_ n2_ n3_; clear hb hbox hg; have hcz22_0 : w21.cell? ⟨gb201, 0, none⟩ = some (.string a0_0) := (blk_cell BK201.out 0).trans rfl; have hcz22_1 : w21.cell? ⟨gb201, 1, none⟩ = some (.slice A0_1 l0_1.length c0_1) := (blk_cell BK201.out 1).trans rfl; have hcz22_2 : w21.cell? ⟨gb201, 2, none⟩ = some (.float .f32 a0_2) := (blk_cell BK201.out 2).trans rfl; have hcz22_3 : w21.cell? ⟨gb201, 3, none⟩ = some (.float .f32 a0_3) := (blk_cell BK201.out 3).trans rfl; have hcz22_4 : w21.cell? ⟨gb201, 4, none⟩ = some (.float .f32 a0_4) := (blk_cell BK201.out 4).trans rfl; have hcz22_5 : w21.cell? ⟨gb201, 5, none⟩ = some (.float .f32 a0_5) := (blk_cell BK201.out 5).trans rfl; have hfz22_0 := blk_frozen BK201.out 0; have hfz22_1 := blk_frozen BK201.out 1; have hfz22_2 := blk_frozen BK201.out 2; have hfz22_3 := blk_frozen BK201.out 3; have hfz22_4 := blk_frozen BK201.out 4; have hfz22_5 := blk_frozen BK201.out 5) | ((with_reducible refine gate_callee (f := 80) rfl ?_); refine goesL_ (some 5) rfl rfl Tryd.func80 (by kernel_rfl) rfl #[.string a0_0] rfl (by (try simp only [List.map_toArray, List.map_cons, List.map_nil]); first | done | rfl | (simp only [List.length_drop, List.length_take]; rfl)) ?_; (with_reducible refine (impl_isSoundName.calls k a0_0 true _ A2.out).mono ?_); rintro e w' ⟨rfl, ⟨nd, rfl⟩⟩; refine ⟨_, rfl, ?_⟩) | (go_at_call 81; (with_reducible refine (impl_areAreas.calls k _ _ l0_1 true _ ?side1 ?side2 A4.out).mono ?_); (case side1 => repeat (first | exact (Kd.C_below HR0_1.out (by repeat (first | (with_reducible first | exact HB.out | apply below_alloc | apply pw_below_drewN | apply below_drew1 | refine below_set ?_ GE201.out) | exact HB.out))) | (with_reducible refine Kd.C_alloc ?_ _) | (with_reducible refine Kd.C_drewN ?_ _) | (with_reducible refine Kd.C_drew ?_))); (case side2 => exact HC0_1.out); rintro e w' ⟨rfl, ⟨nd, rfl⟩⟩) | (go_at_call 64; (with_reducible refine (impl_IsFinite.calls a0_2 true _ A6.out).mono ?_); rintro e w' ⟨rfl, ⟨nd, rfl⟩⟩) | (go_at_call 64; (with_reducible refine (impl_IsFinite.calls a0_3 false _ A9.out).mono ?_); rintro e w' ⟨rfl, ⟨nd, rfl⟩⟩))
      go_ret
      exact ⟨by first | rfl | (simp [errW_none, errW_some] <;> rfl) | (simp [*, errW_none, errW_some] <;> rfl), by repeat (first | (with_reducible first | exact HB.out | apply below_alloc | apply pw_below_drewN | apply below_drew1 | refine below_set ?_ GE201.out) | exact HB.out)⟩
    ·rw [if_neg c8] at H
     have c8b0 : (fgr .f32 a0_2 0) = false := by simpa using c8
     clear c8
     obtain rfl := Option.some.inj H
     go_enter Tryd.func57, Tryd.ntmps57
     go_wp2_with (first | ((with_reducible refine gate_dst (N := 1) rfl ?_); refine box_event ?hg (N := 1) ?hd (cs := #[.string a0_0, .slice A0_1 l0_1.length c0_1, .float .f32 a0_2, .float .f32 a0_3, .float .f32 a0_4, .float .f32 a0_5]) (t := 58) ?hr ?_; (case hd => rfl); (case hg => rfl); (case hr => first | (go_simp; done) | (go_simp; rfl) | (simp (disch := omega) only [w64_id]; go_simp; done) | (go_simp; simp (disch := omega) only [w64_id]; done)); intro gb201 hg w23 hbox hb; have n0_ := Aside0.mk (below_step (by repeat (first | (with_reducible first | exact HB.out | apply below_alloc | apply pw_below_drewN | apply below_drew1) | exact HB.out)) hb); have n1_ := Aside0.mk (hbox); have n2_ := Aside0.mk ((by rw [hg]; exact (below_size (by repeat (first | (with_reducible first | exact HB.out | apply below_alloc | apply pw_below_drewN | apply below_drew1) | exact HB.out))) : w.heap.size ≤ gb201)); have n3_ := Aside0.mk ((by rw [hg]; exact (below_size (by repeat (first | (with_reducible first | exact HB.out | apply below_alloc | apply pw_below_drewN | apply below_drew1) | exact HB.out))) : w.heap.size ≤ gb201)); clear HB; have HB := n0_; have BK201 := n1_; have GW201 := n2_; have GE201 := n3_; clear n0_ n1_ n2_ n3_; clear hb hbox hg; have hcz24_0 : w23.cell? ⟨gb201, 0, none⟩ = some (.string a0_0) := (blk_cell BK201.out 0).trans rfl; have hcz24_1 : w23.cell? ⟨gb201, 1, none⟩ = some (.slice A0_1 l0_1.length c0_1) := (blk_cell BK201.out 1).trans rfl; have hcz24_2 : w23.cell? ⟨gb201, 2, none⟩ = some (.float .f32 a0_2) := (blk_cell BK201.out 2).trans rfl; have hcz24_3 : w23.cell? ⟨gb201, 3, none⟩ = some (.float .f32 a0_3) := (blk_cell BK201.out 3).trans rfl; have hcz24_4 : w23.cell? ⟨gb201, 4, none⟩ = some (.float .f32 a0_4) := (blk_cell BK201.out 4).trans rfl; have hcz24_5 : w23.cell? ⟨gb201, 5, none⟩ = some (.float .f32 a0_5) := (blk_cell BK201.out 5).trans rfl; have hfz24_0 := blk_frozen BK201.out 0; have hfz24_1 := blk_frozen BK201.out 1; have hfz24_2 := blk_frozen BK201.out 2; have hfz24_3 := blk_frozen BK201.out 3; have hfz24_4 := blk_frozen BK201.out 4; have hfz24_5 := blk_frozen BK201.out 5) | ((with_reducible refine gate_callee (f := 80) rfl ?_); refine goesL_ (some 5) rfl rfl Tryd.func80 (by kernel_rfl) rfl #[.string a0_0] rfl (by (try simp only [List.map_toArray, List.map_cons, List.map_nil]); first | done | rfl | (simp only [List.length_drop, List.length_take]; rfl)) ?_; (with_reducible refine (impl_isSoundName.calls k a0_0 true _ A2.out).mono ?_); rintro e w' ⟨rfl, ⟨nd, rfl⟩⟩; refine ⟨_, rfl, ?_⟩) | (go_at_call 81; (with_reducible refine (impl_areAreas.calls k _ _ l0_1 true _ ?side1 ?side2 A4.out).mono ?_); (case side1 => repeat (first | exact (Kd.C_below HR0_1.out (by repeat (first | (with_reducible first | exact HB.out | apply below_alloc | apply pw_below_drewN | apply below_drew1 | refine below_set ?_ GE201.out) | exact HB.out))) | (with_reducible refine Kd.C_alloc ?_ _) | (with_reducible refine Kd.C_drewN ?_ _) | (with_reducible refine Kd.C_drew ?_))); (case side2 => exact HC0_1.out); rintro e w' ⟨rfl, ⟨nd, rfl⟩⟩) | (go_at_call 64; (with_reducible refine (impl_IsFinite.calls a0_2 true _ A6.out).mono ?_); rintro e w' ⟨rfl, ⟨nd, rfl⟩⟩))
     go_ret
     exact ⟨by first | rfl | (simp [errW_none, errW_some] <;> rfl) | (simp [*, errW_none, errW_some] <;> rfl), by repeat (first | (with_reducible first | exact HB.out | apply below_alloc | apply pw_below_drewN | apply below_drew1 | refine below_set ?_ GE201.out) | exact HB.out)⟩
   ·replace c7 := Bool.eq_false_iff.mpr c7
    subst c7
    have H1 : (some false) = some r := by rw [if_neg (show ¬ (false = true) by decide)] at H; exact H
    clear H
    have H := H1
    clear H1
    obtain rfl := Option.some.inj H
    go_enter Tryd.func57, Tryd.ntmps57
    go_wp2_with (first | ((with_reducible refine gate_dst (N := 1) rfl ?_); refine box_event ?hg (N := 1) ?hd (cs := #[.string a0_0, .slice A0_1 l0_1.length c0_1, .float .f32 a0_2, .float .f32 a0_3, .float .f32 a0_4, .float .f32 a0_5]) (t := 58) ?hr ?_; (case hd => rfl); (case hg => rfl); (case hr => first | (go_simp; done) | (go_simp; rfl) | (simp (disch := omega) only [w64_id]; go_simp; done) | (go_simp; simp (disch := omega) only [w64_id]; done)); intro gb201 hg w25 hbox hb; have n0_ := Aside0.mk (below_step (by repeat (first | (with_reducible first | exact HB.out | apply below_alloc | apply pw_below_drewN | apply below_drew1) | exact HB.out)) hb); have n1_ := Aside0.mk (hbox); have n2_ := Aside0.mk ((by rw [hg]; exact (below_size (by repeat (first | (with_reducible first | exact HB.out | apply below_alloc | apply pw_below_drewN | apply below_drew1) | exact HB.out))) : w.heap.size ≤ gb201)); have n3_ := Aside0.mk ((by rw [hg]; exact (below_size (by repeat (first | (with_reducible first | exact HB.out | apply below_alloc | apply pw_below_drewN | apply below_drew1) | exact HB.out))) : w.heap.size ≤ gb201)); clear HB; have HB := n0_; have BK201 := n1_; have GW201 := n2_; have GE201 := n3_; clear n0_ n1_ n2_ n3_; clear hb hbox hg; have hcz26_0 : w25.cell? ⟨gb201, 0, none⟩ = some (.string a0_0) := (blk_cell BK201.out 0).trans rfl; have hcz26_1 : w25.cell? ⟨gb201, 1, none⟩ = some (.slice A0_1 l0_1.length c0_1) := (blk_cell BK201.out 1).trans rfl; have hcz26_2 : w25.cell? ⟨gb201, 2, none⟩ = some (.float .f32 a0_2) := (blk_cell BK201.out 2).trans rfl; have hcz26_3 : w25.cell? ⟨gb201, 3, none⟩ = some (.float .f32 a0_3) := (blk_cell BK201.out 3).trans rfl; have hcz26_4 : w25.cell? ⟨gb201, 4, none⟩ = some (.float .f32 a0_4) := (blk_cell BK201.out 4).trans rfl; have hcz26_5 : w25.cell? ⟨gb201, 5, none⟩ = some (.float .f32 a0_5) := (blk_cell BK201.out 5).trans rfl; have hfz26_0 := blk_frozen BK201.out 0; have hfz26_1 := blk_frozen BK201.out 1; have hfz26_2 := blk_frozen BK201.out 2; have hfz26_3 := blk_frozen BK201.out 3; have hfz26_4 := blk_frozen BK201.out 4; have hfz26_5 := blk_frozen BK201.out 5) | ((with_reducible refine gate_callee (f := 80) rfl ?_); refine goesL_ (some 5) rfl rfl Tryd.func80 (by kernel_rfl) rfl #[.string a0_0] rfl (by (try simp only [List.map_toArray, List.map_cons, List.map_nil]); first | done | rfl | (simp only [List.length_drop, List.length_take]; rfl)) ?_; (with_reducible refine (impl_isSoundName.calls k a0_0 true _ A2.out).mono ?_); rintro e w' ⟨rfl, ⟨nd, rfl⟩⟩; refine ⟨_, rfl, ?_⟩) | (go_at_call 81; (with_reducible refine (impl_areAreas.calls k _ _ l0_1 true _ ?side1 ?side2 A4.out).mono ?_); (case side1 => repeat (first | exact (Kd.C_below HR0_1.out (by repeat (first | (with_reducible first | exact HB.out | apply below_alloc | apply pw_below_drewN | apply below_drew1 | refine below_set ?_ GE201.out) | exact HB.out))) | (with_reducible refine Kd.C_alloc ?_ _) | (with_reducible refine Kd.C_drewN ?_ _) | (with_reducible refine Kd.C_drew ?_))); (case side2 => exact HC0_1.out); rintro e w' ⟨rfl, ⟨nd, rfl⟩⟩) | (go_at_call 64; (with_reducible refine (impl_IsFinite.calls a0_2 false _ A6.out).mono ?_); rintro e w' ⟨rfl, ⟨nd, rfl⟩⟩))
    go_ret
    exact ⟨by first | rfl | (simp [errW_none, errW_some] <;> rfl) | (simp [*, errW_none, errW_some] <;> rfl), by repeat (first | (with_reducible first | exact HB.out | apply below_alloc | apply pw_below_drewN | apply below_drew1 | refine below_set ?_ GE201.out) | exact HB.out)⟩
  ·replace c5 := Bool.eq_false_iff.mpr c5
   subst c5
   have H1 : (some false) = some r := by rw [if_neg (show ¬ (false = true) by decide)] at H; exact H
   clear H
   have H := H1
   clear H1
   obtain rfl := Option.some.inj H
   go_enter Tryd.func57, Tryd.ntmps57
   go_wp2_with (first | ((with_reducible refine gate_dst (N := 1) rfl ?_); refine box_event ?hg (N := 1) ?hd (cs := #[.string a0_0, .slice A0_1 l0_1.length c0_1, .float .f32 a0_2, .float .f32 a0_3, .float .f32 a0_4, .float .f32 a0_5]) (t := 58) ?hr ?_; (case hd => rfl); (case hg => rfl); (case hr => first | (go_simp; done) | (go_simp; rfl) | (simp (disch := omega) only [w64_id]; go_simp; done) | (go_simp; simp (disch := omega) only [w64_id]; done)); intro gb201 hg w27 hbox hb; have n0_ := Aside0.mk (below_step (by repeat (first | (with_reducible first | exact HB.out | apply below_alloc | apply pw_below_drewN | apply below_drew1) | exact HB.out)) hb); have n1_ := Aside0.mk (hbox); have n2_ := Aside0.mk ((by rw [hg]; exact (below_size (by repeat (first | (with_reducible first | exact HB.out | apply below_alloc | apply pw_below_drewN | apply below_drew1) | exact HB.out))) : w.heap.size ≤ gb201)); have n3_ := Aside0.mk ((by rw [hg]; exact (below_size (by repeat (first | (with_reducible first | exact HB.out | apply below_alloc | apply pw_below_drewN | apply below_drew1) | exact HB.out))) : w.heap.size ≤ gb201)); clear HB; have HB := n0_; have BK201 := n1_; have GW201 := n2_; have GE201 := n3_; clear n0_ n1_ n2_ n3_; clear hb hbox hg; have hcz28_0 : w27.cell? ⟨gb201, 0, none⟩ = some (.string a0_0) := (blk_cell BK201.out 0).trans rfl; have hcz28_1 : w27.cell? ⟨gb201, 1, none⟩ = some (.slice A0_1 l0_1.length c0_1) := (blk_cell BK201.out 1).trans rfl; have hcz28_2 : w27.cell? ⟨gb201, 2, none⟩ = some (.float .f32 a0_2) := (blk_cell BK201.out 2).trans rfl; have hcz28_3 : w27.cell? ⟨gb201, 3, none⟩ = some (.float .f32 a0_3) := (blk_cell BK201.out 3).trans rfl; have hcz28_4 : w27.cell? ⟨gb201, 4, none⟩ = some (.float .f32 a0_4) := (blk_cell BK201.out 4).trans rfl; have hcz28_5 : w27.cell? ⟨gb201, 5, none⟩ = some (.float .f32 a0_5) := (blk_cell BK201.out 5).trans rfl; have hfz28_0 := blk_frozen BK201.out 0; have hfz28_1 := blk_frozen BK201.out 1; have hfz28_2 := blk_frozen BK201.out 2; have hfz28_3 := blk_frozen BK201.out 3; have hfz28_4 := blk_frozen BK201.out 4; have hfz28_5 := blk_frozen BK201.out 5) | ((with_reducible refine gate_callee (f := 80) rfl ?_); refine goesL_ (some 5) rfl rfl Tryd.func80 (by kernel_rfl) rfl #[.string a0_0] rfl (by (try simp only [List.map_toArray, List.map_cons, List.map_nil]); first | done | rfl | (simp only [List.length_drop, List.length_take]; rfl)) ?_; (with_reducible refine (impl_isSoundName.calls k a0_0 true _ A2.out).mono ?_); rintro e w' ⟨rfl, ⟨nd, rfl⟩⟩; refine ⟨_, rfl, ?_⟩) | (go_at_call 81; (with_reducible refine (impl_areAreas.calls k _ _ l0_1 false _ ?side1 ?side2 A4.out).mono ?_); (case side1 => repeat (first | exact (Kd.C_below HR0_1.out (by repeat (first | (with_reducible first | exact HB.out | apply below_alloc | apply pw_below_drewN | apply below_drew1 | refine below_set ?_ GE201.out) | exact HB.out))) | (with_reducible refine Kd.C_alloc ?_ _) | (with_reducible refine Kd.C_drewN ?_ _) | (with_reducible refine Kd.C_drew ?_))); (case side2 => exact HC0_1.out); rintro e w' ⟨rfl, ⟨nd, rfl⟩⟩))
   go_ret
   exact ⟨by first | rfl | (simp [errW_none, errW_some] <;> rfl) | (simp [*, errW_none, errW_some] <;> rfl), by repeat (first | (with_reducible first | exact HB.out | apply below_alloc | apply pw_below_drewN | apply below_drew1 | refine below_set ?_ GE201.out) | exact HB.out)⟩
 ·replace c3 := Bool.eq_false_iff.mpr c3
  subst c3
  have H1 : (some false) = some r := by rw [if_neg (show ¬ (false = true) by decide)] at H; exact H
  clear H
  have H := H1
  clear H1
  obtain rfl := Option.some.inj H
  go_enter Tryd.func57, Tryd.ntmps57
  go_wp2_with (first | ((with_reducible refine gate_dst (N := 1) rfl ?_); refine box_event ?hg (N := 1) ?hd (cs := #[.string a0_0, .slice A0_1 l0_1.length c0_1, .float .f32 a0_2, .float .f32 a0_3, .float .f32 a0_4, .float .f32 a0_5]) (t := 58) ?hr ?_; (case hd => rfl); (case hg => rfl); (case hr => first | (go_simp; done) | (go_simp; rfl) | (simp (disch := omega) only [w64_id]; go_simp; done) | (go_simp; simp (disch := omega) only [w64_id]; done)); intro gb201 hg w29 hbox hb; have n0_ := Aside0.mk (below_step (by repeat (first | (with_reducible first | exact HB.out | apply below_alloc | apply pw_below_drewN | apply below_drew1) | exact HB.out)) hb); have n1_ := Aside0.mk (hbox); have n2_ := Aside0.mk ((by rw [hg]; exact (below_size (by repeat (first | (with_reducible first | exact HB.out | apply below_alloc | apply pw_below_drewN | apply below_drew1) | exact HB.out))) : w.heap.size ≤ gb201)); have n3_ := Aside0.mk ((by rw [hg]; exact (below_size (by repeat (first | (with_reducible first | exact HB.out | apply below_alloc | apply pw_below_drewN | apply below_drew1) | exact HB.out))) : w.heap.size ≤ gb201)); clear HB; have HB := n0_; have BK201 := n1_; have GW201 := n2_; have GE201 := n3_; clear n0_ n1_ n2_ n3_; clear hb hbox hg; have hcz30_0 : w29.cell? ⟨gb201, 0, none⟩ = some (.string a0_0) := (blk_cell BK201.out 0).trans rfl; have hcz30_1 : w29.cell? ⟨gb201, 1, none⟩ = some (.slice A0_1 l0_1.length c0_1) := (blk_cell BK201.out 1).trans rfl; have hcz30_2 : w29.cell? ⟨gb201, 2, none⟩ = some (.float .f32 a0_2) := (blk_cell BK201.out 2).trans rfl; have hcz30_3 : w29.cell? ⟨gb201, 3, none⟩ = some (.float .f32 a0_3) := (blk_cell BK201.out 3).trans rfl; have hcz30_4 : w29.cell? ⟨gb201, 4, none⟩ = some (.float .f32 a0_4) := (blk_cell BK201.out 4).trans rfl; have hcz30_5 : w29.cell? ⟨gb201, 5, none⟩ = some (.float .f32 a0_5) := (blk_cell BK201.out 5).trans rfl; have hfz30_0 := blk_frozen BK201.out 0; have hfz30_1 := blk_frozen BK201.out 1; have hfz30_2 := blk_frozen BK201.out 2; have hfz30_3 := blk_frozen BK201.out 3; have hfz30_4 := blk_frozen BK201.out 4; have hfz30_5 := blk_frozen BK201.out 5) | ((with_reducible refine gate_callee (f := 80) rfl ?_); refine goesL_ (some 5) rfl rfl Tryd.func80 (by kernel_rfl) rfl #[.string a0_0] rfl (by (try simp only [List.map_toArray, List.map_cons, List.map_nil]); first | done | rfl | (simp only [List.length_drop, List.length_take]; rfl)) ?_; (with_reducible refine (impl_isSoundName.calls k a0_0 false _ A2.out).mono ?_); rintro e w' ⟨rfl, ⟨nd, rfl⟩⟩; refine ⟨_, rfl, ?_⟩))
  go_ret
  exact ⟨by first | rfl | (simp [errW_none, errW_some] <;> rfl) | (simp [*, errW_none, errW_some] <;> rfl), by repeat (first | (with_reducible first | exact HB.out | apply below_alloc | apply pw_below_drewN | apply below_drew1 | refine below_set ?_ GE201.out) | exact HB.out)⟩
abbrev impl_AreSounds.z0 : Array Bool := #[false, false, false, false, false, false, false, false, false, false, false, false, false, false, false, false, false, false, false, false, false, false, false, false, false, false, false, false, false]
abbrev impl_AreSounds.z1 : Array Bool := #[true, false, false, false, false, false, false, false, false, false, false, false, false, false, false, false, false, false, false, false, false, false, false, false, false, false, false, false, false]
abbrev impl_AreSounds.z2 : Array Bool := #[true, true, false, false, false, false, false, false, false, false, false, false, false, false, false, false, false, false, false, false, false, false, false, false, false, false, false, false, false]
abbrev impl_AreSounds.z3 : Array Bool := #[true, true, true, false, false, false, false, false, false, false, false, false, false, false, false, false, false, false, false, false, false, false, false, false, false, false, false, false, false]
abbrev impl_AreSounds.z4 : Array Bool := #[true, true, true, true, false, false, false, false, false, false, false, false, false, false, false, false, false, false, false, false, false, false, false, false, false, false, false, false, false]
abbrev impl_AreSounds.z5 : Array Bool := #[true, true, true, true, true, false, false, false, false, false, false, false, false, false, false, false, false, false, false, false, false, false, false, false, false, false, false, false, false]
abbrev impl_AreSounds.z6 : Array Bool := #[true, true, true, true, true, false, false, true, false, false, false, false, false, false, false, false, false, false, false, false, false, false, false, false, false, false, false, false, false]
abbrev impl_AreSounds.z7 : Array Bool := #[true, true, true, true, true, false, false, true, true, false, false, false, false, false, false, false, false, false, false, false, false, false, false, false, false, false, false, false, false]
abbrev impl_AreSounds.z8 : Array Bool := #[true, true, true, true, true, false, false, true, true, true, false, false, false, false, false, false, false, false, false, false, false, false, false, false, false, false, false, false, false]
abbrev impl_AreSounds.z9 : Array Bool := #[true, true, true, true, true, true, false, true, true, true, false, false, false, false, false, false, false, false, false, false, false, false, false, false, false, false, false, false, false]
abbrev impl_AreSounds.z10 : Array Bool := #[true, true, true, true, true, true, true, true, true, true, false, false, false, false, false, false, false, false, false, false, false, false, false, false, false, false, false, false, false]
abbrev impl_AreSounds.z11 : Array Bool := #[true, true, true, true, true, true, true, true, true, true, true, false, false, false, false, false, false, false, false, false, false, false, false, false, false, false, false, false, false]
abbrev impl_AreSounds.z12 : Array Bool := #[true, true, true, true, true, true, true, true, true, true, true, true, false, false, false, false, false, false, false, false, false, false, false, false, false, false, false, false, false]
abbrev impl_AreSounds.z13 : Array Bool := #[true, true, true, true, true, true, true, true, true, true, true, true, true, false, false, false, false, false, false, false, false, false, false, false, false, false, false, false, false]
abbrev impl_AreSounds.z14 : Array Bool := #[true, true, true, true, true, true, true, true, true, true, true, true, true, true, false, false, false, false, false, false, false, false, false, false, false, false, false, false, false]
abbrev impl_AreSounds.z15 : Array Bool := #[true, true, true, true, true, true, true, true, true, true, true, true, true, true, true, false, false, false, false, false, false, false, false, false, false, false, false, false, false]
abbrev impl_AreSounds.z16 : Array Bool := #[true, true, true, true, true, true, true, true, true, true, true, true, true, true, true, true, false, false, false, false, false, false, false, false, false, false, false, false, false]
abbrev impl_AreSounds.z17 : Array Bool := #[true, true, true, true, true, true, true, true, true, true, true, true, true, true, true, true, true, false, false, false, false, false, false, false, false, false, false, false, false]
abbrev impl_AreSounds.z18 : Array Bool := #[true, true, true, true, true, true, true, true, true, true, true, true, true, true, true, true, true, true, false, false, false, false, false, false, false, false, false, false, false]
abbrev impl_AreSounds.z19 : Array Bool := #[true, true, true, true, true, true, true, true, true, true, true, true, true, true, true, true, true, true, true, false, false, false, false, false, false, false, false, false, false]
abbrev impl_AreSounds.z20 : Array Bool := #[true, true, true, true, true, true, true, true, true, true, true, true, true, true, true, true, true, true, true, true, false, false, false, false, false, false, false, false, false]
abbrev impl_AreSounds.z21 : Array Bool := #[true, true, true, true, true, true, true, true, true, true, true, true, true, true, true, true, true, true, true, true, true, false, false, false, false, false, false, false, false]
abbrev impl_AreSounds.z22 : Array Bool := #[true, true, true, true, true, true, true, true, true, true, true, true, true, true, true, true, true, true, true, true, true, true, false, false, false, false, false, false, false]
abbrev impl_AreSounds.z23 : Array Bool := #[true, true, true, true, true, true, true, true, true, true, true, true, true, true, true, true, true, true, true, true, true, true, true, false, false, false, false, false, false]
abbrev impl_AreSounds.z24 : Array Bool := #[true, true, true, true, true, true, true, true, true, true, true, true, true, true, true, true, true, true, true, true, true, true, true, false, true, false, false, false, false]
abbrev impl_AreSounds.z25 : Array Bool := #[true, true, true, true, true, true, true, true, true, true, true, true, true, true, true, true, true, true, true, true, true, true, true, true, true, false, false, false, false]
abbrev impl_AreSounds.z26 : Array Bool := #[true, true, true, true, true, true, true, true, true, true, true, true, true, true, true, true, true, true, true, true, true, true, true, true, true, true, false, false, false]
abbrev impl_AreSounds.z27 : Array Bool := #[true, true, true, true, true, true, true, true, true, true, true, true, true, true, true, true, true, true, true, true, true, true, true, true, true, true, true, false, false]
abbrev impl_AreSounds.z28 : Array Bool := #[true, true, true, true, true, true, true, true, true, true, true, true, true, true, true, true, true, true, true, true, true, true, true, true, true, true, true, true, false]
abbrev impl_AreSounds.z29 : Array Bool := #[true, true, true, true, true, true, true, true, true, true, true, true, true, true, true, true, true, true, true, true, true, true, true, true, true, true, true, true, true]
abbrev impl_AreSounds.z30 : Array Bool := #[true, true, true, true, true, true, true, true, true, true, true, true, true, true, true, true, true, true, true, true, true, true, true, true, false, false, false, false, false]
abbrev impl_AreSounds.z31 : Array Bool := #[true, true, true, true, true, true, false, false, false, false, false, false, false, false, false, false, false, false, false, false, false, false, false, false, false, false, false, false, false]
abbrev impl_AreSounds.z32 : Array Bool := #[true, true, true, true, true, true, true, false, false, false, false, false, false, false, false, false, false, false, false, false, false, false, false, false, false, false, false, false, false]
abbrev impl_AreSounds.z33 : Array Bool := #[true, true, true, true, true, true, true, true, false, false, false, false, false, false, false, false, false, false, false, false, false, false, false, false, false, false, false, false, false]
abbrev impl_AreSounds.z34 : Array Bool := #[true, true, true, true, true, true, true, true, true, false, false, false, false, false, false, false, false, false, false, false, false, false, false, false, false, false, false, false, false]
def impl_AreSounds.l0 : Nat → List (S58) → List (S58) → Int → Int → Option (Bool)
 | 0, _, _, _, _ => none
 | k + 1, x0, x5, x6, x7 => if x7 < x6 then (if 0 ≤ x7 then (if x7 < (x5.length : Int) then ((impl_ValidSound.f k ((rd_T58 x5 x7).f0) ((rd_T58 x5 x7).f1) ((rd_T58 x5 x7).f2) ((rd_T58 x5 x7).f3) ((rd_T58 x5 x7).f4) ((rd_T58 x5 x7).f5)).bind fun t210 => (if t210 = true then (if 0 < (x0.length : Int) then (if (((rd_T58 x5 x7).f1).length : Int) = (((rd_T58 x0 0).f1).length : Int) then (if x7 > 0 then (if 0 ≤ (wrap64 (x7 - 1)) then (if (wrap64 (x7 - 1)) < (x0.length : Int) then (if ((Op.bytesLess (((rd_T58 x0 (wrap64 (x7 - 1))).f0).toList) (((rd_T58 x5 x7).f0).toList)) = true) then (impl_AreSounds.l0 k x0 x5 x6 (wrap64 (x7 + 1))) else (some false)) else (none)) else (none)) else (impl_AreSounds.l0 k x0 x5 x6 (wrap64 (x7 + 1)))) else (some false)) else (none)) else (some false))) else (none)) else (none)) else (some (decide ((x0.length : Int) ≤ 16)))
def impl_AreSounds.f (k : Nat) (l0 : List (S58)) : Option (Bool) := impl_AreSounds.l0 k l0 l0 (l0.length : Int) 0
theorem impl_AreSounds.mono_l : ∀ k, (∀ y0 y1 y2 y3, LeO (impl_AreSounds.l0 k y0 y1 y2 y3) (impl_AreSounds.l0 (k + 1) y0 y1 y2 y3))
 | 0 => fun _ _ _ _ r h => by simp [impl_AreSounds.l0] at h
 | k + 1 => by
  have ih0 := impl_AreSounds.mono_l k
  ·intro y0 y1 y2 y3
   unfold impl_AreSounds.l0
   repeat' first
   | (with_reducible exact ih0 _ _ _ _)
   | (with_reducible exact impl_ValidSound.mono _ _ _ _ _ _ _)
   | (with_reducible exact LeO.refl _)
   | (with_reducible exact LeO.none _)
   | (with_reducible refine LeO.ite ?_ ?_)
   | (with_reducible refine LeO.bind ?_ (fun _ => ?_))
   | exact ih0 _ _ _ _
   | exact impl_ValidSound.mono _ _ _ _ _ _ _
   | exact LeO.none _
   | refine LeO.ite ?_ ?_
   | refine LeO.bind ?_ (fun _ => ?_)
theorem impl_AreSounds.mono : ∀ a0 k, LeO (impl_AreSounds.f k a0) (impl_AreSounds.f (k + 1) a0) := by
 intro a0 k
 have ih0 := impl_AreSounds.mono_l k
 unfold impl_AreSounds.f
 repeat' first
   | (with_reducible exact ih0 _ _ _ _)
   | (with_reducible exact impl_ValidSound.mono _ _ _ _ _ _ _)
   | (with_reducible exact LeO.refl _)
   | (with_reducible exact LeO.none _)
   | (with_reducible refine LeO.ite ?_ ?_)
   | (with_reducible refine LeO.bind ?_ (fun _ => ?_))
   | exact ih0 _ _ _ _
   | exact impl_ValidSound.mono _ _ _ _ _ _ _
   | exact LeO.none _
   | refine LeO.ite ?_ ?_
   | refine LeO.bind ?_ (fun _ => ?_)
def impl_AreSounds.T4 : Bool × List (List Nat × List Nat) := (true, [([], []), ([0], [0]), ([1], [1]), ([2, 1], [2]), ([3], [3]), ([4, 3], [3, 4]), ([5, 3], [3, 5]), ([3], [3]), ([7, 3], [3, 7]), ([8, 3], [3, 8]), ([9, 3], [3, 9]), ([10, 3], [3, 10]), ([6, 11, 3], [3, 6, 11]), ([3, 12], [3, 12]), ([13, 3], [13]), ([14], [14]), ([15, 14], [14, 15]), ([16, 14, 14], [14, 16]), ([17], [17]), ([17], [17]), ([19, 17], [17, 19]), ([18, 20, 17], [17, 18, 20]), ([21, 17], [17, 21]), ([22, 17], [17, 22]), ([17], [17]), ([24, 17], [17, 24]), ([23, 25, 17], [17, 23, 25]), ([17, 26, 14], [14, 17, 26]), ([14, 27], [14, 27])])
def impl_AreSounds.B4 : List Nat := [0, 1, 3, 7, 15, 31, 63, 15, 143, 399, 911, 1935, 4095, 8191, 16383, 32767, 65535, 131071, 262143, 262143, 786431, 2097151, 4194303, 8388607, 262143, 17039359, 67108863, 134217727, 268435455]
theorem impl_AreSounds.tab4 : rtab .any (opsOf Tryd.f34 4) = impl_AreSounds.T4 := by kernel_rfl
theorem impl_AreSounds.bits4 : waitsOk impl_AreSounds.T4.2 impl_AreSounds.B4 = true := by kernel_rfl
set_option maxHeartbeats 8000000 in
set_option maxRecDepth 100000 in
theorem impl_AreSounds.calls (k : Nat) (A0 : Option Addr) (c0 : Nat) (l0 : List (S58)) (r : Bool) (w : World) (hr0 : Kd.C k58 w A0 l0.length l0) (hc0 : l0.length ≤ c0) (h : impl_AreSounds.f k l0 = some r) :
  Calls Tryd.prog 34 #[.slice A0 l0.length c0] w fun e w' => e = .returned (.bool r) ∧ Below w.heap.size w w' := by
 have hu58 := Tryd.underlying58
 have hu37 := Tryd.underlying37
 have hu9 := Tryd.underlying9
 have HR0 := Aside0.mk hr0
 have HC0 := Aside0.mk hc0
 clear hr0 hc0
 have HB := Aside0.mk (Below.refl w.heap.size w)
 have H : (impl_AreSounds.l0 k l0 l0 (l0.length : Int) 0) = some r := h
 clear h
 have H' := Aside0.mk H
 clear H
 go_enter Tryd.func34, Tryd.ntmps34
 go_wp2
 go_loopg [7] k (fun kq v7 w' => ∃ (x7_1 : Int), v7 = .int .i64 x7_1 ∧ Aside0 (impl_AreSounds.l0 kq l0 l0 (l0.length : Int) x7_1 = some r) ∧ Aside0 (kq ≤ k) ∧ Aside0 (Below w.heap.size w w'))
 case atStart => exact ⟨(0), (by first | rfl | (simp; done) | (simp [*]; done)), H', ⟨Nat.le_refl _⟩, ⟨by repeat (first | (with_reducible first | exact HB.out | apply below_alloc | apply pw_below_drewN | apply below_drew1) | exact HB.out)⟩⟩
 case round =>
  clear H'
  obtain ⟨x7_1, rfl, HA, HK1, HB⟩ := hrel
  cases gk with
  | zero => exact absurd HA.out (by simp [impl_AreSounds.l0])
  | succ k1 =>
   have H := HA.out
   clear HA
   simp only [impl_AreSounds.l0] at H
   by_cases c2 : x7_1 < (l0.length : Int)
   ·rw [if_pos c2] at H
    have c2b0 : decide (x7_1 < (l0.length : Int)) = true := decide_eq_true c2
    clear c2
    by_cases c3 : 0 ≤ x7_1
    ·rw [if_pos c3] at H
     have c3b0 : decide (0 ≤ x7_1) = true := decide_eq_true c3
     clear c3
     by_cases c4 : x7_1 < (l0.length : Int)
     ·rw [if_pos c4] at H
      have c4b0 : decide (x7_1 < (l0.length : Int)) = true := decide_eq_true c4
      clear c4
      replace H := Option.bind_eq_some_iff.mp H
      obtain ⟨t210, A50, H⟩ := H
      replace H : (if t210 = true then (if 0 < (l0.length : Int) then (if (((rd_T58 l0 x7_1).f1).length : Int) = (((rd_T58 l0 0).f1).length : Int) then (if x7_1 > 0 then (if 0 ≤ (wrap64 (x7_1 - 1)) then (if (wrap64 (x7_1 - 1)) < (l0.length : Int) then (if ((Op.bytesLess (((rd_T58 l0 (wrap64 (x7_1 - 1))).f0).toList) (((rd_T58 l0 x7_1).f0).toList)) = true) then (impl_AreSounds.l0 k1 l0 l0 (l0.length : Int) (wrap64 (x7_1 + 1))) else (some false)) else (none)) else (none)) else (impl_AreSounds.l0 k1 l0 l0 (l0.length : Int) (wrap64 (x7_1 + 1)))) else (some false)) else (none)) else (some false)) = some r := H
      have A5 := Aside0.mk A50
      clear A50
      by_cases c6 : t210 = true
      ·subst c6
       have H1 : (if 0 < (l0.length : Int) then (if (((rd_T58 l0 x7_1).f1).length : Int) = (((rd_T58 l0 0).f1).length : Int) then (if x7_1 > 0 then (if 0 ≤ (wrap64 (x7_1 - 1)) then (if (wrap64 (x7_1 - 1)) < (l0.length : Int) then (if ((Op.bytesLess (((rd_T58 l0 (wrap64 (x7_1 - 1))).f0).toList) (((rd_T58 l0 x7_1).f0).toList)) = true) then (impl_AreSounds.l0 k1 l0 l0 (l0.length : Int) (wrap64 (x7_1 + 1))) else (some false)) else (none)) else (none)) else (impl_AreSounds.l0 k1 l0 l0 (l0.length : Int) (wrap64 (x7_1 + 1)))) else (some false)) else (none)) = some r := by rw [if_pos rfl] at H; exact H
       clear H
       have H := H1
       clear H1
       by_cases c7 : 0 < (l0.length : Int)
       ·rw [if_pos c7] at H
        have c7b0 : decide (0 < (l0.length : Int)) = true := decide_eq_true c7
        have c7b1 : decide (0 < l0.length) = true := decide_eq_true (by omega)
        clear c7
        by_cases c8 : (((rd_T58 l0 x7_1).f1).length : Int) = (((rd_T58 l0 0).f1).length : Int)
        ·rw [if_pos c8] at H
         have c8b0 : ((((rd_T58 l0 x7_1).f1).length : Int) == (((rd_T58 l0 0).f1).length : Int)) = true := beq_iff_eq.mpr c8
         have c8b1 : ((((rd_T58 l0 x7_1).f1).length : Int) != (((rd_T58 l0 0).f1).length : Int)) = false := bne_eq_false_iff_eq.mpr c8
         have c8b2 : (((rd_T58 l0 x7_1).f1).length == ((rd_T58 l0 0).f1).length) = true := by first | simpa using c8 | (simp at c8 ⊢; omega)
         clear c8
         by_cases c9 : x7_1 > 0
         ·rw [if_pos c9] at H
          have c9b0 : decide (0 < x7_1) = true := decide_eq_true c9
          clear c9
          obtain ⟨ji10, hji10⟩ : ∃ j_ : Int, (wrap64 (x7_1 - 1)) = j_ := ⟨_, rfl⟩
          replace H : (if 0 ≤ (ji10) then (if (ji10) < (l0.length : Int) then (if ((Op.bytesLess (((rd_T58 l0 (ji10)).f0).toList) (((rd_T58 l0 x7_1).f0).toList)) = true) then (impl_AreSounds.l0 k1 l0 l0 (l0.length : Int) (wrap64 (x7_1 + 1))) else (some false)) else (none)) else (none)) = some r := by first | (rw [hji10] at H; exact H) | (simp only [hji10] at H ⊢; exact H)
          (try rw [hji10] at A5)
          have hji10w : (IntKind.i64.wrap (x7_1 - 1)) = ji10 := (i64_w _).trans hji10
          by_cases c11 : 0 ≤ (ji10)
          ·rw [if_pos c11] at H
           have c11b0 : decide (0 ≤ (ji10)) = true := decide_eq_true c11
           clear c11
           by_cases c12 : (ji10) < (l0.length : Int)
           ·rw [if_pos c12] at H
            have c12b0 : decide ((ji10) < (l0.length : Int)) = true := decide_eq_true c12
            clear c12
            by_cases c13 : ((Op.bytesLess (((rd_T58 l0 (ji10)).f0).toList) (((rd_T58 l0 x7_1).f0).toList)) = true)
            ·rw [if_pos c13] at H
             have c13b0 : (Op.bytesLess (((rd_T58 l0 (ji10)).f0).toList) (((rd_T58 l0 x7_1).f0).toList)) = true := c13
             clear c13
             have H' := Aside0.mk H
             clear H
             have p208 : 0 ≤ (x7_1 : Int) := of_decide_eq_true (by first | (with_reducible assumption) | assumption)
             have q208 : x7_1 < (l0.length : Int) := of_decide_eq_true (by first | (with_reducible assumption) | assumption)
             obtain ⟨ad208, A208_1, c208_1, e208, hx208_0, hx208_1, hx208_2, hx208_3, hx208_4, hx208_5, hl208_1, hi208_1⟩ := at_T58 HR0.out x7_1 p208 q208
             have hw208_5 := hx208_5
             have hw208_4 := hx208_4
             have hw208_3 := hx208_3
             have hw208_2 := hx208_2
             have hw208_1 := hx208_1
             have hw208_0 := hx208_0
             cases e208
             replace hx208_0 := (HB.out.cell (World.block_lt_of_cell? w _ hx208_0)).trans hx208_0
             replace hx208_1 := (HB.out.cell (World.block_lt_of_cell? w _ hx208_1)).trans hx208_1
             replace hx208_2 := (HB.out.cell (World.block_lt_of_cell? w _ hx208_2)).trans hx208_2
             replace hx208_3 := (HB.out.cell (World.block_lt_of_cell? w _ hx208_3)).trans hx208_3
             replace hx208_4 := (HB.out.cell (World.block_lt_of_cell? w _ hx208_4)).trans hx208_4
             replace hx208_5 := (HB.out.cell (World.block_lt_of_cell? w _ hx208_5)).trans hx208_5
             have HR208_1 := Aside0.mk hi208_1
             have HC208_1 := Aside0.mk hl208_1
             clear hi208_1 hl208_1
             replace p208 := eq_true p208
             replace q208 := eq_true q208
             try go_wp2_with (first | ((with_reducible refine gate_dst (N := 4) rfl ?_); (try (refine gate_guard (by rfl) ?_; dsimp only)); refine box_event ?hg (N := 4) ?hd (cs := #[.string (⟨#[]⟩ : ByteArray), .slice none 0 0, .float .f32 0, .float .f32 0, .float .f32 0, .float .f32 0]) (t := 58) ?hr ?_; (case hd => rfl); (case hg => rfl); (case hr => first | (go_simp; done) | (go_simp; rfl) | (simp (disch := omega) only [w64_id]; go_simp; done) | (go_simp; simp (disch := omega) only [w64_id]; done)); intro gb209 hg w14 hbox hb; have n0_ := Aside0.mk (below_step (by repeat (first | (with_reducible first | exact HB.out | apply below_alloc | apply pw_below_drewN | apply below_drew1) | exact HB.out)) hb); have n1_ := Aside0.mk (hbox); have n2_ := Aside0.mk ((by rw [hg]; exact (below_size (by repeat (first | (with_reducible first | exact HB.out | apply below_alloc | apply pw_below_drewN | apply below_drew1) | exact HB.out))) : w.heap.size ≤ gb209)); have n3_ := Aside0.mk ((by rw [hg]; exact (below_size (by repeat (first | (with_reducible first | exact HB.out | apply below_alloc | apply pw_below_drewN | apply below_drew1) | exact HB.out))) : w.heap.size ≤ gb209)); clear HB; have HB := n0_; have BK209 := n1_; have GW209 := n2_; have GE209 := n3_; clear n0_ n1_ n2_ n3_; clear hb hbox hg; have hcz15_0 : w14.cell? ⟨gb209, 0, none⟩ = some (.string (⟨#[]⟩ : ByteArray)) := (blk_cell BK209.out 0).trans rfl; have hcz15_1 : w14.cell? ⟨gb209, 1, none⟩ = some (.slice none 0 0) := (blk_cell BK209.out 1).trans rfl; have hcz15_2 : w14.cell? ⟨gb209, 2, none⟩ = some (.float .f32 0) := (blk_cell BK209.out 2).trans rfl; have hcz15_3 : w14.cell? ⟨gb209, 3, none⟩ = some (.float .f32 0) := (blk_cell BK209.out 3).trans rfl; have hcz15_4 : w14.cell? ⟨gb209, 4, none⟩ = some (.float .f32 0) := (blk_cell BK209.out 4).trans rfl; have hcz15_5 : w14.cell? ⟨gb209, 5, none⟩ = some (.float .f32 0) := (blk_cell BK209.out 5).trans rfl; have hfz15_0 := blk_frozen BK209.out 0; have hfz15_1 := blk_frozen BK209.out 1; have hfz15_2 := blk_frozen BK209.out 2; have hfz15_3 := blk_frozen BK209.out 3; have hfz15_4 := blk_frozen BK209.out 4; have hfz15_5 := blk_frozen BK209.out 5))
             have n0_ : Aside0 (((((((w14.setCell ⟨gb209, 0, none⟩ (.string ((rd_T58 l0 x7_1).f0))).setCell ⟨gb209, 1, none⟩ (.slice A208_1 ((rd_T58 l0 x7_1).f1).length c208_1)).setCell ⟨gb209, 2, none⟩ (.float .f32 ((rd_T58 l0 x7_1).f2))).setCell ⟨gb209, 3, none⟩ (.float .f32 ((rd_T58 l0 x7_1).f3))).setCell ⟨gb209, 4, none⟩ (.float .f32 ((rd_T58 l0 x7_1).f4))).setCell ⟨gb209, 5, none⟩ (.float .f32 ((rd_T58 l0 x7_1).f5))).heap[gb209]? = some (.cells #[.string ((rd_T58 l0 x7_1).f0), .slice A208_1 ((rd_T58 l0 x7_1).f1).length c208_1, .float .f32 ((rd_T58 l0 x7_1).f2), .float .f32 ((rd_T58 l0 x7_1).f3), .float .f32 ((rd_T58 l0 x7_1).f4), .float .f32 ((rd_T58 l0 x7_1).f5)] 58 (0, 0))) := ⟨by (with_reducible repeat (first | refine blk_drewN ?_ _ | refine blk_drew ?_ | refine blk_alloc ?_ _)); refine blk_put (cs := #[.string ((rd_T58 l0 x7_1).f0), .slice A208_1 ((rd_T58 l0 x7_1).f1).length c208_1, .float .f32 ((rd_T58 l0 x7_1).f2), .float .f32 ((rd_T58 l0 x7_1).f3), .float .f32 ((rd_T58 l0 x7_1).f4), .float .f32 0]) ?_ 5 _ rfl; (with_reducible repeat (first | refine blk_drewN ?_ _ | refine blk_drew ?_ | refine blk_alloc ?_ _)); refine blk_put (cs := #[.string ((rd_T58 l0 x7_1).f0), .slice A208_1 ((rd_T58 l0 x7_1).f1).length c208_1, .float .f32 ((rd_T58 l0 x7_1).f2), .float .f32 ((rd_T58 l0 x7_1).f3), .float .f32 0, .float .f32 0]) ?_ 4 _ rfl; (with_reducible repeat (first | refine blk_drewN ?_ _ | refine blk_drew ?_ | refine blk_alloc ?_ _)); refine blk_put (cs := #[.string ((rd_T58 l0 x7_1).f0), .slice A208_1 ((rd_T58 l0 x7_1).f1).length c208_1, .float .f32 ((rd_T58 l0 x7_1).f2), .float .f32 0, .float .f32 0, .float .f32 0]) ?_ 3 _ rfl; (with_reducible repeat (first | refine blk_drewN ?_ _ | refine blk_drew ?_ | refine blk_alloc ?_ _)); refine blk_put (cs := #[.string ((rd_T58 l0 x7_1).f0), .slice A208_1 ((rd_T58 l0 x7_1).f1).length c208_1, .float .f32 0, .float .f32 0, .float .f32 0, .float .f32 0]) ?_ 2 _ rfl; (with_reducible repeat (first | refine blk_drewN ?_ _ | refine blk_drew ?_ | refine blk_alloc ?_ _)); refine blk_put (cs := #[.string ((rd_T58 l0 x7_1).f0), .slice none 0 0, .float .f32 0, .float .f32 0, .float .f32 0, .float .f32 0]) ?_ 1 _ rfl; (with_reducible repeat (first | refine blk_drewN ?_ _ | refine blk_drew ?_ | refine blk_alloc ?_ _)); refine blk_put (cs := #[.string (⟨#[]⟩ : ByteArray), .slice none 0 0, .float .f32 0, .float .f32 0, .float .f32 0, .float .f32 0]) ?_ 0 _ rfl; (with_reducible repeat (first | refine blk_drewN ?_ _ | refine blk_drew ?_ | refine blk_alloc ?_ _)); exact BK209.out⟩
             have n1_ : Aside0 (Below w.heap.size w ((((((w14.setCell ⟨gb209, 0, none⟩ (.string ((rd_T58 l0 x7_1).f0))).setCell ⟨gb209, 1, none⟩ (.slice A208_1 ((rd_T58 l0 x7_1).f1).length c208_1)).setCell ⟨gb209, 2, none⟩ (.float .f32 ((rd_T58 l0 x7_1).f2))).setCell ⟨gb209, 3, none⟩ (.float .f32 ((rd_T58 l0 x7_1).f3))).setCell ⟨gb209, 4, none⟩ (.float .f32 ((rd_T58 l0 x7_1).f4))).setCell ⟨gb209, 5, none⟩ (.float .f32 ((rd_T58 l0 x7_1).f5)))) := ⟨by repeat (first | (with_reducible first | exact HB.out | apply below_alloc | apply pw_below_drewN | apply below_drew1 | refine below_set ?_ GE209.out) | exact HB.out)⟩
             (try clear BK209)
             (try clear HB)
             generalize ((((((w14.setCell ⟨gb209, 0, none⟩ (.string ((rd_T58 l0 x7_1).f0))).setCell ⟨gb209, 1, none⟩ (.slice A208_1 ((rd_T58 l0 x7_1).f1).length c208_1)).setCell ⟨gb209, 2, none⟩ (.float .f32 ((rd_T58 l0 x7_1).f2))).setCell ⟨gb209, 3, none⟩ (.float .f32 ((rd_T58 l0 x7_1).f3))).setCell ⟨gb209, 4, none⟩ (.float .f32 ((rd_T58 l0 x7_1).f4))).setCell ⟨gb209, 5, none⟩ (.float .f32 ((rd_T58 l0 x7_1).f5))) = w16 at n0_ n1_ ⊢
             have BK209 := n0_
             have HB := n1_
             clear n0_ n1_
             have n0_ := Aside0.mk (blk_drew BK209.out)
             have n1_ := Aside0.mk (below_drew1 HB.out)
             clear BK209
             clear HB
             have BK209 := n0_
             have HB := n1_
             clear n0_ n1_
             have p211 : 0 ≤ (0 : Int) := (by omega)
             have q211 : 0 < (l0.length : Int) := of_decide_eq_true (by first | (with_reducible assumption) | assumption)
             obtain ⟨ad211, A211_1, c211_1, e211, hx211_0, hx211_1, hx211_2, hx211_3, hx211_4, hx211_5, hl211_1, hi211_1⟩ := at_T58 HR0.out 0 p211 q211
             have hw211_5 := hx211_5
             (try rw [show ((0 : Int)).toNat = 0 from rfl] at hw211_5)
             (try rw [show 0 * 6 = 0 from rfl] at hw211_5)
             (try rw [Addr.add_zero'] at hw211_5)
             have hw211_4 := hx211_4
             (try rw [show ((0 : Int)).toNat = 0 from rfl] at hw211_4)
             (try rw [show 0 * 6 = 0 from rfl] at hw211_4)
             (try rw [Addr.add_zero'] at hw211_4)
             have hw211_3 := hx211_3
             (try rw [show ((0 : Int)).toNat = 0 from rfl] at hw211_3)
             (try rw [show 0 * 6 = 0 from rfl] at hw211_3)
             (try rw [Addr.add_zero'] at hw211_3)
             have hw211_2 := hx211_2
             (try rw [show ((0 : Int)).toNat = 0 from rfl] at hw211_2)
             (try rw [show 0 * 6 = 0 from rfl] at hw211_2)
             (try rw [Addr.add_zero'] at hw211_2)
             have hw211_1 := hx211_1
             (try rw [show ((0 : Int)).toNat = 0 from rfl] at hw211_1)
             (try rw [show 0 * 6 = 0 from rfl] at hw211_1)
             (try rw [Addr.add_zero'] at hw211_1)
             have hw211_0 := hx211_0
             (try rw [show ((0 : Int)).toNat = 0 from rfl] at hw211_0)
             (try rw [show 0 * 6 = 0 from rfl] at hw211_0)
             (try rw [Addr.add_zero'] at hw211_0)
             obtain rfl : ad208 = ad211 := (by injection e211)
             have qi211 : (0 < l0.length) = True := eq_true (by omega)
             (try rw [show ((0 : Int)).toNat = 0 from rfl] at hx211_0)
             (try rw [show 0 * 6 = 0 from rfl] at hx211_0)
             (try rw [Addr.add_zero'] at hx211_0)
             (try rw [show ((0 : Int)).toNat = 0 from rfl] at hx211_1)
             (try rw [show 0 * 6 = 0 from rfl] at hx211_1)
             (try rw [Addr.add_zero'] at hx211_1)
             (try rw [show ((0 : Int)).toNat = 0 from rfl] at hx211_2)
             (try rw [show 0 * 6 = 0 from rfl] at hx211_2)
             (try rw [Addr.add_zero'] at hx211_2)
             (try rw [show ((0 : Int)).toNat = 0 from rfl] at hx211_3)
             (try rw [show 0 * 6 = 0 from rfl] at hx211_3)
             (try rw [Addr.add_zero'] at hx211_3)
             (try rw [show ((0 : Int)).toNat = 0 from rfl] at hx211_4)
             (try rw [show 0 * 6 = 0 from rfl] at hx211_4)
             (try rw [Addr.add_zero'] at hx211_4)
             (try rw [show ((0 : Int)).toNat = 0 from rfl] at hx211_5)
             (try rw [show 0 * 6 = 0 from rfl] at hx211_5)
             (try rw [Addr.add_zero'] at hx211_5)
             replace hx211_0 := (HB.out.cell (World.block_lt_of_cell? w _ hx211_0)).trans hx211_0
             replace hx211_1 := (HB.out.cell (World.block_lt_of_cell? w _ hx211_1)).trans hx211_1
             replace hx211_2 := (HB.out.cell (World.block_lt_of_cell? w _ hx211_2)).trans hx211_2
             replace hx211_3 := (HB.out.cell (World.block_lt_of_cell? w _ hx211_3)).trans hx211_3
             replace hx211_4 := (HB.out.cell (World.block_lt_of_cell? w _ hx211_4)).trans hx211_4
             replace hx211_5 := (HB.out.cell (World.block_lt_of_cell? w _ hx211_5)).trans hx211_5
             have HR211_1 := Aside0.mk hi211_1
             have HC211_1 := Aside0.mk hl211_1
             clear hi211_1 hl211_1
             replace p211 := eq_true p211
             replace q211 := eq_true q211
             have p212 : 0 ≤ ((ji10) : Int) := of_decide_eq_true (by first | (with_reducible assumption) | assumption)
             have q212 : (ji10) < (l0.length : Int) := of_decide_eq_true (by first | (with_reducible assumption) | assumption)
             obtain ⟨ad212, A212_1, c212_1, e212, hx212_0, hx212_1, hx212_2, hx212_3, hx212_4, hx212_5, hl212_1, hi212_1⟩ := at_T58 HR0.out (ji10) p212 q212
             have hw212_5 := hx212_5
             have hw212_4 := hx212_4
             have hw212_3 := hx212_3
             have hw212_2 := hx212_2
             have hw212_1 := hx212_1
             have hw212_0 := hx212_0
             obtain rfl : ad208 = ad212 := (by injection e212)
             replace hx212_0 := (HB.out.cell (World.block_lt_of_cell? w _ hx212_0)).trans hx212_0
             replace hx212_1 := (HB.out.cell (World.block_lt_of_cell? w _ hx212_1)).trans hx212_1
             replace hx212_2 := (HB.out.cell (World.block_lt_of_cell? w _ hx212_2)).trans hx212_2
             replace hx212_3 := (HB.out.cell (World.block_lt_of_cell? w _ hx212_3)).trans hx212_3
             replace hx212_4 := (HB.out.cell (World.block_lt_of_cell? w _ hx212_4)).trans hx212_4
             replace hx212_5 := (HB.out.cell (World.block_lt_of_cell? w _ hx212_5)).trans hx212_5
             have HR212_1 := Aside0.mk hi212_1
             have HC212_1 := Aside0.mk hl212_1
             clear hi212_1 hl212_1
             replace p212 := eq_true p212
             replace q212 := eq_true q212
             refine start_ (n := 29) (S := fun w' => w'.cell? ⟨gb209, 0, none⟩ = some (.string ((rd_T58 l0 x7_1).f0)) ∧ w'.cell? ⟨gb209, 1, none⟩ = some (.slice A208_1 ((rd_T58 l0 x7_1).f1).length c208_1) ∧ w'.cell? ⟨gb209, 2, none⟩ = some (.float .f32 ((rd_T58 l0 x7_1).f2)) ∧ w'.cell? ⟨gb209, 3, none⟩ = some (.float .f32 ((rd_T58 l0 x7_1).f3)) ∧ w'.cell? ⟨gb209, 4, none⟩ = some (.float .f32 ((rd_T58 l0 x7_1).f4)) ∧ w'.cell? ⟨gb209, 5, none⟩ = some (.float .f32 ((rd_T58 l0 x7_1).f5)) ∧ w'.cell? (ad208.add ((x7_1).toNat * 6)) = some (.string ((rd_T58 l0 x7_1).f0)) ∧ w'.cell? ⟨(ad208.add ((x7_1).toNat * 6)).block, (ad208.add ((x7_1).toNat * 6)).off + 1, none⟩ = some (.slice A208_1 ((rd_T58 l0 x7_1).f1).length c208_1) ∧ w'.cell? ⟨(ad208.add ((x7_1).toNat * 6)).block, (ad208.add ((x7_1).toNat * 6)).off + 2, none⟩ = some (.float .f32 ((rd_T58 l0 x7_1).f2)) ∧ w'.cell? ⟨(ad208.add ((x7_1).toNat * 6)).block, (ad208.add ((x7_1).toNat * 6)).off + 3, none⟩ = some (.float .f32 ((rd_T58 l0 x7_1).f3)) ∧ w'.cell? ⟨(ad208.add ((x7_1).toNat * 6)).block, (ad208.add ((x7_1).toNat * 6)).off + 4, none⟩ = some (.float .f32 ((rd_T58 l0 x7_1).f4)) ∧ w'.cell? ⟨(ad208.add ((x7_1).toNat * 6)).block, (ad208.add ((x7_1).toNat * 6)).off + 5, none⟩ = some (.float .f32 ((rd_T58 l0 x7_1).f5)) ∧ w'.cell? ad208 = some (.string ((rd_T58 l0 0).f0)) ∧ w'.cell? ⟨ad208.block, ad208.off + 1, none⟩ = some (.slice A211_1 ((rd_T58 l0 0).f1).length c211_1) ∧ w'.cell? ⟨ad208.block, ad208.off + 2, none⟩ = some (.float .f32 ((rd_T58 l0 0).f2)) ∧ w'.cell? ⟨ad208.block, ad208.off + 3, none⟩ = some (.float .f32 ((rd_T58 l0 0).f3)) ∧ w'.cell? ⟨ad208.block, ad208.off + 4, none⟩ = some (.float .f32 ((rd_T58 l0 0).f4)) ∧ w'.cell? ⟨ad208.block, ad208.off + 5, none⟩ = some (.float .f32 ((rd_T58 l0 0).f5)) ∧ w'.cell? (ad208.add (((ji10)).toNat * 6)) = some (.string ((rd_T58 l0 (ji10)).f0)) ∧ w'.cell? ⟨(ad208.add (((ji10)).toNat * 6)).block, (ad208.add (((ji10)).toNat * 6)).off + 1, none⟩ = some (.slice A212_1 ((rd_T58 l0 (ji10)).f1).length c212_1) ∧ w'.cell? ⟨(ad208.add (((ji10)).toNat * 6)).block, (ad208.add (((ji10)).toNat * 6)).off + 2, none⟩ = some (.float .f32 ((rd_T58 l0 (ji10)).f2)) ∧ w'.cell? ⟨(ad208.add (((ji10)).toNat * 6)).block, (ad208.add (((ji10)).toNat * 6)).off + 3, none⟩ = some (.float .f32 ((rd_T58 l0 (ji10)).f3)) ∧ w'.cell? ⟨(ad208.add (((ji10)).toNat * 6)).block, (ad208.add (((ji10)).toNat * 6)).off + 4, none⟩ = some (.float .f32 ((rd_T58 l0 (ji10)).f4)) ∧ w'.cell? ⟨(ad208.add (((ji10)).toNat * 6)).block, (ad208.add (((ji10)).toNat * 6)).off + 5, none⟩ = some (.float .f32 ((rd_T58 l0 (ji10)).f5))) (ds := []) impl_AreSounds.z0 (by kernel_rfl) rfl rfl ⟨(blk_cell BK209.out 0).trans rfl, (blk_cell BK209.out 1).trans rfl, (blk_cell BK209.out 2).trans rfl, (blk_cell BK209.out 3).trans rfl, (blk_cell BK209.out 4).trans rfl, (blk_cell BK209.out 5).trans rfl, (cu_ HB.out hw208_0), (cu_ HB.out hw208_1), (cu_ HB.out hw208_2), (cu_ HB.out hw208_3), (cu_ HB.out hw208_4), (cu_ HB.out hw208_5), (cu_ HB.out hw211_0), (cu_ HB.out hw211_1), (cu_ HB.out hw211_2), (cu_ HB.out hw211_3), (cu_ HB.out hw211_4), (cu_ HB.out hw211_5), (cu_ HB.out hw212_0), (cu_ HB.out hw212_1), (cu_ HB.out hw212_2), (cu_ HB.out hw212_3), (cu_ HB.out hw212_4), (cu_ HB.out hw212_5)⟩ (fun hHeld => ?_); refine with_tabW impl_AreSounds.tab4 impl_AreSounds.bits4 (fun HT_ HW_ => ?_)
             generalize w16.drew = w17 at BK209 HB HR211_1 HR212_1 hx211_0 hx211_1 hx211_2 hx211_3 hx211_4 hx211_5 hx212_0 hx212_1 hx212_2 hx212_3 hx212_4 hx212_5 hHeld ⊢
             refine take_ (i := 0) (N := some 12) (v := ?_) (a' := ?_) impl_AreSounds.z1 rfl rfl (take_ofW HT_.out HW_.out (by kernel_rfl)) (fun _ _ _ h => h) (Or.inl ⟨by rfl, ?_⟩) hHeld ?_ ?_
             rotate_left
             ·rintro w' ⟨s0, s1, s2, s3, s4, s5, s6, s7, s8, s9, s10, s11, s12, s13, s14, s15, s16, s17, s18, s19, s20, s21, s22, s23⟩
              go_simp
              with_reducible rfl
             rotate_left
             ·pw_
             refine one_ (i := 1) (N := some 13) impl_AreSounds.z2 rfl rfl (one_of HT_.out (by kernel_rfl)) (by decide) (fun K hK => ?_)
             refine goes_ Tryd.func57 (by kernel_rfl) rfl #[.agg #[.string ((rd_T58 l0 x7_1).f0), .slice A208_1 ((rd_T58 l0 x7_1).f1).length c208_1, .float .f32 ((rd_T58 l0 x7_1).f2), .float .f32 ((rd_T58 l0 x7_1).f3), .float .f32 ((rd_T58 l0 x7_1).f4), .float .f32 ((rd_T58 l0 x7_1).f5)]] (by rfl) rfl rfl (by (try simp only [List.map_toArray, List.map_cons, List.map_nil]); first | done | rfl | (simp only [List.length_drop, List.length_take]; rfl)) ?_
             with_reducible refine (impl_ValidSound.calls k1 ((rd_T58 l0 x7_1).f0) _ _ ((rd_T58 l0 x7_1).f1) ((rd_T58 l0 x7_1).f2) ((rd_T58 l0 x7_1).f3) ((rd_T58 l0 x7_1).f4) ((rd_T58 l0 x7_1).f5) true _ ?side1 ?side2 A5.out).mono ?_
             (case side1 => repeat (first | exact (Kd.C_below HR208_1.out HB.out) | (with_reducible refine Kd.C_alloc ?_ _) | (with_reducible refine Kd.C_drewN ?_ _) | (with_reducible refine Kd.C_drew ?_)))
             (case side2 => exact HC208_1.out)
             rintro e w18 ⟨rfl, hb⟩
             refine ⟨_, rfl, ?_⟩
             have n0_ := Aside0.mk (blk_below (g := gb209) (o := .cells #[.string ((rd_T58 l0 x7_1).f0), .slice A208_1 ((rd_T58 l0 x7_1).f1).length c208_1, .float .f32 ((rd_T58 l0 x7_1).f2), .float .f32 ((rd_T58 l0 x7_1).f3), .float .f32 ((rd_T58 l0 x7_1).f4), .float .f32 ((rd_T58 l0 x7_1).f5)] 58 (0, 0)) (by (with_reducible repeat (first | refine blk_drewN ?_ _ | refine blk_drew ?_ | refine blk_alloc ?_ _)); exact BK209.out) hb)
             have n1_ := Aside0.mk (below_step (by repeat (first | (with_reducible first | exact HB.out | apply below_alloc | apply pw_below_drewN | apply below_drew1 | refine below_set ?_ GE209.out) | exact HB.out)) hb)
             clear BK209
             clear HB
             have BK209 := n0_
             have HB := n1_
             clear n0_ n1_
             (try clear hb)
             (try clear hb2)
             (try clear hk)
             (try clear hi)
             refine hK.out _ _ ⟨(blk_cell BK209.out 0).trans rfl, (blk_cell BK209.out 1).trans rfl, (blk_cell BK209.out 2).trans rfl, (blk_cell BK209.out 3).trans rfl, (blk_cell BK209.out 4).trans rfl, (blk_cell BK209.out 5).trans rfl, (cu_ HB.out hw208_0), (cu_ HB.out hw208_1), (cu_ HB.out hw208_2), (cu_ HB.out hw208_3), (cu_ HB.out hw208_4), (cu_ HB.out hw208_5), (cu_ HB.out hw211_0), (cu_ HB.out hw211_1), (cu_ HB.out hw211_2), (cu_ HB.out hw211_3), (cu_ HB.out hw211_4), (cu_ HB.out hw211_5), (cu_ HB.out hw212_0), (cu_ HB.out hw212_1), (cu_ HB.out hw212_2), (cu_ HB.out hw212_3), (cu_ HB.out hw212_4), (cu_ HB.out hw212_5)⟩ (fun hHeld => ?_)
             clear hK K
             refine norm_ (a' := ?_) ?_ ?_
             rotate_left
             ·show Act.put _ (some 13) _ = _
              pw_
             refine pure_ (i := 2) (N := some 14) (v := ?_) (a' := ?_) impl_AreSounds.z3 rfl rfl (any_of HT_.out (by kernel_rfl)) (fun _ _ _ h => h) (Or.inl ⟨by rfl, ?_⟩) ?_ ?_
             pv_
             refine pure_ (i := 3) (N := some 15) (v := ?_) (a' := ?_) impl_AreSounds.z4 rfl rfl (any_of HT_.out (by kernel_rfl)) (fun _ _ _ h => h) (Or.inl ⟨by rfl, ?_⟩) ?_ ?_
             pv_
             refine pure_ (i := 4) (N := some 16) (v := ?_) (a' := ?_) impl_AreSounds.z5 rfl rfl (any_of HT_.out (by kernel_rfl)) (fun _ _ _ h => h) (Or.inl ⟨by rfl, ?_⟩) ?_ ?_
             pv_
             refine pure_ (i := 7) (N := some 19) (v := ?_) (a' := ?_) impl_AreSounds.z6 rfl rfl (any_of HT_.out (by kernel_rfl)) (fun _ _ _ h => h) (Or.inl ⟨by rfl, ?_⟩) ?_ ?_
             pv_
             refine pure_ (i := 8) (N := some 20) (v := ?_) (a' := ?_) impl_AreSounds.z7 rfl rfl (any_of HT_.out (by kernel_rfl)) (fun _ _ _ h => h) (Or.inl ⟨by rfl, ?_⟩) ?_ ?_
             pv_
             refine pure_ (i := 9) (N := some 21) (v := ?_) (a' := ?_) impl_AreSounds.z8 rfl rfl (any_of HT_.out (by kernel_rfl)) (fun _ _ _ h => h) (Or.inl ⟨by rfl, ?_⟩) ?_ ?_
             pv_
             refine take_ (i := 5) (N := some 17) (v := ?_) (a' := ?_) impl_AreSounds.z9 rfl rfl (take_ofW HT_.out HW_.out (by kernel_rfl)) (fun _ _ _ h => h) (Or.inl ⟨by rfl, ?_⟩) hHeld ?_ ?_
             rotate_left
             ·rintro w' ⟨s0, s1, s2, s3, s4, s5, s6, s7, s8, s9, s10, s11, s12, s13, s14, s15, s16, s17, s18, s19, s20, s21, s22, s23⟩
              go_simp
              with_reducible rfl
             rotate_left
             ·pw_
             refine pure_ (i := 6) (N := some 18) (v := ?_) (a' := ?_) impl_AreSounds.z10 rfl rfl (any_of HT_.out (by kernel_rfl)) (fun _ _ _ h => h) (Or.inl ⟨by rfl, ?_⟩) ?_ ?_
             pv_
             refine take_ (i := 10) (N := some 22) (v := ?_) (a' := ?_) impl_AreSounds.z11 rfl rfl (take_ofW HT_.out HW_.out (by kernel_rfl)) (fun _ _ _ h => h) (Or.inl ⟨by rfl, ?_⟩) hHeld ?_ ?_
             rotate_left
             ·rintro w' ⟨s0, s1, s2, s3, s4, s5, s6, s7, s8, s9, s10, s11, s12, s13, s14, s15, s16, s17, s18, s19, s20, s21, s22, s23⟩
              go_simp
              with_reducible rfl
             rotate_left
             ·pw_
             refine pure_ (i := 11) (N := some 23) (v := ?_) (a' := ?_) impl_AreSounds.z12 rfl rfl (any_of HT_.out (by kernel_rfl)) (fun _ _ _ h => h) (Or.inl ⟨by rfl, ?_⟩) ?_ ?_
             pv_
             refine pure_ (i := 12) (N := some 24) (v := ?_) (a' := ?_) impl_AreSounds.z13 rfl rfl (any_of HT_.out (by kernel_rfl)) (fun _ _ _ h => h) (Or.inl ⟨by rfl, ?_⟩) ?_ ?_
             pv_
             refine pure_ (i := 13) (N := some 25) (v := ?_) (a' := ?_) impl_AreSounds.z14 rfl rfl (any_of HT_.out (by kernel_rfl)) (fun _ _ _ h => h) (Or.inl ⟨by rfl, ?_⟩) ?_ ?_
             pv_
             refine pure_ (i := 14) (N := some 26) (v := ?_) (a' := ?_) impl_AreSounds.z15 rfl rfl (any_of HT_.out (by kernel_rfl)) (fun _ _ _ h => h) (Or.inl ⟨by rfl, ?_⟩) ?_ ?_
             pv_
             refine pure_ (i := 15) (N := some 27) (v := ?_) (a' := ?_) impl_AreSounds.z16 rfl rfl (any_of HT_.out (by kernel_rfl)) (fun _ _ _ h => h) (Or.inl ⟨by rfl, ?_⟩) ?_ ?_
             pv_
             refine pure_ (i := 16) (N := some 28) (v := ?_) (a' := ?_) impl_AreSounds.z17 rfl rfl (any_of HT_.out (by kernel_rfl)) (fun _ _ _ h => h) (Or.inl ⟨by rfl, ?_⟩) ?_ ?_
             pv_
             refine pure_ (i := 17) (N := some 29) (v := ?_) (a' := ?_) impl_AreSounds.z18 rfl rfl (any_of HT_.out (by kernel_rfl)) (fun _ _ _ h => h) (Or.inl ⟨by rfl, ?_⟩) ?_ ?_
             pv_
             refine pure_ (i := 18) (N := some 30) (v := ?_) (a' := ?_) impl_AreSounds.z19 rfl rfl (any_of HT_.out (by kernel_rfl)) (fun _ _ _ h => h) (Or.inl ⟨by rfl, ?_⟩) ?_ ?_
             pv_
             refine pure_ (i := 19) (N := some 31) (v := ?_) (a' := ?_) impl_AreSounds.z20 rfl rfl (any_of HT_.out (by kernel_rfl)) (fun _ _ _ h => h) (Or.inl ⟨by rfl, ?_⟩) ?_ ?_
             pv_
             refine pure_ (i := 20) (N := some 32) (v := ?_) (a' := ?_) impl_AreSounds.z21 rfl rfl (any_of HT_.out (by kernel_rfl)) (fun _ _ _ h => h) (Or.inl ⟨by rfl, ?_⟩) ?_ ?_
             pv_
             refine pure_ (i := 21) (N := some 33) (v := ?_) (a' := ?_) impl_AreSounds.z22 rfl rfl (any_of HT_.out (by kernel_rfl)) (fun _ _ _ h => h) (Or.inl ⟨by rfl, ?_⟩) ?_ ?_
             pv_
             refine pure_ (i := 22) (N := some 34) (v := ?_) (a' := ?_) impl_AreSounds.z23 rfl rfl (any_of HT_.out (by kernel_rfl)) (fun _ _ _ h => h) (Or.inl ⟨by rfl, ?_⟩) ?_ ?_
             pv_
             refine pure_ (i := 24) (N := some 36) (v := ?_) (a' := ?_) impl_AreSounds.z24 rfl rfl (any_of HT_.out (by kernel_rfl)) (fun _ _ _ h => h) (Or.inl ⟨by rfl, ?_⟩) ?_ ?_
             pv_
             refine take_ (i := 23) (N := some 35) (v := ?_) (a' := ?_) impl_AreSounds.z25 rfl rfl (take_ofW HT_.out HW_.out (by kernel_rfl)) (fun _ _ _ h => h) (Or.inl ⟨by rfl, ?_⟩) hHeld ?_ ?_
             rotate_left
             ·rintro w' ⟨s0, s1, s2, s3, s4, s5, s6, s7, s8, s9, s10, s11, s12, s13, s14, s15, s16, s17, s18, s19, s20, s21, s22, s23⟩
              go_simp
              with_reducible rfl
             rotate_left
             ·pw_
             refine take_ (i := 25) (N := some 37) (v := ?_) (a' := ?_) impl_AreSounds.z26 rfl rfl (take_ofW HT_.out HW_.out (by kernel_rfl)) (fun _ _ _ h => h) (Or.inl ⟨by rfl, ?_⟩) hHeld ?_ ?_
             rotate_left
             ·rintro w' ⟨s0, s1, s2, s3, s4, s5, s6, s7, s8, s9, s10, s11, s12, s13, s14, s15, s16, s17, s18, s19, s20, s21, s22, s23⟩
              go_simp
              with_reducible rfl
             rotate_left
             ·pw_
             refine pure_ (i := 26) (N := some 38) (v := ?_) (a' := ?_) impl_AreSounds.z27 rfl rfl (any_of HT_.out (by kernel_rfl)) (fun _ _ _ h => h) (Or.inl ⟨by rfl, ?_⟩) ?_ ?_
             pv_
             refine pure_ (i := 27) (N := some 39) (v := ?_) (a' := ?_) impl_AreSounds.z28 rfl rfl (any_of HT_.out (by kernel_rfl)) (fun _ _ _ h => h) (Or.inl ⟨by rfl, ?_⟩) ?_ ?_
             pv_
             refine pure_ (i := 28) (N := some 40) (v := ?_) (a' := ?_) impl_AreSounds.z29 rfl rfl (any_of HT_.out (by kernel_rfl)) (fun _ _ _ h => h) (Or.inl ⟨by rfl, ?_⟩) ?_ ?_
             pv_
             refine done_ (done_of HT_.out (by kernel_rfl)) ?_
             try go_wp2
             go_roundg k1
             case measure => have := HK1.out; omega
             case rel => exact ⟨(wrap64 (x7_1 + 1)), (by first | rfl | (simp; done) | (simp [*]; done)), H', ⟨by have := HK1.out; omega⟩, ⟨by repeat (first | (with_reducible first | exact HB.out | apply below_alloc | apply pw_below_drewN | apply below_drew1 | refine below_set ?_ GE209.out) | exact HB.out)⟩⟩
            ·rw [if_neg c13] at H
             have c13b0 : (Op.bytesLess (((rd_T58 l0 (ji10)).f0).toList) (((rd_T58 l0 x7_1).f0).toList)) = false := by simpa using c13
             clear c13
             obtain rfl := Option.some.inj H
             have p208 : 0 ≤ (x7_1 : Int) := of_decide_eq_true (by first | (with_reducible assumption) | assumption)
             have q208 : x7_1 < (l0.length : Int) := of_decide_eq_true (by first | (with_reducible assumption) | assumption)
             obtain ⟨ad208, A208_1, c208_1, e208, hx208_0, hx208_1, hx208_2, hx208_3, hx208_4, hx208_5, hl208_1, hi208_1⟩ := at_T58 HR0.out x7_1 p208 q208
             have hw208_5 := hx208_5
             have hw208_4 := hx208_4
             have hw208_3 := hx208_3
             have hw208_2 := hx208_2
             have hw208_1 := hx208_1
             have hw208_0 := hx208_0
             cases e208
             replace hx208_0 := (HB.out.cell (World.block_lt_of_cell? w _ hx208_0)).trans hx208_0
             replace hx208_1 := (HB.out.cell (World.block_lt_of_cell? w _ hx208_1)).trans hx208_1
             replace hx208_2 := (HB.out.cell (World.block_lt_of_cell? w _ hx208_2)).trans hx208_2
             replace hx208_3 := (HB.out.cell (World.block_lt_of_cell? w _ hx208_3)).trans hx208_3
             replace hx208_4 := (HB.out.cell (World.block_lt_of_cell? w _ hx208_4)).trans hx208_4
             replace hx208_5 := (HB.out.cell (World.block_lt_of_cell? w _ hx208_5)).trans hx208_5
             have HR208_1 := Aside0.mk hi208_1
             have HC208_1 := Aside0.mk hl208_1
             clear hi208_1 hl208_1
             replace p208 := eq_true p208
             replace q208 := eq_true q208
             try go_wp2_with (first | ((with_reducible refine gate_dst (N := 4) rfl ?_); (try (refine gate_guard (by rfl) ?_; dsimp only)); refine box_event ?hg (N := 4) ?hd (cs := #[.string (⟨#[]⟩ : ByteArray), .slice none 0 0, .float .f32 0, .float .f32 0, .float .f32 0, .float .f32 0]) (t := 58) ?hr ?_; (case hd => rfl); (case hg => rfl); (case hr => first | (go_simp; done) | (go_simp; rfl) | (simp (disch := omega) only [w64_id]; go_simp; done) | (go_simp; simp (disch := omega) only [w64_id]; done)); intro gb209 hg w19 hbox hb; have n0_ := Aside0.mk (below_step (by repeat (first | (with_reducible first | exact HB.out | apply below_alloc | apply pw_below_drewN | apply below_drew1) | exact HB.out)) hb); have n1_ := Aside0.mk (hbox); have n2_ := Aside0.mk ((by rw [hg]; exact (below_size (by repeat (first | (with_reducible first | exact HB.out | apply below_alloc | apply pw_below_drewN | apply below_drew1) | exact HB.out))) : w.heap.size ≤ gb209)); have n3_ := Aside0.mk ((by rw [hg]; exact (below_size (by repeat (first | (with_reducible first | exact HB.out | apply below_alloc | apply pw_below_drewN | apply below_drew1) | exact HB.out))) : w.heap.size ≤ gb209)); clear HB; have HB := n0_; have BK209 := n1_; have GW209 := n2_; have GE209 := n3_; clear n0_ n1_ n2_ n3_; clear hb hbox hg; have hcz20_0 : w19.cell? ⟨gb209, 0, none⟩ = some (.string (⟨#[]⟩ : ByteArray)) := (blk_cell BK209.out 0).trans rfl; have hcz20_1 : w19.cell? ⟨gb209, 1, none⟩ = some (.slice none 0 0) := (blk_cell BK209.out 1).trans rfl; have hcz20_2 : w19.cell? ⟨gb209, 2, none⟩ = some (.float .f32 0) := (blk_cell BK209.out 2).trans rfl; have hcz20_3 : w19.cell? ⟨gb209, 3, none⟩ = some (.float .f32 0) := (blk_cell BK209.out 3).trans rfl; have hcz20_4 : w19.cell? ⟨gb209, 4, none⟩ = some (.float .f32 0) := (blk_cell BK209.out 4).trans rfl; have hcz20_5 : w19.cell? ⟨gb209, 5, none⟩ = some (.float .f32 0) := (blk_cell BK209.out 5).trans rfl; have hfz20_0 := blk_frozen BK209.out 0; have hfz20_1 := blk_frozen BK209.out 1; have hfz20_2 := blk_frozen BK209.out 2; have hfz20_3 := blk_frozen BK209.out 3; have hfz20_4 := blk_frozen BK209.out 4; have hfz20_5 := blk_frozen BK209.out 5))
             have n0_ : Aside0 (((((((w19.setCell ⟨gb209, 0, none⟩ (.string ((rd_T58 l0 x7_1).f0))).setCell ⟨gb209, 1, none⟩ (.slice A208_1 ((rd_T58 l0 x7_1).f1).length c208_1)).setCell ⟨gb209, 2, none⟩ (.float .f32 ((rd_T58 l0 x7_1).f2))).setCell ⟨gb209, 3, none⟩ (.float .f32 ((rd_T58 l0 x7_1).f3))).setCell ⟨gb209, 4, none⟩ (.float .f32 ((rd_T58 l0 x7_1).f4))).setCell ⟨gb209, 5, none⟩ (.float .f32 ((rd_T58 l0 x7_1).f5))).heap[gb209]? = some (.cells #[.string ((rd_T58 l0 x7_1).f0), .slice A208_1 ((rd_T58 l0 x7_1).f1).length c208_1, .float .f32 ((rd_T58 l0 x7_1).f2), .float .f32 ((rd_T58 l0 x7_1).f3), .float .f32 ((rd_T58 l0 x7_1).f4), .float .f32 ((rd_T58 l0 x7_1).f5)] 58 (0, 0))) := ⟨by (with_reducible repeat (first | refine blk_drewN ?_ _ | refine blk_drew ?_ | refine blk_alloc ?_ _)); refine blk_put (cs := #[.string ((rd_T58 l0 x7_1).f0), .slice A208_1 ((rd_T58 l0 x7_1).f1).length c208_1, .float .f32 ((rd_T58 l0 x7_1).f2), .float .f32 ((rd_T58 l0 x7_1).f3), .float .f32 ((rd_T58 l0 x7_1).f4), .float .f32 0]) ?_ 5 _ rfl; (with_reducible repeat (first | refine blk_drewN ?_ _ | refine blk_drew ?_ | refine blk_alloc ?_ _)); refine blk_put (cs := #[.string ((rd_T58 l0 x7_1).f0), .slice A208_1 ((rd_T58 l0 x7_1).f1).length c208_1, .float .f32 ((rd_T58 l0 x7_1).f2), .float .f32 ((rd_T58 l0 x7_1).f3), .float .f32 0, .float .f32 0]) ?_ 4 _ rfl; (with_reducible repeat (first | refine blk_drewN ?_ _ | refine blk_drew ?_ | refine blk_alloc ?_ _)); refine blk_put (cs := #[.string ((rd_T58 l0 x7_1).f0), .slice A208_1 ((rd_T58 l0 x7_1).f1).length c208_1, .float .f32 ((rd_T58 l0 x7_1).f2), .float .f32 0, .float .f32 0, .float .f32 0]) ?_ 3 _ rfl; (with_reducible repeat (first | refine blk_drewN ?_ _ | refine blk_drew ?_ | refine blk_alloc ?_ _)); refine blk_put (cs := #[.string ((rd_T58 l0 x7_1).f0), .slice A208_1 ((rd_T58 l0 x7_1).f1).length c208_1, .float .f32 0, .float .f32 0, .float .f32 0, .float .f32 0]) ?_ 2 _ rfl; (with_reducible repeat (first | refine blk_drewN ?_ _ | refine blk_drew ?_ | refine blk_alloc ?_ _)); refine blk_put (cs := #[.string ((rd_T58 l0 x7_1).f0), .slice none 0 0, .float .f32 0, .float .f32 0, .float .f32 0, .float .f32 0]) ?_ 1 _ rfl; (with_reducible repeat (first | refine blk_drewN ?_ _ | refine blk_drew ?_ | refine blk_alloc ?_ _)); refine blk_put (cs := #[.string (⟨#[]⟩ : ByteArray), .slice none 0 0, .float .f32 0, .float .f32 0, .float .f32 0, .float .f32 0]) ?_ 0 _ rfl; (with_reducible repeat (first | refine blk_drewN ?_ _ | refine blk_drew ?_ | refine blk_alloc ?_ _)); exact BK209.out⟩
             have n1_ : Aside0 (Below w.heap.size w ((((((w19.setCell ⟨gb209, 0, none⟩ (.string ((rd_T58 l0 x7_1).f0))).setCell ⟨gb209, 1, none⟩ (.slice A208_1 ((rd_T58 l0 x7_1).f1).length c208_1)).setCell ⟨gb209, 2, none⟩ (.float .f32 ((rd_T58 l0 x7_1).f2))).setCell ⟨gb209, 3, none⟩ (.float .f32 ((rd_T58 l0 x7_1).f3))).setCell ⟨gb209, 4, none⟩ (.float .f32 ((rd_T58 l0 x7_1).f4))).setCell ⟨gb209, 5, none⟩ (.float .f32 ((rd_T58 l0 x7_1).f5)))) := ⟨by repeat (first | (with_reducible first | exact HB.out | apply below_alloc | apply pw_below_drewN | apply below_drew1 | refine below_set ?_ GE209.out) | exact HB.out)⟩
             (try clear BK209)
             (try clear HB)
             generalize ((((((w19.setCell ⟨gb209, 0, none⟩ (.string ((rd_T58 l0 x7_1).f0))).setCell ⟨gb209, 1, none⟩ (.slice A208_1 ((rd_T58 l0 x7_1).f1).length c208_1)).setCell ⟨gb209, 2, none⟩ (.float .f32 ((rd_T58 l0 x7_1).f2))).setCell ⟨gb209, 3, none⟩ (.float .f32 ((rd_T58 l0 x7_1).f3))).setCell ⟨gb209, 4, none⟩ (.float .f32 ((rd_T58 l0 x7_1).f4))).setCell ⟨gb209, 5, none⟩ (.float .f32 ((rd_T58 l0 x7_1).f5))) = w21 at n0_ n1_ ⊢
             have BK209 := n0_
             have HB := n1_
             clear n0_ n1_
             have n0_ := Aside0.mk (blk_drew BK209.out)
             have n1_ := Aside0.mk (below_drew1 HB.out)
             clear BK209
             clear HB
             have BK209 := n0_
             have HB := n1_
             clear n0_ n1_
             have p211 : 0 ≤ (0 : Int) := (by omega)
             have q211 : 0 < (l0.length : Int) := of_decide_eq_true (by first | (with_reducible assumption) | assumption)
             obtain ⟨ad211, A211_1, c211_1, e211, hx211_0, hx211_1, hx211_2, hx211_3, hx211_4, hx211_5, hl211_1, hi211_1⟩ := at_T58 HR0.out 0 p211 q211
             have hw211_5 := hx211_5
             (try rw [show ((0 : Int)).toNat = 0 from rfl] at hw211_5)
             (try rw [show 0 * 6 = 0 from rfl] at hw211_5)
             (try rw [Addr.add_zero'] at hw211_5)
             have hw211_4 := hx211_4
             (try rw [show ((0 : Int)).toNat = 0 from rfl] at hw211_4)
             (try rw [show 0 * 6 = 0 from rfl] at hw211_4)
             (try rw [Addr.add_zero'] at hw211_4)
             have hw211_3 := hx211_3
             (try rw [show ((0 : Int)).toNat = 0 from rfl] at hw211_3)
             (try rw [show 0 * 6 = 0 from rfl] at hw211_3)
             (try rw [Addr.add_zero'] at hw211_3)
             have hw211_2 := hx211_2
             (try rw [show ((0 : Int)).toNat = 0 from rfl] at hw211_2)
             (try rw [show 0 * 6 = 0 from rfl] at hw211_2)
             (try rw [Addr.add_zero'] at hw211_2)
             have hw211_1 := hx211_1
             (try rw [show ((0 : Int)).toNat = 0 from rfl] at hw211_1)
             (try rw [show 0 * 6 = 0 from rfl] at hw211_1)
             (try rw [Addr.add_zero'] at hw211_1)
             have hw211_0 := hx211_0
             (try rw [show ((0 : Int)).toNat = 0 from rfl] at hw211_0)
             (try rw [show 0 * 6 = 0 from rfl] at hw211_0)
             (try rw [Addr.add_zero'] at hw211_0)
             obtain rfl : ad208 = ad211 := (by injection e211)
             have qi211 : (0 < l0.length) = True := eq_true (by omega)
             (try rw [show ((0 : Int)).toNat = 0 from rfl] at hx211_0)
             (try rw [show 0 * 6 = 0 from rfl] at hx211_0)
             (try rw [Addr.add_zero'] at hx211_0)
             (try rw [show ((0 : Int)).toNat = 0 from rfl] at hx211_1)
             (try rw [show 0 * 6 = 0 from rfl] at hx211_1)
             (try rw [Addr.add_zero'] at hx211_1)
             (try rw [show ((0 : Int)).toNat = 0 from rfl] at hx211_2)
             (try rw [show 0 * 6 = 0 from rfl] at hx211_2)
             (try rw [Addr.add_zero'] at hx211_2)
             (try rw [show ((0 : Int)).toNat = 0 from rfl] at hx211_3)
             (try rw [show 0 * 6 = 0 from rfl] at hx211_3)
             (try rw [Addr.add_zero'] at hx211_3)
             (try rw [show ((0 : Int)).toNat = 0 from rfl] at hx211_4)
             (try rw [show 0 * 6 = 0 from rfl] at hx211_4)
             (try rw [Addr.add_zero'] at hx211_4)
             (try rw [show ((0 : Int)).toNat = 0 from rfl] at hx211_5)
             (try rw [show 0 * 6 = 0 from rfl] at hx211_5)
             (try rw [Addr.add_zero'] at hx211_5)
             replace hx211_0 := (HB.out.cell (World.block_lt_of_cell? w _ hx211_0)).trans hx211_0
             replace hx211_1 := (HB.out.cell (World.block_lt_of_cell? w _ hx211_1)).trans hx211_1
             replace hx211_2 := (HB.out.cell (World.block_lt_of_cell? w _ hx211_2)).trans hx211_2
             replace hx211_3 := (HB.out.cell (World.block_lt_of_cell? w _ hx211_3)).trans hx211_3
             replace hx211_4 := (HB.out.cell (World.block_lt_of_cell? w _ hx211_4)).trans hx211_4
             replace hx211_5 := (HB.out.cell (World.block_lt_of_cell? w _ hx211_5)).trans hx211_5
             have HR211_1 := Aside0.mk hi211_1
             have HC211_1 := Aside0.mk hl211_1
             clear hi211_1 hl211_1
             replace p211 := eq_true p211
             replace q211 := eq_true q211
             have p212 : 0 ≤ ((ji10) : Int) := of_decide_eq_true (by first | (with_reducible assumption) | assumption)
             have q212 : (ji10) < (l0.length : Int) := of_decide_eq_true (by first | (with_reducible assumption) | assumption)
             obtain ⟨ad212, A212_1, c212_1, e212, hx212_0, hx212_1, hx212_2, hx212_3, hx212_4, hx212_5, hl212_1, hi212_1⟩ := at_T58 HR0.out (ji10) p212 q212
             have hw212_5 := hx212_5
             have hw212_4 := hx212_4
             have hw212_3 := hx212_3
             have hw212_2 := hx212_2
             have hw212_1 := hx212_1
             have hw212_0 := hx212_0
             obtain rfl : ad208 = ad212 := (by injection e212)
             replace hx212_0 := (HB.out.cell (World.block_lt_of_cell? w _ hx212_0)).trans hx212_0
             replace hx212_1 := (HB.out.cell (World.block_lt_of_cell? w _ hx212_1)).trans hx212_1
             replace hx212_2 := (HB.out.cell (World.block_lt_of_cell? w _ hx212_2)).trans hx212_2
             replace hx212_3 := (HB.out.cell (World.block_lt_of_cell? w _ hx212_3)).trans hx212_3
             replace hx212_4 := (HB.out.cell (World.block_lt_of_cell? w _ hx212_4)).trans hx212_4
             replace hx212_5 := (HB.out.cell (World.block_lt_of_cell? w _ hx212_5)).trans hx212_5
             have HR212_1 := Aside0.mk hi212_1
             have HC212_1 := Aside0.mk hl212_1
             clear hi212_1 hl212_1
             replace p212 := eq_true p212
             replace q212 := eq_true q212
             refine start_ (n := 29) (S := fun w' => w'.cell? ⟨gb209, 0, none⟩ = some (.string ((rd_T58 l0 x7_1).f0)) ∧ w'.cell? ⟨gb209, 1, none⟩ = some (.slice A208_1 ((rd_T58 l0 x7_1).f1).length c208_1) ∧ w'.cell? ⟨gb209, 2, none⟩ = some (.float .f32 ((rd_T58 l0 x7_1).f2)) ∧ w'.cell? ⟨gb209, 3, none⟩ = some (.float .f32 ((rd_T58 l0 x7_1).f3)) ∧ w'.cell? ⟨gb209, 4, none⟩ = some (.float .f32 ((rd_T58 l0 x7_1).f4)) ∧ w'.cell? ⟨gb209, 5, none⟩ = some (.float .f32 ((rd_T58 l0 x7_1).f5)) ∧ w'.cell? (ad208.add ((x7_1).toNat * 6)) = some (.string ((rd_T58 l0 x7_1).f0)) ∧ w'.cell? ⟨(ad208.add ((x7_1).toNat * 6)).block, (ad208.add ((x7_1).toNat * 6)).off + 1, none⟩ = some (.slice A208_1 ((rd_T58 l0 x7_1).f1).length c208_1) ∧ w'.cell? ⟨(ad208.add ((x7_1).toNat * 6)).block, (ad208.add ((x7_1).toNat * 6)).off + 2, none⟩ = some (.float .f32 ((rd_T58 l0 x7_1).f2)) ∧ w'.cell? ⟨(ad208.add ((x7_1).toNat * 6)).block, (ad208.add ((x7_1).toNat * 6)).off + 3, none⟩ = some (.float .f32 ((rd_T58 l0 x7_1).f3)) ∧ w'.cell? ⟨(ad208.add ((x7_1).toNat * 6)).block, (ad208.add ((x7_1).toNat * 6)).off + 4, none⟩ = some (.float .f32 ((rd_T58 l0 x7_1).f4)) ∧ w'.cell? ⟨(ad208.add ((x7_1).toNat * 6)).block, (ad208.add ((x7_1).toNat * 6)).off + 5, none⟩ = some (.float .f32 ((rd_T58 l0 x7_1).f5)) ∧ w'.cell? ad208 = some (.string ((rd_T58 l0 0).f0)) ∧ w'.cell? ⟨ad208.block, ad208.off + 1, none⟩ = some (.slice A211_1 ((rd_T58 l0 0).f1).length c211_1) ∧ w'.cell? ⟨ad208.block, ad208.off + 2, none⟩ = some (.float .f32 ((rd_T58 l0 0).f2)) ∧ w'.cell? ⟨ad208.block, ad208.off + 3, none⟩ = some (.float .f32 ((rd_T58 l0 0).f3)) ∧ w'.cell? ⟨ad208.block, ad208.off + 4, none⟩ = some (.float .f32 ((rd_T58 l0 0).f4)) ∧ w'.cell? ⟨ad208.block, ad208.off + 5, none⟩ = some (.float .f32 ((rd_T58 l0 0).f5)) ∧ w'.cell? (ad208.add (((ji10)).toNat * 6)) = some (.string ((rd_T58 l0 (ji10)).f0)) ∧ w'.cell? ⟨(ad208.add (((ji10)).toNat * 6)).block, (ad208.add (((ji10)).toNat * 6)).off + 1, none⟩ = some (.slice A212_1 ((rd_T58 l0 (ji10)).f1).length c212_1) ∧ w'.cell? ⟨(ad208.add (((ji10)).toNat * 6)).block, (ad208.add (((ji10)).toNat * 6)).off + 2, none⟩ = some (.float .f32 ((rd_T58 l0 (ji10)).f2)) ∧ w'.cell? ⟨(ad208.add (((ji10)).toNat * 6)).block, (ad208.add (((ji10)).toNat * 6)).off + 3, none⟩ = some (.float .f32 ((rd_T58 l0 (ji10)).f3)) ∧ w'.cell? ⟨(ad208.add (((ji10)).toNat * 6)).block, (ad208.add (((ji10)).toNat * 6)).off + 4, none⟩ = some (.float .f32 ((rd_T58 l0 (ji10)).f4)) ∧ w'.cell? ⟨(ad208.add (((ji10)).toNat * 6)).block, (ad208.add (((ji10)).toNat * 6)).off + 5, none⟩ = some (.float .f32 ((rd_T58 l0 (ji10)).f5))) (ds := []) impl_AreSounds.z0 (by kernel_rfl) rfl rfl ⟨(blk_cell BK209.out 0).trans rfl, (blk_cell BK209.out 1).trans rfl, (blk_cell BK209.out 2).trans rfl, (blk_cell BK209.out 3).trans rfl, (blk_cell BK209.out 4).trans rfl, (blk_cell BK209.out 5).trans rfl, (cu_ HB.out hw208_0), (cu_ HB.out hw208_1), (cu_ HB.out hw208_2), (cu_ HB.out hw208_3), (cu_ HB.out hw208_4), (cu_ HB.out hw208_5), (cu_ HB.out hw211_0), (cu_ HB.out hw211_1), (cu_ HB.out hw211_2), (cu_ HB.out hw211_3), (cu_ HB.out hw211_4), (cu_ HB.out hw211_5), (cu_ HB.out hw212_0), (cu_ HB.out hw212_1), (cu_ HB.out hw212_2), (cu_ HB.out hw212_3), (cu_ HB.out hw212_4), (cu_ HB.out hw212_5)⟩ (fun hHeld => ?_); refine with_tabW impl_AreSounds.tab4 impl_AreSounds.bits4 (fun HT_ HW_ => ?_)
             generalize w21.drew = w22 at BK209 HB HR211_1 HR212_1 hx211_0 hx211_1 hx211_2 hx211_3 hx211_4 hx211_5 hx212_0 hx212_1 hx212_2 hx212_3 hx212_4 hx212_5 hHeld ⊢
             refine take_ (i := 0) (N := some 12) (v := ?_) (a' := ?_) impl_AreSounds.z1 rfl rfl (take_ofW HT_.out HW_.out (by kernel_rfl)) (fun _ _ _ h => h) (Or.inl ⟨by rfl, ?_⟩) hHeld ?_ ?_
             rotate_left
             ·rintro w' ⟨s0, s1, s2, s3, s4, s5, s6, s7, s8, s9, s10, s11, s12, s13, s14, s15, s16, s17, s18, s19, s20, s21, s22, s23⟩
              go_simp
              with_reducible rfl
             rotate_left
             ·pw_
             refine one_ (i := 1) (N := some 13) impl_AreSounds.z2 rfl rfl (one_of HT_.out (by kernel_rfl)) (by decide) (fun K hK => ?_)
             refine goes_ Tryd.func57 (by kernel_rfl) rfl #[.agg #[.string ((rd_T58 l0 x7_1).f0), .slice A208_1 ((rd_T58 l0 x7_1).f1).length c208_1, .float .f32 ((rd_T58 l0 x7_1).f2), .float .f32 ((rd_T58 l0 x7_1).f3), .float .f32 ((rd_T58 l0 x7_1).f4), .float .f32 ((rd_T58 l0 x7_1).f5)]] (by rfl) rfl rfl (by (try simp only [List.map_toArray, List.map_cons, List.map_nil]); first | done | rfl | (simp only [List.length_drop, List.length_take]; rfl)) ?_
             with_reducible refine (impl_ValidSound.calls k1 ((rd_T58 l0 x7_1).f0) _ _ ((rd_T58 l0 x7_1).f1) ((rd_T58 l0 x7_1).f2) ((rd_T58 l0 x7_1).f3) ((rd_T58 l0 x7_1).f4) ((rd_T58 l0 x7_1).f5) true _ ?side1 ?side2 A5.out).mono ?_
             (case side1 => repeat (first | exact (Kd.C_below HR208_1.out HB.out) | (with_reducible refine Kd.C_alloc ?_ _) | (with_reducible refine Kd.C_drewN ?_ _) | (with_reducible refine Kd.C_drew ?_)))
             (case side2 => exact HC208_1.out)
             rintro e w23 ⟨rfl, hb⟩
             refine ⟨_, rfl, ?_⟩
             have n0_ := Aside0.mk (blk_below (g := gb209) (o := .cells #[.string ((rd_T58 l0 x7_1).f0), .slice A208_1 ((rd_T58 l0 x7_1).f1).length c208_1, .float .f32 ((rd_T58 l0 x7_1).f2), .float .f32 ((rd_T58 l0 x7_1).f3), .float .f32 ((rd_T58 l0 x7_1).f4), .float .f32 ((rd_T58 l0 x7_1).f5)] 58 (0, 0)) (by (with_reducible repeat (first | refine blk_drewN ?_ _ | refine blk_drew ?_ | refine blk_alloc ?_ _)); exact BK209.out) hb)
             have n1_ := Aside0.mk (below_step (by repeat (first | (with_reducible first | exact HB.out | apply below_alloc | apply pw_below_drewN | apply below_drew1 | refine below_set ?_ GE209.out) | exact HB.out)) hb)
             clear BK209
             clear HB
             have BK209 := n0_
             have HB := n1_
             clear n0_ n1_
             (try clear hb)
             (try clear hb2)
             (try clear hk)
             (try clear hi)
             refine hK.out _ _ ⟨(blk_cell BK209.out 0).trans rfl, (blk_cell BK209.out 1).trans rfl, (blk_cell BK209.out 2).trans rfl, (blk_cell BK209.out 3).trans rfl, (blk_cell BK209.out 4).trans rfl, (blk_cell BK209.out 5).trans rfl, (cu_ HB.out hw208_0), (cu_ HB.out hw208_1), (cu_ HB.out hw208_2), (cu_ HB.out hw208_3), (cu_ HB.out hw208_4), (cu_ HB.out hw208_5), (cu_ HB.out hw211_0), (cu_ HB.out hw211_1), (cu_ HB.out hw211_2), (cu_ HB.out hw211_3), (cu_ HB.out hw211_4), (cu_ HB.out hw211_5), (cu_ HB.out hw212_0), (cu_ HB.out hw212_1), (cu_ HB.out hw212_2), (cu_ HB.out hw212_3), (cu_ HB.out hw212_4), (cu_ HB.out hw212_5)⟩ (fun hHeld => ?_)
             clear hK K
             refine norm_ (a' := ?_) ?_ ?_
             rotate_left
             ·show Act.put _ (some 13) _ = _
              pw_
             refine pure_ (i := 2) (N := some 14) (v := ?_) (a' := ?_) impl_AreSounds.z3 rfl rfl (any_of HT_.out (by kernel_rfl)) (fun _ _ _ h => h) (Or.inl ⟨by rfl, ?_⟩) ?_ ?_
             pv_
             refine pure_ (i := 3) (N := some 15) (v := ?_) (a' := ?_) impl_AreSounds.z4 rfl rfl (any_of HT_.out (by kernel_rfl)) (fun _ _ _ h => h) (Or.inl ⟨by rfl, ?_⟩) ?_ ?_
             pv_
             refine pure_ (i := 4) (N := some 16) (v := ?_) (a' := ?_) impl_AreSounds.z5 rfl rfl (any_of HT_.out (by kernel_rfl)) (fun _ _ _ h => h) (Or.inl ⟨by rfl, ?_⟩) ?_ ?_
             pv_
             refine pure_ (i := 7) (N := some 19) (v := ?_) (a' := ?_) impl_AreSounds.z6 rfl rfl (any_of HT_.out (by kernel_rfl)) (fun _ _ _ h => h) (Or.inl ⟨by rfl, ?_⟩) ?_ ?_
             pv_
             refine pure_ (i := 8) (N := some 20) (v := ?_) (a' := ?_) impl_AreSounds.z7 rfl rfl (any_of HT_.out (by kernel_rfl)) (fun _ _ _ h => h) (Or.inl ⟨by rfl, ?_⟩) ?_ ?_
             pv_
             refine pure_ (i := 9) (N := some 21) (v := ?_) (a' := ?_) impl_AreSounds.z8 rfl rfl (any_of HT_.out (by kernel_rfl)) (fun _ _ _ h => h) (Or.inl ⟨by rfl, ?_⟩) ?_ ?_
             pv_
             refine take_ (i := 5) (N := some 17) (v := ?_) (a' := ?_) impl_AreSounds.z9 rfl rfl (take_ofW HT_.out HW_.out (by kernel_rfl)) (fun _ _ _ h => h) (Or.inl ⟨by rfl, ?_⟩) hHeld ?_ ?_
             rotate_left
             ·rintro w' ⟨s0, s1, s2, s3, s4, s5, s6, s7, s8, s9, s10, s11, s12, s13, s14, s15, s16, s17, s18, s19, s20, s21, s22, s23⟩
              go_simp
              with_reducible rfl
             rotate_left
             ·pw_
             refine pure_ (i := 6) (N := some 18) (v := ?_) (a' := ?_) impl_AreSounds.z10 rfl rfl (any_of HT_.out (by kernel_rfl)) (fun _ _ _ h => h) (Or.inl ⟨by rfl, ?_⟩) ?_ ?_
             pv_
             refine take_ (i := 10) (N := some 22) (v := ?_) (a' := ?_) impl_AreSounds.z11 rfl rfl (take_ofW HT_.out HW_.out (by kernel_rfl)) (fun _ _ _ h => h) (Or.inl ⟨by rfl, ?_⟩) hHeld ?_ ?_
             rotate_left
             ·rintro w' ⟨s0, s1, s2, s3, s4, s5, s6, s7, s8, s9, s10, s11, s12, s13, s14, s15, s16, s17, s18, s19, s20, s21, s22, s23⟩
              go_simp
              with_reducible rfl
             rotate_left
             ·pw_
             refine pure_ (i := 11) (N := some 23) (v := ?_) (a' := ?_) impl_AreSounds.z12 rfl rfl (any_of HT_.out (by kernel_rfl)) (fun _ _ _ h => h) (Or.inl ⟨by rfl, ?_⟩) ?_ ?_
             pv_
             refine pure_ (i := 12) (N := some 24) (v := ?_) (a' := ?_) impl_AreSounds.z13 rfl rfl (any_of HT_.out (by kernel_rfl)) (fun _ _ _ h => h) (Or.inl ⟨by rfl, ?_⟩) ?_ ?_
             pv_
             refine pure_ (i := 13) (N := some 25) (v := ?_) (a' := ?_) impl_AreSounds.z14 rfl rfl (any_of HT_.out (by kernel_rfl)) (fun _ _ _ h => h) (Or.inl ⟨by rfl, ?_⟩) ?_ ?_
             pv_
             refine pure_ (i := 14) (N := some 26) (v := ?_) (a' := ?_) impl_AreSounds.z15 rfl rfl (any_of HT_.out (by kernel_rfl)) (fun _ _ _ h => h) (Or.inl ⟨by rfl, ?_⟩) ?_ ?_
             pv_
             refine pure_ (i := 15) (N := some 27) (v := ?_) (a' := ?_) impl_AreSounds.z16 rfl rfl (any_of HT_.out (by kernel_rfl)) (fun _ _ _ h => h) (Or.inl ⟨by rfl, ?_⟩) ?_ ?_
             pv_
             refine pure_ (i := 16) (N := some 28) (v := ?_) (a' := ?_) impl_AreSounds.z17 rfl rfl (any_of HT_.out (by kernel_rfl)) (fun _ _ _ h => h) (Or.inl ⟨by rfl, ?_⟩) ?_ ?_
             pv_
             refine pure_ (i := 17) (N := some 29) (v := ?_) (a' := ?_) impl_AreSounds.z18 rfl rfl (any_of HT_.out (by kernel_rfl)) (fun _ _ _ h => h) (Or.inl ⟨by rfl, ?_⟩) ?_ ?_
             pv_
             refine pure_ (i := 18) (N := some 30) (v := ?_) (a' := ?_) impl_AreSounds.z19 rfl rfl (any_of HT_.out (by kernel_rfl)) (fun _ _ _ h => h) (Or.inl ⟨by rfl, ?_⟩) ?_ ?_
             pv_
             refine pure_ (i := 19) (N := some 31) (v := ?_) (a' := ?_) impl_AreSounds.z20 rfl rfl (any_of HT_.out (by kernel_rfl)) (fun _ _ _ h => h) (Or.inl ⟨by rfl, ?_⟩) ?_ ?_
             pv_
             refine pure_ (i := 20) (N := some 32) (v := ?_) (a' := ?_) impl_AreSounds.z21 rfl rfl (any_of HT_.out (by kernel_rfl)) (fun _ _ _ h => h) (Or.inl ⟨by rfl, ?_⟩) ?_ ?_
             pv_
             refine pure_ (i := 21) (N := some 33) (v := ?_) (a' := ?_) impl_AreSounds.z22 rfl rfl (any_of HT_.out (by kernel_rfl)) (fun _ _ _ h => h) (Or.inl ⟨by rfl, ?_⟩) ?_ ?_
             pv_
             refine pure_ (i := 22) (N := some 34) (v := ?_) (a' := ?_) impl_AreSounds.z23 rfl rfl (any_of HT_.out (by kernel_rfl)) (fun _ _ _ h => h) (Or.inl ⟨by rfl, ?_⟩) ?_ ?_
             pv_
             refine pure_ (i := 24) (N := some 36) (v := ?_) (a' := ?_) impl_AreSounds.z24 rfl rfl (any_of HT_.out (by kernel_rfl)) (fun _ _ _ h => h) (Or.inl ⟨by rfl, ?_⟩) ?_ ?_
             pv_
             refine take_ (i := 23) (N := some 35) (v := ?_) (a' := ?_) impl_AreSounds.z25 rfl rfl (take_ofW HT_.out HW_.out (by kernel_rfl)) (fun _ _ _ h => h) (Or.inl ⟨by rfl, ?_⟩) hHeld ?_ ?_
             rotate_left
             ·rintro w' ⟨s0, s1, s2, s3, s4, s5, s6, s7, s8, s9, s10, s11, s12, s13, s14, s15, s16, s17, s18, s19, s20, s21, s22, s23⟩
              go_simp
              with_reducible rfl
             rotate_left
             ·pw_
             refine take_ (i := 25) (N := some 37) (v := ?_) (a' := ?_) impl_AreSounds.z26 rfl rfl (take_ofW HT_.out HW_.out (by kernel_rfl)) (fun _ _ _ h => h) (Or.inl ⟨by rfl, ?_⟩) hHeld ?_ ?_
             rotate_left
             ·rintro w' ⟨s0, s1, s2, s3, s4, s5, s6, s7, s8, s9, s10, s11, s12, s13, s14, s15, s16, s17, s18, s19, s20, s21, s22, s23⟩
              go_simp
              with_reducible rfl
             rotate_left
             ·pw_
             refine pure_ (i := 26) (N := some 38) (v := ?_) (a' := ?_) impl_AreSounds.z27 rfl rfl (any_of HT_.out (by kernel_rfl)) (fun _ _ _ h => h) (Or.inl ⟨by rfl, ?_⟩) ?_ ?_
             pv_
             refine pure_ (i := 27) (N := some 39) (v := ?_) (a' := ?_) impl_AreSounds.z28 rfl rfl (any_of HT_.out (by kernel_rfl)) (fun _ _ _ h => h) (Or.inl ⟨by rfl, ?_⟩) ?_ ?_
             pv_
             refine pure_ (i := 28) (N := some 40) (v := ?_) (a' := ?_) impl_AreSounds.z29 rfl rfl (any_of HT_.out (by kernel_rfl)) (fun _ _ _ h => h) (Or.inl ⟨by rfl, ?_⟩) ?_ ?_
             pv_
             refine done_ (done_of HT_.out (by kernel_rfl)) ?_
             try go_wp2
             go_ret
             exact ⟨by first | rfl | (simp [errW_none, errW_some] <;> rfl) | (simp only [← hji10]; first | rfl | (simp [errW_none, errW_some] <;> rfl)) | (simp [*, errW_none, errW_some] <;> rfl), by repeat (first | (with_reducible first | exact HB.out | apply below_alloc | apply pw_below_drewN | apply below_drew1 | refine below_set ?_ GE209.out) | exact HB.out)⟩
           ·rw [if_neg c12] at H
            exact absurd H (by simp)
          ·rw [if_neg c11] at H
           exact absurd H (by simp)
         ·rw [if_neg c9] at H
          have c9b0 : decide (0 < x7_1) = false := decide_eq_false c9
          clear c9
          have H' := Aside0.mk H
          clear H
          have p208 : 0 ≤ (x7_1 : Int) := of_decide_eq_true (by first | (with_reducible assumption) | assumption)
          have q208 : x7_1 < (l0.length : Int) := of_decide_eq_true (by first | (with_reducible assumption) | assumption)
          obtain ⟨ad208, A208_1, c208_1, e208, hx208_0, hx208_1, hx208_2, hx208_3, hx208_4, hx208_5, hl208_1, hi208_1⟩ := at_T58 HR0.out x7_1 p208 q208
          have hw208_5 := hx208_5
          have hw208_4 := hx208_4
          have hw208_3 := hx208_3
          have hw208_2 := hx208_2
          have hw208_1 := hx208_1
          have hw208_0 := hx208_0
          cases e208
          replace hx208_0 := (HB.out.cell (World.block_lt_of_cell? w _ hx208_0)).trans hx208_0
          replace hx208_1 := (HB.out.cell (World.block_lt_of_cell? w _ hx208_1)).trans hx208_1
          replace hx208_2 := (HB.out.cell (World.block_lt_of_cell? w _ hx208_2)).trans hx208_2
          replace hx208_3 := (HB.out.cell (World.block_lt_of_cell? w _ hx208_3)).trans hx208_3
          replace hx208_4 := (HB.out.cell (World.block_lt_of_cell? w _ hx208_4)).trans hx208_4
          replace hx208_5 := (HB.out.cell (World.block_lt_of_cell? w _ hx208_5)).trans hx208_5
          have HR208_1 := Aside0.mk hi208_1
          have HC208_1 := Aside0.mk hl208_1
          clear hi208_1 hl208_1
          replace p208 := eq_true p208
          replace q208 := eq_true q208
          try go_wp2_with (first | ((with_reducible refine gate_dst (N := 4) rfl ?_); (try (refine gate_guard (by rfl) ?_; dsimp only)); refine box_event ?hg (N := 4) ?hd (cs := #[.string (⟨#[]⟩ : ByteArray), .slice none 0 0, .float .f32 0, .float .f32 0, .float .f32 0, .float .f32 0]) (t := 58) ?hr ?_; (case hd => rfl); (case hg => rfl); (case hr => first | (go_simp; done) | (go_simp; rfl) | (simp (disch := omega) only [w64_id]; go_simp; done) | (go_simp; simp (disch := omega) only [w64_id]; done)); intro gb209 hg w24 hbox hb; have n0_ := Aside0.mk (below_step (by repeat (first | (with_reducible first | exact HB.out | apply below_alloc | apply pw_below_drewN | apply below_drew1) | exact HB.out)) hb); have n1_ := Aside0.mk (hbox); have n2_ := Aside0.mk ((by rw [hg]; exact (below_size (by repeat (first | (with_reducible first | exact HB.out | apply below_alloc | apply pw_below_drewN | apply below_drew1) | exact HB.out))) : w.heap.size ≤ gb209)); have n3_ := Aside0.mk ((by rw [hg]; exact (below_size (by repeat (first | (with_reducible first | exact HB.out | apply below_alloc | apply pw_below_drewN | apply below_drew1) | exact HB.out))) : w.heap.size ≤ gb209)); clear HB; have HB := n0_; have BK209 := n1_; have GW209 := n2_; have GE209 := n3_; clear n0_ n1_ n2_ n3_; clear hb hbox hg; have hcz25_0 : w24.cell? ⟨gb209, 0, none⟩ = some (.string (⟨#[]⟩ : ByteArray)) := (blk_cell BK209.out 0).trans rfl; have hcz25_1 : w24.cell? ⟨gb209, 1, none⟩ = some (.slice none 0 0) := (blk_cell BK209.out 1).trans rfl; have hcz25_2 : w24.cell? ⟨gb209, 2, none⟩ = some (.float .f32 0) := (blk_cell BK209.out 2).trans rfl; have hcz25_3 : w24.cell? ⟨gb209, 3, none⟩ = some (.float .f32 0) := (blk_cell BK209.out 3).trans rfl; have hcz25_4 : w24.cell? ⟨gb209, 4, none⟩ = some (.float .f32 0) := (blk_cell BK209.out 4).trans rfl; have hcz25_5 : w24.cell? ⟨gb209, 5, none⟩ = some (.float .f32 0) := (blk_cell BK209.out 5).trans rfl; have hfz25_0 := blk_frozen BK209.out 0; have hfz25_1 := blk_frozen BK209.out 1; have hfz25_2 := blk_frozen BK209.out 2; have hfz25_3 := blk_frozen BK209.out 3; have hfz25_4 := blk_frozen BK209.out 4; have hfz25_5 := blk_frozen BK209.out 5))
          have n0_ : Aside0 (((((((w24.setCell ⟨gb209, 0, none⟩ (.string ((rd_T58 l0 x7_1).f0))).setCell ⟨gb209, 1, none⟩ (.slice A208_1 ((rd_T58 l0 x7_1).f1).length c208_1)).setCell ⟨gb209, 2, none⟩ (.float .f32 ((rd_T58 l0 x7_1).f2))).setCell ⟨gb209, 3, none⟩ (.float .f32 ((rd_T58 l0 x7_1).f3))).setCell ⟨gb209, 4, none⟩ (.float .f32 ((rd_T58 l0 x7_1).f4))).setCell ⟨gb209, 5, none⟩ (.float .f32 ((rd_T58 l0 x7_1).f5))).heap[gb209]? = some (.cells #[.string ((rd_T58 l0 x7_1).f0), .slice A208_1 ((rd_T58 l0 x7_1).f1).length c208_1, .float .f32 ((rd_T58 l0 x7_1).f2), .float .f32 ((rd_T58 l0 x7_1).f3), .float .f32 ((rd_T58 l0 x7_1).f4), .float .f32 ((rd_T58 l0 x7_1).f5)] 58 (0, 0))) := ⟨by (with_reducible repeat (first | refine blk_drewN ?_ _ | refine blk_drew ?_ | refine blk_alloc ?_ _)); refine blk_put (cs := #[.string ((rd_T58 l0 x7_1).f0), .slice A208_1 ((rd_T58 l0 x7_1).f1).length c208_1, .float .f32 ((rd_T58 l0 x7_1).f2), .float .f32 ((rd_T58 l0 x7_1).f3), .float .f32 ((rd_T58 l0 x7_1).f4), .float .f32 0]) ?_ 5 _ rfl; (with_reducible repeat (first | refine blk_drewN ?_ _ | refine blk_drew ?_ | refine blk_alloc ?_ _)); refine blk_put (cs := #[.string ((rd_T58 l0 x7_1).f0), .slice A208_1 ((rd_T58 l0 x7_1).f1).length c208_1, .float .f32 ((rd_T58 l0 x7_1).f2), .float .f32 ((rd_T58 l0 x7_1).f3), .float .f32 0, .float .f32 0]) ?_ 4 _ rfl; (with_reducible repeat (first | refine blk_drewN ?_ _ | refine blk_drew ?_ | refine blk_alloc ?_ _)); refine blk_put (cs := #[.string ((rd_T58 l0 x7_1).f0), .slice A208_1 ((rd_T58 l0 x7_1).f1).length c208_1, .float .f32 ((rd_T58 l0 x7_1).f2), .float .f32 0, .float .f32 0, .float .f32 0]) ?_ 3 _ rfl; (with_reducible repeat (first | refine blk_drewN ?_ _ | refine blk_drew ?_ | refine blk_alloc ?_ _)); refine blk_put (cs := #[.string ((rd_T58 l0 x7_1).f0), .slice A208_1 ((rd_T58 l0 x7_1).f1).length c208_1, .float .f32 0, .float .f32 0, .float .f32 0, .float .f32 0]) ?_ 2 _ rfl; (with_reducible repeat (first | refine blk_drewN ?_ _ | refine blk_drew ?_ | refine blk_alloc ?_ _)); refine blk_put (cs := #[.string ((rd_T58 l0 x7_1).f0), .slice none 0 0, .float .f32 0, .float .f32 0, .float .f32 0, .float .f32 0]) ?_ 1 _ rfl; (with_reducible repeat (first | refine blk_drewN ?_ _ | refine blk_drew ?_ | refine blk_alloc ?_ _)); refine blk_put (cs := #[.string (⟨#[]⟩ : ByteArray), .slice none 0 0, .float .f32 0, .float .f32 0, .float .f32 0, .float .f32 0]) ?_ 0 _ rfl; (with_reducible repeat (first | refine blk_drewN ?_ _ | refine blk_drew ?_ | refine blk_alloc ?_ _)); exact BK209.out⟩
          have n1_ : Aside0 (Below w.heap.size w ((((((w24.setCell ⟨gb209, 0, none⟩ (.string ((rd_T58 l0 x7_1).f0))).setCell ⟨gb209, 1, none⟩ (.slice A208_1 ((rd_T58 l0 x7_1).f1).length c208_1)).setCell ⟨gb209, 2, none⟩ (.float .f32 ((rd_T58 l0 x7_1).f2))).setCell ⟨gb209, 3, none⟩ (.float .f32 ((rd_T58 l0 x7_1).f3))).setCell ⟨gb209, 4, none⟩ (.float .f32 ((rd_T58 l0 x7_1).f4))).setCell ⟨gb209, 5, none⟩ (.float .f32 ((rd_T58 l0 x7_1).f5)))) := ⟨by repeat (first | (with_reducible first | exact HB.out | apply below_alloc | apply pw_below_drewN | apply below_drew1 | refine below_set ?_ GE209.out) | exact HB.out)⟩
          (try clear BK209)
          (try clear HB)
          generalize ((((((w24.setCell ⟨gb209, 0, none⟩ (.string ((rd_T58 l0 x7_1).f0))).setCell ⟨gb209, 1, none⟩ (.slice A208_1 ((rd_T58 l0 x7_1).f1).length c208_1)).setCell ⟨gb209, 2, none⟩ (.float .f32 ((rd_T58 l0 x7_1).f2))).setCell ⟨gb209, 3, none⟩ (.float .f32 ((rd_T58 l0 x7_1).f3))).setCell ⟨gb209, 4, none⟩ (.float .f32 ((rd_T58 l0 x7_1).f4))).setCell ⟨gb209, 5, none⟩ (.float .f32 ((rd_T58 l0 x7_1).f5))) = w26 at n0_ n1_ ⊢
          have BK209 := n0_
          have HB := n1_
          clear n0_ n1_
          have n0_ := Aside0.mk (blk_drew BK209.out)
          have n1_ := Aside0.mk (below_drew1 HB.out)
          clear BK209
          clear HB
          have BK209 := n0_
          have HB := n1_
          clear n0_ n1_
          have p211 : 0 ≤ (0 : Int) := (by omega)
          have q211 : 0 < (l0.length : Int) := of_decide_eq_true (by first | (with_reducible assumption) | assumption)
          obtain ⟨ad211, A211_1, c211_1, e211, hx211_0, hx211_1, hx211_2, hx211_3, hx211_4, hx211_5, hl211_1, hi211_1⟩ := at_T58 HR0.out 0 p211 q211
          have hw211_5 := hx211_5
          (try rw [show ((0 : Int)).toNat = 0 from rfl] at hw211_5)
          (try rw [show 0 * 6 = 0 from rfl] at hw211_5)
          (try rw [Addr.add_zero'] at hw211_5)
          have hw211_4 := hx211_4
          (try rw [show ((0 : Int)).toNat = 0 from rfl] at hw211_4)
          (try rw [show 0 * 6 = 0 from rfl] at hw211_4)
          (try rw [Addr.add_zero'] at hw211_4)
          have hw211_3 := hx211_3
          (try rw [show ((0 : Int)).toNat = 0 from rfl] at hw211_3)
          (try rw [show 0 * 6 = 0 from rfl] at hw211_3)
          (try rw [Addr.add_zero'] at hw211_3)
          have hw211_2 := hx211_2
          (try rw [show ((0 : Int)).toNat = 0 from rfl] at hw211_2)
          (try rw [show 0 * 6 = 0 from rfl] at hw211_2)
          (try rw [Addr.add_zero'] at hw211_2)
          have hw211_1 := hx211_1
          (try rw [show ((0 : Int)).toNat = 0 from rfl] at hw211_1)
          (try rw [show 0 * 6 = 0 from rfl] at hw211_1)
          (try rw [Addr.add_zero'] at hw211_1)
          have hw211_0 := hx211_0
          (try rw [show ((0 : Int)).toNat = 0 from rfl] at hw211_0)
          (try rw [show 0 * 6 = 0 from rfl] at hw211_0)
          (try rw [Addr.add_zero'] at hw211_0)
          obtain rfl : ad208 = ad211 := (by injection e211)
          have qi211 : (0 < l0.length) = True := eq_true (by omega)
          (try rw [show ((0 : Int)).toNat = 0 from rfl] at hx211_0)
          (try rw [show 0 * 6 = 0 from rfl] at hx211_0)
          (try rw [Addr.add_zero'] at hx211_0)
          (try rw [show ((0 : Int)).toNat = 0 from rfl] at hx211_1)
          (try rw [show 0 * 6 = 0 from rfl] at hx211_1)
          (try rw [Addr.add_zero'] at hx211_1)
          (try rw [show ((0 : Int)).toNat = 0 from rfl] at hx211_2)
          (try rw [show 0 * 6 = 0 from rfl] at hx211_2)
          (try rw [Addr.add_zero'] at hx211_2)
          (try rw [show ((0 : Int)).toNat = 0 from rfl] at hx211_3)
          (try rw [show 0 * 6 = 0 from rfl] at hx211_3)
          (try rw [Addr.add_zero'] at hx211_3)
          (try rw [show ((0 : Int)).toNat = 0 from rfl] at hx211_4)
          (try rw [show 0 * 6 = 0 from rfl] at hx211_4)
          (try rw [Addr.add_zero'] at hx211_4)
          (try rw [show ((0 : Int)).toNat = 0 from rfl] at hx211_5)
          (try rw [show 0 * 6 = 0 from rfl] at hx211_5)
          (try rw [Addr.add_zero'] at hx211_5)
          replace hx211_0 := (HB.out.cell (World.block_lt_of_cell? w _ hx211_0)).trans hx211_0
          replace hx211_1 := (HB.out.cell (World.block_lt_of_cell? w _ hx211_1)).trans hx211_1
          replace hx211_2 := (HB.out.cell (World.block_lt_of_cell? w _ hx211_2)).trans hx211_2
          replace hx211_3 := (HB.out.cell (World.block_lt_of_cell? w _ hx211_3)).trans hx211_3
          replace hx211_4 := (HB.out.cell (World.block_lt_of_cell? w _ hx211_4)).trans hx211_4
          replace hx211_5 := (HB.out.cell (World.block_lt_of_cell? w _ hx211_5)).trans hx211_5
          have HR211_1 := Aside0.mk hi211_1
          have HC211_1 := Aside0.mk hl211_1
          clear hi211_1 hl211_1
          replace p211 := eq_true p211
          replace q211 := eq_true q211
          refine start_ (n := 29) (S := fun w' => w'.cell? ⟨gb209, 0, none⟩ = some (.string ((rd_T58 l0 x7_1).f0)) ∧ w'.cell? ⟨gb209, 1, none⟩ = some (.slice A208_1 ((rd_T58 l0 x7_1).f1).length c208_1) ∧ w'.cell? ⟨gb209, 2, none⟩ = some (.float .f32 ((rd_T58 l0 x7_1).f2)) ∧ w'.cell? ⟨gb209, 3, none⟩ = some (.float .f32 ((rd_T58 l0 x7_1).f3)) ∧ w'.cell? ⟨gb209, 4, none⟩ = some (.float .f32 ((rd_T58 l0 x7_1).f4)) ∧ w'.cell? ⟨gb209, 5, none⟩ = some (.float .f32 ((rd_T58 l0 x7_1).f5)) ∧ w'.cell? (ad208.add ((x7_1).toNat * 6)) = some (.string ((rd_T58 l0 x7_1).f0)) ∧ w'.cell? ⟨(ad208.add ((x7_1).toNat * 6)).block, (ad208.add ((x7_1).toNat * 6)).off + 1, none⟩ = some (.slice A208_1 ((rd_T58 l0 x7_1).f1).length c208_1) ∧ w'.cell? ⟨(ad208.add ((x7_1).toNat * 6)).block, (ad208.add ((x7_1).toNat * 6)).off + 2, none⟩ = some (.float .f32 ((rd_T58 l0 x7_1).f2)) ∧ w'.cell? ⟨(ad208.add ((x7_1).toNat * 6)).block, (ad208.add ((x7_1).toNat * 6)).off + 3, none⟩ = some (.float .f32 ((rd_T58 l0 x7_1).f3)) ∧ w'.cell? ⟨(ad208.add ((x7_1).toNat * 6)).block, (ad208.add ((x7_1).toNat * 6)).off + 4, none⟩ = some (.float .f32 ((rd_T58 l0 x7_1).f4)) ∧ w'.cell? ⟨(ad208.add ((x7_1).toNat * 6)).block, (ad208.add ((x7_1).toNat * 6)).off + 5, none⟩ = some (.float .f32 ((rd_T58 l0 x7_1).f5)) ∧ w'.cell? ad208 = some (.string ((rd_T58 l0 0).f0)) ∧ w'.cell? ⟨ad208.block, ad208.off + 1, none⟩ = some (.slice A211_1 ((rd_T58 l0 0).f1).length c211_1) ∧ w'.cell? ⟨ad208.block, ad208.off + 2, none⟩ = some (.float .f32 ((rd_T58 l0 0).f2)) ∧ w'.cell? ⟨ad208.block, ad208.off + 3, none⟩ = some (.float .f32 ((rd_T58 l0 0).f3)) ∧ w'.cell? ⟨ad208.block, ad208.off + 4, none⟩ = some (.float .f32 ((rd_T58 l0 0).f4)) ∧ w'.cell? ⟨ad208.block, ad208.off + 5, none⟩ = some (.float .f32 ((rd_T58 l0 0).f5))) (ds := []) impl_AreSounds.z0 (by kernel_rfl) rfl rfl ⟨(blk_cell BK209.out 0).trans rfl, (blk_cell BK209.out 1).trans rfl, (blk_cell BK209.out 2).trans rfl, (blk_cell BK209.out 3).trans rfl, (blk_cell BK209.out 4).trans rfl, (blk_cell BK209.out 5).trans rfl, (cu_ HB.out hw208_0), (cu_ HB.out hw208_1), (cu_ HB.out hw208_2), (cu_ HB.out hw208_3), (cu_ HB.out hw208_4), (cu_ HB.out hw208_5), (cu_ HB.out hw211_0), (cu_ HB.out hw211_1), (cu_ HB.out hw211_2), (cu_ HB.out hw211_3), (cu_ HB.out hw211_4), (cu_ HB.out hw211_5)⟩ (fun hHeld => ?_); refine with_tabW impl_AreSounds.tab4 impl_AreSounds.bits4 (fun HT_ HW_ => ?_)
          generalize w26.drew = w27 at BK209 HB HR211_1 hx211_0 hx211_1 hx211_2 hx211_3 hx211_4 hx211_5 hHeld ⊢
          refine take_ (i := 0) (N := some 12) (v := ?_) (a' := ?_) impl_AreSounds.z1 rfl rfl (take_ofW HT_.out HW_.out (by kernel_rfl)) (fun _ _ _ h => h) (Or.inl ⟨by rfl, ?_⟩) hHeld ?_ ?_
          rotate_left
          ·rintro w' ⟨s0, s1, s2, s3, s4, s5, s6, s7, s8, s9, s10, s11, s12, s13, s14, s15, s16, s17⟩
           go_simp
           with_reducible rfl
          rotate_left
          ·pw_
          refine one_ (i := 1) (N := some 13) impl_AreSounds.z2 rfl rfl (one_of HT_.out (by kernel_rfl)) (by decide) (fun K hK => ?_)
          refine goes_ Tryd.func57 (by kernel_rfl) rfl #[.agg #[.string ((rd_T58 l0 x7_1).f0), .slice A208_1 ((rd_T58 l0 x7_1).f1).length c208_1, .float .f32 ((rd_T58 l0 x7_1).f2), .float .f32 ((rd_T58 l0 x7_1).f3), .float .f32 ((rd_T58 l0 x7_1).f4), .float .f32 ((rd_T58 l0 x7_1).f5)]] (by rfl) rfl rfl (by (try simp only [List.map_toArray, List.map_cons, List.map_nil]); first | done | rfl | (simp only [List.length_drop, List.length_take]; rfl)) ?_
          with_reducible refine (impl_ValidSound.calls k1 ((rd_T58 l0 x7_1).f0) _ _ ((rd_T58 l0 x7_1).f1) ((rd_T58 l0 x7_1).f2) ((rd_T58 l0 x7_1).f3) ((rd_T58 l0 x7_1).f4) ((rd_T58 l0 x7_1).f5) true _ ?side1 ?side2 A5.out).mono ?_
          (case side1 => repeat (first | exact (Kd.C_below HR208_1.out HB.out) | (with_reducible refine Kd.C_alloc ?_ _) | (with_reducible refine Kd.C_drewN ?_ _) | (with_reducible refine Kd.C_drew ?_)))
          (case side2 => exact HC208_1.out)
          rintro e w28 ⟨rfl, hb⟩
          refine ⟨_, rfl, ?_⟩
          have n0_ := Aside0.mk (blk_below (g := gb209) (o := .cells #[.string ((rd_T58 l0 x7_1).f0), .slice A208_1 ((rd_T58 l0 x7_1).f1).length c208_1, .float .f32 ((rd_T58 l0 x7_1).f2), .float .f32 ((rd_T58 l0 x7_1).f3), .float .f32 ((rd_T58 l0 x7_1).f4), .float .f32 ((rd_T58 l0 x7_1).f5)] 58 (0, 0)) (by (with_reducible repeat (first | refine blk_drewN ?_ _ | refine blk_drew ?_ | refine blk_alloc ?_ _)); exact BK209.out) hb)
          have n1_ := Aside0.mk (below_step (by repeat (first | (with_reducible first | exact HB.out | apply below_alloc | apply pw_below_drewN | apply below_drew1 | refine below_set ?_ GE209.out) | exact HB.out)) hb)
          clear BK209
          clear HB
          have BK209 := n0_
          have HB := n1_
          clear n0_ n1_
          (try clear hb)
          (try clear hb2)
          (try clear hk)
          (try clear hi)
          refine hK.out _ _ ⟨(blk_cell BK209.out 0).trans rfl, (blk_cell BK209.out 1).trans rfl, (blk_cell BK209.out 2).trans rfl, (blk_cell BK209.out 3).trans rfl, (blk_cell BK209.out 4).trans rfl, (blk_cell BK209.out 5).trans rfl, (cu_ HB.out hw208_0), (cu_ HB.out hw208_1), (cu_ HB.out hw208_2), (cu_ HB.out hw208_3), (cu_ HB.out hw208_4), (cu_ HB.out hw208_5), (cu_ HB.out hw211_0), (cu_ HB.out hw211_1), (cu_ HB.out hw211_2), (cu_ HB.out hw211_3), (cu_ HB.out hw211_4), (cu_ HB.out hw211_5)⟩ (fun hHeld => ?_)
          clear hK K
          refine norm_ (a' := ?_) ?_ ?_
          rotate_left
          ·show Act.put _ (some 13) _ = _
           pw_
          refine pure_ (i := 2) (N := some 14) (v := ?_) (a' := ?_) impl_AreSounds.z3 rfl rfl (any_of HT_.out (by kernel_rfl)) (fun _ _ _ h => h) (Or.inl ⟨by rfl, ?_⟩) ?_ ?_
          pv_
          refine pure_ (i := 3) (N := some 15) (v := ?_) (a' := ?_) impl_AreSounds.z4 rfl rfl (any_of HT_.out (by kernel_rfl)) (fun _ _ _ h => h) (Or.inl ⟨by rfl, ?_⟩) ?_ ?_
          pv_
          refine pure_ (i := 4) (N := some 16) (v := ?_) (a' := ?_) impl_AreSounds.z5 rfl rfl (any_of HT_.out (by kernel_rfl)) (fun _ _ _ h => h) (Or.inl ⟨by rfl, ?_⟩) ?_ ?_
          pv_
          refine pure_ (i := 7) (N := some 19) (v := ?_) (a' := ?_) impl_AreSounds.z6 rfl rfl (any_of HT_.out (by kernel_rfl)) (fun _ _ _ h => h) (Or.inl ⟨by rfl, ?_⟩) ?_ ?_
          pv_
          refine pure_ (i := 8) (N := some 20) (v := ?_) (a' := ?_) impl_AreSounds.z7 rfl rfl (any_of HT_.out (by kernel_rfl)) (fun _ _ _ h => h) (Or.inl ⟨by rfl, ?_⟩) ?_ ?_
          pv_
          refine pure_ (i := 9) (N := some 21) (v := ?_) (a' := ?_) impl_AreSounds.z8 rfl rfl (any_of HT_.out (by kernel_rfl)) (fun _ _ _ h => h) (Or.inl ⟨by rfl, ?_⟩) ?_ ?_
          pv_
          refine take_ (i := 5) (N := some 17) (v := ?_) (a' := ?_) impl_AreSounds.z9 rfl rfl (take_ofW HT_.out HW_.out (by kernel_rfl)) (fun _ _ _ h => h) (Or.inl ⟨by rfl, ?_⟩) hHeld ?_ ?_
          rotate_left
          ·rintro w' ⟨s0, s1, s2, s3, s4, s5, s6, s7, s8, s9, s10, s11, s12, s13, s14, s15, s16, s17⟩
           go_simp
           with_reducible rfl
          rotate_left
          ·pw_
          refine pure_ (i := 6) (N := some 18) (v := ?_) (a' := ?_) impl_AreSounds.z10 rfl rfl (any_of HT_.out (by kernel_rfl)) (fun _ _ _ h => h) (Or.inl ⟨by rfl, ?_⟩) ?_ ?_
          pv_
          refine take_ (i := 10) (N := some 22) (v := ?_) (a' := ?_) impl_AreSounds.z11 rfl rfl (take_ofW HT_.out HW_.out (by kernel_rfl)) (fun _ _ _ h => h) (Or.inl ⟨by rfl, ?_⟩) hHeld ?_ ?_
          rotate_left
          ·rintro w' ⟨s0, s1, s2, s3, s4, s5, s6, s7, s8, s9, s10, s11, s12, s13, s14, s15, s16, s17⟩
           go_simp
           with_reducible rfl
          rotate_left
          ·pw_
          refine pure_ (i := 11) (N := some 23) (v := ?_) (a' := ?_) impl_AreSounds.z12 rfl rfl (any_of HT_.out (by kernel_rfl)) (fun _ _ _ h => h) (Or.inl ⟨by rfl, ?_⟩) ?_ ?_
          pv_
          refine pure_ (i := 12) (N := some 24) (v := ?_) (a' := ?_) impl_AreSounds.z13 rfl rfl (any_of HT_.out (by kernel_rfl)) (fun _ _ _ h => h) (Or.inl ⟨by rfl, ?_⟩) ?_ ?_
          pv_
          refine pure_ (i := 13) (N := some 25) (v := ?_) (a' := ?_) impl_AreSounds.z14 rfl rfl (any_of HT_.out (by kernel_rfl)) (fun _ _ _ h => h) (Or.inl ⟨by rfl, ?_⟩) ?_ ?_
          pv_
          refine pure_ (i := 14) (N := some 26) (v := ?_) (a' := ?_) impl_AreSounds.z15 rfl rfl (any_of HT_.out (by kernel_rfl)) (fun _ _ _ h => h) (Or.inl ⟨by rfl, ?_⟩) ?_ ?_
          pv_
          refine pure_ (i := 15) (N := some 27) (v := ?_) (a' := ?_) impl_AreSounds.z16 rfl rfl (any_of HT_.out (by kernel_rfl)) (fun _ _ _ h => h) (Or.inl ⟨by rfl, ?_⟩) ?_ ?_
          pv_
          refine pure_ (i := 16) (N := some 28) (v := ?_) (a' := ?_) impl_AreSounds.z17 rfl rfl (any_of HT_.out (by kernel_rfl)) (fun _ _ _ h => h) (Or.inl ⟨by rfl, ?_⟩) ?_ ?_
          pv_
          refine pure_ (i := 17) (N := some 29) (v := ?_) (a' := ?_) impl_AreSounds.z18 rfl rfl (any_of HT_.out (by kernel_rfl)) (fun _ _ _ h => h) (Or.inl ⟨by rfl, ?_⟩) ?_ ?_
          pv_
          refine pure_ (i := 18) (N := some 30) (v := undef) (a' := ?_) impl_AreSounds.z19 rfl rfl (any_of HT_.out (by kernel_rfl)) (fun _ _ _ h => h) (Or.inr ⟨by rfl, rfl⟩) ?_ ?_
          rotate_left
          ·pw_
          refine pure_ (i := 19) (N := some 31) (v := undef) (a' := ?_) impl_AreSounds.z20 rfl rfl (any_of HT_.out (by kernel_rfl)) (fun _ _ _ h => h) (Or.inr ⟨by rfl, rfl⟩) ?_ ?_
          rotate_left
          ·pw_
          refine pure_ (i := 20) (N := some 32) (v := undef) (a' := ?_) impl_AreSounds.z21 rfl rfl (any_of HT_.out (by kernel_rfl)) (fun _ _ _ h => h) (Or.inr ⟨by rfl, rfl⟩) ?_ ?_
          rotate_left
          ·pw_
          refine pure_ (i := 21) (N := some 33) (v := undef) (a' := ?_) impl_AreSounds.z22 rfl rfl (any_of HT_.out (by kernel_rfl)) (fun _ _ _ h => h) (Or.inr ⟨by rfl, rfl⟩) ?_ ?_
          rotate_left
          ·pw_
          refine pure_ (i := 22) (N := some 34) (v := undef) (a' := ?_) impl_AreSounds.z23 rfl rfl (any_of HT_.out (by kernel_rfl)) (fun _ _ _ h => h) (Or.inr ⟨by rfl, rfl⟩) ?_ ?_
          rotate_left
          ·pw_
          refine pure_ (i := 23) (N := some 35) (v := undef) (a' := ?_) impl_AreSounds.z30 rfl rfl (any_of HT_.out (by kernel_rfl)) (fun _ _ _ h => h) (Or.inr ⟨by rfl, rfl⟩) ?_ ?_
          rotate_left
          ·pw_
          refine pure_ (i := 24) (N := some 36) (v := undef) (a' := ?_) impl_AreSounds.z25 rfl rfl (any_of HT_.out (by kernel_rfl)) (fun _ _ _ h => h) (Or.inr ⟨by rfl, rfl⟩) ?_ ?_
          rotate_left
          ·pw_
          refine pure_ (i := 25) (N := some 37) (v := undef) (a' := ?_) impl_AreSounds.z26 rfl rfl (any_of HT_.out (by kernel_rfl)) (fun _ _ _ h => h) (Or.inr ⟨by rfl, rfl⟩) ?_ ?_
          rotate_left
          ·pw_
          refine pure_ (i := 26) (N := some 38) (v := undef) (a' := ?_) impl_AreSounds.z27 rfl rfl (any_of HT_.out (by kernel_rfl)) (fun _ _ _ h => h) (Or.inr ⟨by rfl, rfl⟩) ?_ ?_
          rotate_left
          ·pw_
          refine pure_ (i := 27) (N := some 39) (v := ?_) (a' := ?_) impl_AreSounds.z28 rfl rfl (any_of HT_.out (by kernel_rfl)) (fun _ _ _ h => h) (Or.inl ⟨by rfl, ?_⟩) ?_ ?_
          pv_
          refine pure_ (i := 28) (N := some 40) (v := ?_) (a' := ?_) impl_AreSounds.z29 rfl rfl (any_of HT_.out (by kernel_rfl)) (fun _ _ _ h => h) (Or.inl ⟨by rfl, ?_⟩) ?_ ?_
          pv_
          refine done_ (done_of HT_.out (by kernel_rfl)) ?_
          try go_wp2
          go_roundg k1
          case measure => have := HK1.out; omega
          case rel => exact ⟨(wrap64 (x7_1 + 1)), (by first | rfl | (simp; done) | (simp [*]; done)), H', ⟨by have := HK1.out; omega⟩, ⟨by repeat (first | (with_reducible first | exact HB.out | apply below_alloc | apply pw_below_drewN | apply below_drew1 | refine below_set ?_ GE209.out) | exact HB.out)⟩⟩
        ·rw [if_neg c8] at H
         have c8b0 : ((((rd_T58 l0 x7_1).f1).length : Int) == (((rd_T58 l0 0).f1).length : Int)) = false := beq_eq_false_iff_ne.mpr c8
         have c8b1 : ((((rd_T58 l0 x7_1).f1).length : Int) != (((rd_T58 l0 0).f1).length : Int)) = true := bne_iff_ne.mpr c8
         have c8b2 : (((rd_T58 l0 x7_1).f1).length == ((rd_T58 l0 0).f1).length) = false := by first | simpa using c8 | (simp at c8 ⊢; omega)
         obtain rfl := Option.some.inj H
         have p208 : 0 ≤ (x7_1 : Int) := of_decide_eq_true (by first | (with_reducible assumption) | assumption)
         have q208 : x7_1 < (l0.length : Int) := of_decide_eq_true (by first | (with_reducible assumption) | assumption)
         obtain ⟨ad208, A208_1, c208_1, e208, hx208_0, hx208_1, hx208_2, hx208_3, hx208_4, hx208_5, hl208_1, hi208_1⟩ := at_T58 HR0.out x7_1 p208 q208
         have hw208_5 := hx208_5
         have hw208_4 := hx208_4
         have hw208_3 := hx208_3
         have hw208_2 := hx208_2
         have hw208_1 := hx208_1
         have hw208_0 := hx208_0
         cases e208
         replace hx208_0 := (HB.out.cell (World.block_lt_of_cell? w _ hx208_0)).trans hx208_0
         replace hx208_1 := (HB.out.cell (World.block_lt_of_cell? w _ hx208_1)).trans hx208_1
         replace hx208_2 := (HB.out.cell (World.block_lt_of_cell? w _ hx208_2)).trans hx208_2
         replace hx208_3 := (HB.out.cell (World.block_lt_of_cell? w _ hx208_3)).trans hx208_3
         replace hx208_4 := (HB.out.cell (World.block_lt_of_cell? w _ hx208_4)).trans hx208_4
         replace hx208_5 := (HB.out.cell (World.block_lt_of_cell? w _ hx208_5)).trans hx208_5
         have HR208_1 := Aside0.mk hi208_1
         have HC208_1 := Aside0.mk hl208_1
         clear hi208_1 hl208_1
         replace p208 := eq_true p208
         replace q208 := eq_true q208
         try go_wp2_with (first | ((with_reducible refine gate_dst (N := 4) rfl ?_); (try (refine gate_guard (by rfl) ?_; dsimp only)); refine box_event ?hg (N := 4) ?hd (cs := #[.string (⟨#[]⟩ : ByteArray), .slice none 0 0, .float .f32 0, .float .f32 0, .float .f32 0, .float .f32 0]) (t := 58) ?hr ?_; (case hd => rfl); (case hg => rfl); (case hr => first | (go_simp; done) | (go_simp; rfl) | (simp (disch := omega) only [w64_id]; go_simp; done) | (go_simp; simp (disch := omega) only [w64_id]; done)); intro gb209 hg w29 hbox hb; have n0_ := Aside0.mk (below_step (by repeat (first | (with_reducible first | exact HB.out | apply below_alloc | apply pw_below_drewN | apply below_drew1) | exact HB.out)) hb); have n1_ := Aside0.mk (hbox); have n2_ := Aside0.mk ((by rw [hg]; exact (below_size (by repeat (first | (with_reducible first | exact HB.out | apply below_alloc | apply pw_below_drewN | apply below_drew1) | exact HB.out))) : w.heap.size ≤ gb209)); have n3_ := Aside0.mk ((by rw [hg]; exact (below_size (by repeat (first | (with_reducible first | exact HB.out | apply below_alloc | apply pw_below_drewN | apply below_drew1) | exact HB.out))) : w.heap.size ≤ gb209)); clear HB; have HB := n0_; have BK209 := n1_; have GW209 := n2_; have GE209 := n3_; clear n0_ n1_ n2_ n3_; clear hb hbox hg; have hcz30_0 : w29.cell? ⟨gb209, 0, none⟩ = some (.string (⟨#[]⟩ : ByteArray)) := (blk_cell BK209.out 0).trans rfl; have hcz30_1 : w29.cell? ⟨gb209, 1, none⟩ = some (.slice none 0 0) := (blk_cell BK209.out 1).trans rfl; have hcz30_2 : w29.cell? ⟨gb209, 2, none⟩ = some (.float .f32 0) := (blk_cell BK209.out 2).trans rfl; have hcz30_3 : w29.cell? ⟨gb209, 3, none⟩ = some (.float .f32 0) := (blk_cell BK209.out 3).trans rfl; have hcz30_4 : w29.cell? ⟨gb209, 4, none⟩ = some (.float .f32 0) := (blk_cell BK209.out 4).trans rfl; have hcz30_5 : w29.cell? ⟨gb209, 5, none⟩ = some (.float .f32 0) := (blk_cell BK209.out 5).trans rfl; have hfz30_0 := blk_frozen BK209.out 0; have hfz30_1 := blk_frozen BK209.out 1; have hfz30_2 := blk_frozen BK209.out 2; have hfz30_3 := blk_frozen BK209.out 3; have hfz30_4 := blk_frozen BK209.out 4; have hfz30_5 := blk_frozen BK209.out 5))
         have n0_ : Aside0 (((((((w29.setCell ⟨gb209, 0, none⟩ (.string ((rd_T58 l0 x7_1).f0))).setCell ⟨gb209, 1, none⟩ (.slice A208_1 ((rd_T58 l0 x7_1).f1).length c208_1)).setCell ⟨gb209, 2, none⟩ (.float .f32 ((rd_T58 l0 x7_1).f2))).setCell ⟨gb209, 3, none⟩ (.float .f32 ((rd_T58 l0 x7_1).f3))).setCell ⟨gb209, 4, none⟩ (.float .f32 ((rd_T58 l0 x7_1).f4))).setCell ⟨gb209, 5, none⟩ (.float .f32 ((rd_T58 l0 x7_1).f5))).heap[gb209]? = some (.cells #[.string ((rd_T58 l0 x7_1).f0), .slice A208_1 ((rd_T58 l0 x7_1).f1).length c208_1, .float .f32 ((rd_T58 l0 x7_1).f2), .float .f32 ((rd_T58 l0 x7_1).f3), .float .f32 ((rd_T58 l0 x7_1).f4), .float .f32 ((rd_T58 l0 x7_1).f5)] 58 (0, 0))) := ⟨by (with_reducible repeat (first | refine blk_drewN ?_ _ | refine blk_drew ?_ | refine blk_alloc ?_ _)); refine blk_put (cs := #[.string ((rd_T58 l0 x7_1).f0), .slice A208_1 ((rd_T58 l0 x7_1).f1).length c208_1, .float .f32 ((rd_T58 l0 x7_1).f2), .float .f32 ((rd_T58 l0 x7_1).f3), .float .f32 ((rd_T58 l0 x7_1).f4), .float .f32 0]) ?_ 5 _ rfl; (with_reducible repeat (first | refine blk_drewN ?_ _ | refine blk_drew ?_ | refine blk_alloc ?_ _)); refine blk_put (cs := #[.string ((rd_T58 l0 x7_1).f0), .slice A208_1 ((rd_T58 l0 x7_1).f1).length c208_1, .float .f32 ((rd_T58 l0 x7_1).f2), .float .f32 ((rd_T58 l0 x7_1).f3), .float .f32 0, .float .f32 0]) ?_ 4 _ rfl; (with_reducible repeat (first | refine blk_drewN ?_ _ | refine blk_drew ?_ | refine blk_alloc ?_ _)); refine blk_put (cs := #[.string ((rd_T58 l0 x7_1).f0), .slice A208_1 ((rd_T58 l0 x7_1).f1).length c208_1, .float .f32 ((rd_T58 l0 x7_1).f2), .float .f32 0, .float .f32 0, .float .f32 0]) ?_ 3 _ rfl; (with_reducible repeat (first | refine blk_drewN ?_ _ | refine blk_drew ?_ | refine blk_alloc ?_ _)); refine blk_put (cs := #[.string ((rd_T58 l0 x7_1).f0), .slice A208_1 ((rd_T58 l0 x7_1).f1).length c208_1, .float .f32 0, .float .f32 0, .float .f32 0, .float .f32 0]) ?_ 2 _ rfl; (with_reducible repeat (first | refine blk_drewN ?_ _ | refine blk_drew ?_ | refine blk_alloc ?_ _)); refine blk_put (cs := #[.string ((rd_T58 l0 x7_1).f0), .slice none 0 0, .float .f32 0, .float .f32 0, .float .f32 0, .float .f32 0]) ?_ 1 _ rfl; (with_reducible repeat (first | refine blk_drewN ?_ _ | refine blk_drew ?_ | refine blk_alloc ?_ _)); refine blk_put (cs := #[.string (⟨#[]⟩ : ByteArray), .slice none 0 0, .float .f32 0, .float .f32 0, .float .f32 0, .float .f32 0]) ?_ 0 _ rfl; (with_reducible repeat (first | refine blk_drewN ?_ _ | refine blk_drew ?_ | refine blk_alloc ?_ _)); exact BK209.out⟩
         have n1_ : Aside0 (Below w.heap.size w ((((((w29.setCell ⟨gb209, 0, none⟩ (.string ((rd_T58 l0 x7_1).f0))).setCell ⟨gb209, 1, none⟩ (.slice A208_1 ((rd_T58 l0 x7_1).f1).length c208_1)).setCell ⟨gb209, 2, none⟩ (.float .f32 ((rd_T58 l0 x7_1).f2))).setCell ⟨gb209, 3, none⟩ (.float .f32 ((rd_T58 l0 x7_1).f3))).setCell ⟨gb209, 4, none⟩ (.float .f32 ((rd_T58 l0 x7_1).f4))).setCell ⟨gb209, 5, none⟩ (.float .f32 ((rd_T58 l0 x7_1).f5)))) := ⟨by repeat (first | (with_reducible first | exact HB.out | apply below_alloc | apply pw_below_drewN | apply below_drew1 | refine below_set ?_ GE209.out) | exact HB.out)⟩
         (try clear BK209)
         (try clear HB)
         generalize ((((((w29.setCell ⟨gb209, 0, none⟩ (.string ((rd_T58 l0 x7_1).f0))).setCell ⟨gb209, 1, none⟩ (.slice A208_1 ((rd_T58 l0 x7_1).f1).length c208_1)).setCell ⟨gb209, 2, none⟩ (.float .f32 ((rd_T58 l0 x7_1).f2))).setCell ⟨gb209, 3, none⟩ (.float .f32 ((rd_T58 l0 x7_1).f3))).setCell ⟨gb209, 4, none⟩ (.float .f32 ((rd_T58 l0 x7_1).f4))).setCell ⟨gb209, 5, none⟩ (.float .f32 ((rd_T58 l0 x7_1).f5))) = w31 at n0_ n1_ ⊢
         have BK209 := n0_
         have HB := n1_
         clear n0_ n1_
         have n0_ := Aside0.mk (blk_drew BK209.out)
         have n1_ := Aside0.mk (below_drew1 HB.out)
         clear BK209
         clear HB
         have BK209 := n0_
         have HB := n1_
         clear n0_ n1_
         have p211 : 0 ≤ (0 : Int) := (by omega)
         have q211 : 0 < (l0.length : Int) := of_decide_eq_true (by first | (with_reducible assumption) | assumption)
         obtain ⟨ad211, A211_1, c211_1, e211, hx211_0, hx211_1, hx211_2, hx211_3, hx211_4, hx211_5, hl211_1, hi211_1⟩ := at_T58 HR0.out 0 p211 q211
         have hw211_5 := hx211_5
         (try rw [show ((0 : Int)).toNat = 0 from rfl] at hw211_5)
         (try rw [show 0 * 6 = 0 from rfl] at hw211_5)
         (try rw [Addr.add_zero'] at hw211_5)
         have hw211_4 := hx211_4
         (try rw [show ((0 : Int)).toNat = 0 from rfl] at hw211_4)
         (try rw [show 0 * 6 = 0 from rfl] at hw211_4)
         (try rw [Addr.add_zero'] at hw211_4)
         have hw211_3 := hx211_3
         (try rw [show ((0 : Int)).toNat = 0 from rfl] at hw211_3)
         (try rw [show 0 * 6 = 0 from rfl] at hw211_3)
         (try rw [Addr.add_zero'] at hw211_3)
         have hw211_2 := hx211_2
         (try rw [show ((0 : Int)).toNat = 0 from rfl] at hw211_2)
         (try rw [show 0 * 6 = 0 from rfl] at hw211_2)
         (try rw [Addr.add_zero'] at hw211_2)
         have hw211_1 := hx211_1
         (try rw [show ((0 : Int)).toNat = 0 from rfl] at hw211_1)
         (try rw [show 0 * 6 = 0 from rfl] at hw211_1)
         (try rw [Addr.add_zero'] at hw211_1)
         have hw211_0 := hx211_0
         (try rw [show ((0 : Int)).toNat = 0 from rfl] at hw211_0)
         (try rw [show 0 * 6 = 0 from rfl] at hw211_0)
         (try rw [Addr.add_zero'] at hw211_0)
         obtain rfl : ad208 = ad211 := (by injection e211)
         have qi211 : (0 < l0.length) = True := eq_true (by omega)
         (try rw [show ((0 : Int)).toNat = 0 from rfl] at hx211_0)
         (try rw [show 0 * 6 = 0 from rfl] at hx211_0)
         (try rw [Addr.add_zero'] at hx211_0)
         (try rw [show ((0 : Int)).toNat = 0 from rfl] at hx211_1)
         (try rw [show 0 * 6 = 0 from rfl] at hx211_1)
         (try rw [Addr.add_zero'] at hx211_1)
         (try rw [show ((0 : Int)).toNat = 0 from rfl] at hx211_2)
         (try rw [show 0 * 6 = 0 from rfl] at hx211_2)
         (try rw [Addr.add_zero'] at hx211_2)
         (try rw [show ((0 : Int)).toNat = 0 from rfl] at hx211_3)
         (try rw [show 0 * 6 = 0 from rfl] at hx211_3)
         (try rw [Addr.add_zero'] at hx211_3)
         (try rw [show ((0 : Int)).toNat = 0 from rfl] at hx211_4)
         (try rw [show 0 * 6 = 0 from rfl] at hx211_4)
         (try rw [Addr.add_zero'] at hx211_4)
         (try rw [show ((0 : Int)).toNat = 0 from rfl] at hx211_5)
         (try rw [show 0 * 6 = 0 from rfl] at hx211_5)
         (try rw [Addr.add_zero'] at hx211_5)
         replace hx211_0 := (HB.out.cell (World.block_lt_of_cell? w _ hx211_0)).trans hx211_0
         replace hx211_1 := (HB.out.cell (World.block_lt_of_cell? w _ hx211_1)).trans hx211_1
         replace hx211_2 := (HB.out.cell (World.block_lt_of_cell? w _ hx211_2)).trans hx211_2
         replace hx211_3 := (HB.out.cell (World.block_lt_of_cell? w _ hx211_3)).trans hx211_3
         replace hx211_4 := (HB.out.cell (World.block_lt_of_cell? w _ hx211_4)).trans hx211_4
         replace hx211_5 := (HB.out.cell (World.block_lt_of_cell? w _ hx211_5)).trans hx211_5
         have HR211_1 := Aside0.mk hi211_1
         have HC211_1 := Aside0.mk hl211_1
         clear hi211_1 hl211_1
         replace p211 := eq_true p211
         replace q211 := eq_true q211
         refine start_ (n := 29) (S := fun w' => w'.cell? ⟨gb209, 0, none⟩ = some (.string ((rd_T58 l0 x7_1).f0)) ∧ w'.cell? ⟨gb209, 1, none⟩ = some (.slice A208_1 ((rd_T58 l0 x7_1).f1).length c208_1) ∧ w'.cell? ⟨gb209, 2, none⟩ = some (.float .f32 ((rd_T58 l0 x7_1).f2)) ∧ w'.cell? ⟨gb209, 3, none⟩ = some (.float .f32 ((rd_T58 l0 x7_1).f3)) ∧ w'.cell? ⟨gb209, 4, none⟩ = some (.float .f32 ((rd_T58 l0 x7_1).f4)) ∧ w'.cell? ⟨gb209, 5, none⟩ = some (.float .f32 ((rd_T58 l0 x7_1).f5)) ∧ w'.cell? (ad208.add ((x7_1).toNat * 6)) = some (.string ((rd_T58 l0 x7_1).f0)) ∧ w'.cell? ⟨(ad208.add ((x7_1).toNat * 6)).block, (ad208.add ((x7_1).toNat * 6)).off + 1, none⟩ = some (.slice A208_1 ((rd_T58 l0 x7_1).f1).length c208_1) ∧ w'.cell? ⟨(ad208.add ((x7_1).toNat * 6)).block, (ad208.add ((x7_1).toNat * 6)).off + 2, none⟩ = some (.float .f32 ((rd_T58 l0 x7_1).f2)) ∧ w'.cell? ⟨(ad208.add ((x7_1).toNat * 6)).block, (ad208.add ((x7_1).toNat * 6)).off + 3, none⟩ = some (.float .f32 ((rd_T58 l0 x7_1).f3)) ∧ w'.cell? ⟨(ad208.add ((x7_1).toNat * 6)).block, (ad208.add ((x7_1).toNat * 6)).off + 4, none⟩ = some (.float .f32 ((rd_T58 l0 x7_1).f4)) ∧ w'.cell? ⟨(ad208.add ((x7_1).toNat * 6)).block, (ad208.add ((x7_1).toNat * 6)).off + 5, none⟩ = some (.float .f32 ((rd_T58 l0 x7_1).f5)) ∧ w'.cell? ad208 = some (.string ((rd_T58 l0 0).f0)) ∧ w'.cell? ⟨ad208.block, ad208.off + 1, none⟩ = some (.slice A211_1 ((rd_T58 l0 0).f1).length c211_1) ∧ w'.cell? ⟨ad208.block, ad208.off + 2, none⟩ = some (.float .f32 ((rd_T58 l0 0).f2)) ∧ w'.cell? ⟨ad208.block, ad208.off + 3, none⟩ = some (.float .f32 ((rd_T58 l0 0).f3)) ∧ w'.cell? ⟨ad208.block, ad208.off + 4, none⟩ = some (.float .f32 ((rd_T58 l0 0).f4)) ∧ w'.cell? ⟨ad208.block, ad208.off + 5, none⟩ = some (.float .f32 ((rd_T58 l0 0).f5))) (ds := []) impl_AreSounds.z0 (by kernel_rfl) rfl rfl ⟨(blk_cell BK209.out 0).trans rfl, (blk_cell BK209.out 1).trans rfl, (blk_cell BK209.out 2).trans rfl, (blk_cell BK209.out 3).trans rfl, (blk_cell BK209.out 4).trans rfl, (blk_cell BK209.out 5).trans rfl, (cu_ HB.out hw208_0), (cu_ HB.out hw208_1), (cu_ HB.out hw208_2), (cu_ HB.out hw208_3), (cu_ HB.out hw208_4), (cu_ HB.out hw208_5), (cu_ HB.out hw211_0), (cu_ HB.out hw211_1), (cu_ HB.out hw211_2), (cu_ HB.out hw211_3), (cu_ HB.out hw211_4), (cu_ HB.out hw211_5)⟩ (fun hHeld => ?_); refine with_tabW impl_AreSounds.tab4 impl_AreSounds.bits4 (fun HT_ HW_ => ?_)
         generalize w31.drew = w32 at BK209 HB HR211_1 hx211_0 hx211_1 hx211_2 hx211_3 hx211_4 hx211_5 hHeld ⊢
         refine take_ (i := 0) (N := some 12) (v := ?_) (a' := ?_) impl_AreSounds.z1 rfl rfl (take_ofW HT_.out HW_.out (by kernel_rfl)) (fun _ _ _ h => h) (Or.inl ⟨by rfl, ?_⟩) hHeld ?_ ?_
         rotate_left
         ·rintro w' ⟨s0, s1, s2, s3, s4, s5, s6, s7, s8, s9, s10, s11, s12, s13, s14, s15, s16, s17⟩
          go_simp
          with_reducible rfl
         rotate_left
         ·pw_
         refine one_ (i := 1) (N := some 13) impl_AreSounds.z2 rfl rfl (one_of HT_.out (by kernel_rfl)) (by decide) (fun K hK => ?_)
         refine goes_ Tryd.func57 (by kernel_rfl) rfl #[.agg #[.string ((rd_T58 l0 x7_1).f0), .slice A208_1 ((rd_T58 l0 x7_1).f1).length c208_1, .float .f32 ((rd_T58 l0 x7_1).f2), .float .f32 ((rd_T58 l0 x7_1).f3), .float .f32 ((rd_T58 l0 x7_1).f4), .float .f32 ((rd_T58 l0 x7_1).f5)]] (by rfl) rfl rfl (by (try simp only [List.map_toArray, List.map_cons, List.map_nil]); first | done | rfl | (simp only [List.length_drop, List.length_take]; rfl)) ?_
         with_reducible refine (impl_ValidSound.calls k1 ((rd_T58 l0 x7_1).f0) _ _ ((rd_T58 l0 x7_1).f1) ((rd_T58 l0 x7_1).f2) ((rd_T58 l0 x7_1).f3) ((rd_T58 l0 x7_1).f4) ((rd_T58 l0 x7_1).f5) true _ ?side1 ?side2 A5.out).mono ?_
         (case side1 => repeat (first | exact (Kd.C_below HR208_1.out HB.out) | (with_reducible refine Kd.C_alloc ?_ _) | (with_reducible refine Kd.C_drewN ?_ _) | (with_reducible refine Kd.C_drew ?_)))
         (case side2 => exact HC208_1.out)
         rintro e w33 ⟨rfl, hb⟩
         refine ⟨_, rfl, ?_⟩
         have n0_ := Aside0.mk (blk_below (g := gb209) (o := .cells #[.string ((rd_T58 l0 x7_1).f0), .slice A208_1 ((rd_T58 l0 x7_1).f1).length c208_1, .float .f32 ((rd_T58 l0 x7_1).f2), .float .f32 ((rd_T58 l0 x7_1).f3), .float .f32 ((rd_T58 l0 x7_1).f4), .float .f32 ((rd_T58 l0 x7_1).f5)] 58 (0, 0)) (by (with_reducible repeat (first | refine blk_drewN ?_ _ | refine blk_drew ?_ | refine blk_alloc ?_ _)); exact BK209.out) hb)
         have n1_ := Aside0.mk (below_step (by repeat (first | (with_reducible first | exact HB.out | apply below_alloc | apply pw_below_drewN | apply below_drew1 | refine below_set ?_ GE209.out) | exact HB.out)) hb)
         clear BK209
         clear HB
         have BK209 := n0_
         have HB := n1_
         clear n0_ n1_
         (try clear hb)
         (try clear hb2)
         (try clear hk)
         (try clear hi)
         refine hK.out _ _ ⟨(blk_cell BK209.out 0).trans rfl, (blk_cell BK209.out 1).trans rfl, (blk_cell BK209.out 2).trans rfl, (blk_cell BK209.out 3).trans rfl, (blk_cell BK209.out 4).trans rfl, (blk_cell BK209.out 5).trans rfl, (cu_ HB.out hw208_0), (cu_ HB.out hw208_1), (cu_ HB.out hw208_2), (cu_ HB.out hw208_3), (cu_ HB.out hw208_4), (cu_ HB.out hw208_5), (cu_ HB.out hw211_0), (cu_ HB.out hw211_1), (cu_ HB.out hw211_2), (cu_ HB.out hw211_3), (cu_ HB.out hw211_4), (cu_ HB.out hw211_5)⟩ (fun hHeld => ?_)
         clear hK K
         refine norm_ (a' := ?_) ?_ ?_
         rotate_left
         ·show Act.put _ (some 13) _ = _
          pw_
         refine pure_ (i := 2) (N := some 14) (v := ?_) (a' := ?_) impl_AreSounds.z3 rfl rfl (any_of HT_.out (by kernel_rfl)) (fun _ _ _ h => h) (Or.inl ⟨by rfl, ?_⟩) ?_ ?_
         pv_
         refine pure_ (i := 3) (N := some 15) (v := ?_) (a' := ?_) impl_AreSounds.z4 rfl rfl (any_of HT_.out (by kernel_rfl)) (fun _ _ _ h => h) (Or.inl ⟨by rfl, ?_⟩) ?_ ?_
         pv_
         refine pure_ (i := 4) (N := some 16) (v := ?_) (a' := ?_) impl_AreSounds.z5 rfl rfl (any_of HT_.out (by kernel_rfl)) (fun _ _ _ h => h) (Or.inl ⟨by rfl, ?_⟩) ?_ ?_
         pv_
         refine pure_ (i := 7) (N := some 19) (v := ?_) (a' := ?_) impl_AreSounds.z6 rfl rfl (any_of HT_.out (by kernel_rfl)) (fun _ _ _ h => h) (Or.inl ⟨by rfl, ?_⟩) ?_ ?_
         pv_
         refine pure_ (i := 8) (N := some 20) (v := ?_) (a' := ?_) impl_AreSounds.z7 rfl rfl (any_of HT_.out (by kernel_rfl)) (fun _ _ _ h => h) (Or.inl ⟨by rfl, ?_⟩) ?_ ?_
         pv_
         refine pure_ (i := 9) (N := some 21) (v := ?_) (a' := ?_) impl_AreSounds.z8 rfl rfl (any_of HT_.out (by kernel_rfl)) (fun _ _ _ h => h) (Or.inl ⟨by rfl, ?_⟩) ?_ ?_
         pv_
         refine take_ (i := 5) (N := some 17) (v := ?_) (a' := ?_) impl_AreSounds.z9 rfl rfl (take_ofW HT_.out HW_.out (by kernel_rfl)) (fun _ _ _ h => h) (Or.inl ⟨by rfl, ?_⟩) hHeld ?_ ?_
         rotate_left
         ·rintro w' ⟨s0, s1, s2, s3, s4, s5, s6, s7, s8, s9, s10, s11, s12, s13, s14, s15, s16, s17⟩
          go_simp
          with_reducible rfl
         rotate_left
         ·pw_
         refine pure_ (i := 6) (N := some 18) (v := ?_) (a' := ?_) impl_AreSounds.z10 rfl rfl (any_of HT_.out (by kernel_rfl)) (fun _ _ _ h => h) (Or.inl ⟨by rfl, ?_⟩) ?_ ?_
         pv_
         refine take_ (i := 10) (N := some 22) (v := ?_) (a' := ?_) impl_AreSounds.z11 rfl rfl (take_ofW HT_.out HW_.out (by kernel_rfl)) (fun _ _ _ h => h) (Or.inl ⟨by rfl, ?_⟩) hHeld ?_ ?_
         rotate_left
         ·rintro w' ⟨s0, s1, s2, s3, s4, s5, s6, s7, s8, s9, s10, s11, s12, s13, s14, s15, s16, s17⟩
          go_simp
          with_reducible rfl
         rotate_left
         ·pw_
         refine pure_ (i := 11) (N := some 23) (v := ?_) (a' := ?_) impl_AreSounds.z12 rfl rfl (any_of HT_.out (by kernel_rfl)) (fun _ _ _ h => h) (Or.inl ⟨by rfl, ?_⟩) ?_ ?_
         pv_
         refine pure_ (i := 12) (N := some 24) (v := ?_) (a' := ?_) impl_AreSounds.z13 rfl rfl (any_of HT_.out (by kernel_rfl)) (fun _ _ _ h => h) (Or.inl ⟨by rfl, ?_⟩) ?_ ?_
         pv_
         refine pure_ (i := 13) (N := some 25) (v := ?_) (a' := ?_) impl_AreSounds.z14 rfl rfl (any_of HT_.out (by kernel_rfl)) (fun _ _ _ h => h) (Or.inl ⟨by rfl, ?_⟩) ?_ ?_
         pv_
         refine pure_ (i := 14) (N := some 26) (v := ?_) (a' := ?_) impl_AreSounds.z15 rfl rfl (any_of HT_.out (by kernel_rfl)) (fun _ _ _ h => h) (Or.inl ⟨by rfl, ?_⟩) ?_ ?_
         pv_
         refine pure_ (i := 15) (N := some 27) (v := undef) (a' := ?_) impl_AreSounds.z16 rfl rfl (any_of HT_.out (by kernel_rfl)) (fun _ _ _ h => h) (Or.inr ⟨by rfl, rfl⟩) ?_ ?_
         rotate_left
         ·pw_
         refine pure_ (i := 16) (N := some 28) (v := undef) (a' := ?_) impl_AreSounds.z17 rfl rfl (any_of HT_.out (by kernel_rfl)) (fun _ _ _ h => h) (Or.inr ⟨by rfl, rfl⟩) ?_ ?_
         rotate_left
         ·pw_
         refine pure_ (i := 17) (N := some 29) (v := undef) (a' := ?_) impl_AreSounds.z18 rfl rfl (any_of HT_.out (by kernel_rfl)) (fun _ _ _ h => h) (Or.inr ⟨by rfl, rfl⟩) ?_ ?_
         rotate_left
         ·pw_
         refine pure_ (i := 18) (N := some 30) (v := undef) (a' := ?_) impl_AreSounds.z19 rfl rfl (any_of HT_.out (by kernel_rfl)) (fun _ _ _ h => h) (Or.inr ⟨by rfl, rfl⟩) ?_ ?_
         rotate_left
         ·pw_
         refine pure_ (i := 19) (N := some 31) (v := undef) (a' := ?_) impl_AreSounds.z20 rfl rfl (any_of HT_.out (by kernel_rfl)) (fun _ _ _ h => h) (Or.inr ⟨by rfl, rfl⟩) ?_ ?_
         rotate_left
         ·pw_
         refine pure_ (i := 20) (N := some 32) (v := undef) (a' := ?_) impl_AreSounds.z21 rfl rfl (any_of HT_.out (by kernel_rfl)) (fun _ _ _ h => h) (Or.inr ⟨by rfl, rfl⟩) ?_ ?_
         rotate_left
         ·pw_
         refine pure_ (i := 21) (N := some 33) (v := undef) (a' := ?_) impl_AreSounds.z22 rfl rfl (any_of HT_.out (by kernel_rfl)) (fun _ _ _ h => h) (Or.inr ⟨by rfl, rfl⟩) ?_ ?_
         rotate_left
         ·pw_
         refine pure_ (i := 22) (N := some 34) (v := undef) (a' := ?_) impl_AreSounds.z23 rfl rfl (any_of HT_.out (by kernel_rfl)) (fun _ _ _ h => h) (Or.inr ⟨by rfl, rfl⟩) ?_ ?_
         rotate_left
         ·pw_
         refine pure_ (i := 23) (N := some 35) (v := undef) (a' := ?_) impl_AreSounds.z30 rfl rfl (any_of HT_.out (by kernel_rfl)) (fun _ _ _ h => h) (Or.inr ⟨by rfl, rfl⟩) ?_ ?_
         rotate_left
         ·pw_
         refine pure_ (i := 24) (N := some 36) (v := undef) (a' := ?_) impl_AreSounds.z25 rfl rfl (any_of HT_.out (by kernel_rfl)) (fun _ _ _ h => h) (Or.inr ⟨by rfl, rfl⟩) ?_ ?_
         rotate_left
         ·pw_
         refine pure_ (i := 25) (N := some 37) (v := undef) (a' := ?_) impl_AreSounds.z26 rfl rfl (any_of HT_.out (by kernel_rfl)) (fun _ _ _ h => h) (Or.inr ⟨by rfl, rfl⟩) ?_ ?_
         rotate_left
         ·pw_
         refine pure_ (i := 26) (N := some 38) (v := undef) (a' := ?_) impl_AreSounds.z27 rfl rfl (any_of HT_.out (by kernel_rfl)) (fun _ _ _ h => h) (Or.inr ⟨by rfl, rfl⟩) ?_ ?_
         rotate_left
         ·pw_
         refine pure_ (i := 27) (N := some 39) (v := undef) (a' := ?_) impl_AreSounds.z28 rfl rfl (any_of HT_.out (by kernel_rfl)) (fun _ _ _ h => h) (Or.inr ⟨by rfl, rfl⟩) ?_ ?_
         rotate_left
         ·pw_
         refine pure_ (i := 28) (N := some 40) (v := ?_) (a' := ?_) impl_AreSounds.z29 rfl rfl (any_of HT_.out (by kernel_rfl)) (fun _ _ _ h => h) (Or.inl ⟨by rfl, ?_⟩) ?_ ?_
         pv_
         refine done_ (done_of HT_.out (by kernel_rfl)) ?_
         try go_wp2
         go_ret
         exact ⟨by first | rfl | (simp [errW_none, errW_some] <;> rfl) | (simp [*, errW_none, errW_some] <;> rfl), by repeat (first | (with_reducible first | exact HB.out | apply below_alloc | apply pw_below_drewN | apply below_drew1 | refine below_set ?_ GE209.out) | exact HB.out)⟩
       ·rw [if_neg c7] at H
        exact absurd H (by simp)
      ·replace c6 := Bool.eq_false_iff.mpr c6
       subst c6
       have H1 : (some false) = some r := by rw [if_neg (show ¬ (false = true) by decide)] at H; exact H
       clear H
       have H := H1
       clear H1
       obtain rfl := Option.some.inj H
       have p208 : 0 ≤ (x7_1 : Int) := of_decide_eq_true (by first | (with_reducible assumption) | assumption)
       have q208 : x7_1 < (l0.length : Int) := of_decide_eq_true (by first | (with_reducible assumption) | assumption)
       obtain ⟨ad208, A208_1, c208_1, e208, hx208_0, hx208_1, hx208_2, hx208_3, hx208_4, hx208_5, hl208_1, hi208_1⟩ := at_T58 HR0.out x7_1 p208 q208
       have hw208_5 := hx208_5
       have hw208_4 := hx208_4
       have hw208_3 := hx208_3
       have hw208_2 := hx208_2
       have hw208_1 := hx208_1
       have hw208_0 := hx208_0
       cases e208
       replace hx208_0 := (HB.out.cell (World.block_lt_of_cell? w _ hx208_0)).trans hx208_0
       replace hx208_1 := (HB.out.cell (World.block_lt_of_cell? w _ hx208_1)).trans hx208_1
       replace hx208_2 := (HB.out.cell (World.block_lt_of_cell? w _ hx208_2)).trans hx208_2
       replace hx208_3 := (HB.out.cell (World.block_lt_of_cell? w _ hx208_3)).trans hx208_3
       replace hx208_4 := (HB.out.cell (World.block_lt_of_cell? w _ hx208_4)).trans hx208_4
       replace hx208_5 := (HB.out.cell (World.block_lt_of_cell? w _ hx208_5)).trans hx208_5
       have HR208_1 := Aside0.mk hi208_1
       have HC208_1 := Aside0.mk hl208_1
       clear hi208_1 hl208_1
       replace p208 := eq_true p208
       replace q208 := eq_true q208
       try go_wp2_with (first | ((with_reducible refine gate_dst (N := 4) rfl ?_); (try (refine gate_guard (by rfl) ?_; dsimp only)); refine box_event ?hg (N := 4) ?hd (cs := #[.string (⟨#[]⟩ : ByteArray), .slice none 0 0, .float .f32 0, .float .f32 0, .float .f32 0, .float .f32 0]) (t := 58) ?hr ?_; (case hd => rfl); (case hg => rfl); (case hr => first | (go_simp; done) | (go_simp; rfl) | (simp (disch := omega) only [w64_id]; go_simp; done) | (go_simp; simp (disch := omega) only [w64_id]; done)); intro gb209 hg w34 hbox hb; have n0_ := Aside0.mk (below_step (by repeat (first | (with_reducible first | exact HB.out | apply below_alloc | apply pw_below_drewN | apply below_drew1) | exact HB.out)) hb); have n1_ := Aside0.mk (hbox); have n2_ := Aside0.mk ((by rw [hg]; exact (below_size (by repeat (first | (with_reducible first | exact HB.out | apply below_alloc | apply pw_below_drewN | apply below_drew1) | exact HB.out))) : w.heap.size ≤ gb209)); have n3_ := Aside0.mk ((by rw [hg]; exact (below_size (by repeat (first | (with_reducible first | exact HB.out | apply below_alloc | apply pw_below_drewN | apply below_drew1) | exact HB.out))) : w.heap.size ≤ gb209)); clear HB; have HB := n0_; have BK209 := n1_; have GW209 := n2_; have GE209 := n3_; clear n0_ n1_ n2_ n3_; clear hb hbox hg; have hcz35_0 : w34.cell? ⟨gb209, 0, none⟩ = some (.string (⟨#[]⟩ : ByteArray)) := (blk_cell BK209.out 0).trans rfl; have hcz35_1 : w34.cell? ⟨gb209, 1, none⟩ = some (.slice none 0 0) := (blk_cell BK209.out 1).trans rfl; have hcz35_2 : w34.cell? ⟨gb209, 2, none⟩ = some (.float .f32 0) := (blk_cell BK209.out 2).trans rfl; have hcz35_3 : w34.cell? ⟨gb209, 3, none⟩ = some (.float .f32 0) := (blk_cell BK209.out 3).trans rfl; have hcz35_4 : w34.cell? ⟨gb209, 4, none⟩ = some (.float .f32 0) := (blk_cell BK209.out 4).trans rfl; have hcz35_5 : w34.cell? ⟨gb209, 5, none⟩ = some (.float .f32 0) := (blk_cell BK209.out 5).trans rfl; have hfz35_0 := blk_frozen BK209.out 0; have hfz35_1 := blk_frozen BK209.out 1; have hfz35_2 := blk_frozen BK209.out 2; have hfz35_3 := blk_frozen BK209.out 3; have hfz35_4 := blk_frozen BK209.out 4; have hfz35_5 := blk_frozen BK209.out 5))
       have n0_ : Aside0 (((((((w34.setCell ⟨gb209, 0, none⟩ (.string ((rd_T58 l0 x7_1).f0))).setCell ⟨gb209, 1, none⟩ (.slice A208_1 ((rd_T58 l0 x7_1).f1).length c208_1)).setCell ⟨gb209, 2, none⟩ (.float .f32 ((rd_T58 l0 x7_1).f2))).setCell ⟨gb209, 3, none⟩ (.float .f32 ((rd_T58 l0 x7_1).f3))).setCell ⟨gb209, 4, none⟩ (.float .f32 ((rd_T58 l0 x7_1).f4))).setCell ⟨gb209, 5, none⟩ (.float .f32 ((rd_T58 l0 x7_1).f5))).heap[gb209]? = some (.cells #[.string ((rd_T58 l0 x7_1).f0), .slice A208_1 ((rd_T58 l0 x7_1).f1).length c208_1, .float .f32 ((rd_T58 l0 x7_1).f2), .float .f32 ((rd_T58 l0 x7_1).f3), .float .f32 ((rd_T58 l0 x7_1).f4), .float .f32 ((rd_T58 l0 x7_1).f5)] 58 (0, 0))) := ⟨by (with_reducible repeat (first | refine blk_drewN ?_ _ | refine blk_drew ?_ | refine blk_alloc ?_ _)); refine blk_put (cs := #[.string ((rd_T58 l0 x7_1).f0), .slice A208_1 ((rd_T58 l0 x7_1).f1).length c208_1, .float .f32 ((rd_T58 l0 x7_1).f2), .float .f32 ((rd_T58 l0 x7_1).f3), .float .f32 ((rd_T58 l0 x7_1).f4), .float .f32 0]) ?_ 5 _ rfl; (with_reducible repeat (first | refine blk_drewN ?_ _ | refine blk_drew ?_ | refine blk_alloc ?_ _)); refine blk_put (cs := #[.string ((rd_T58 l0 x7_1).f0), .slice A208_1 ((rd_T58 l0 x7_1).f1).length c208_1, .float .f32 ((rd_T58 l0 x7_1).f2), .float .f32 ((rd_T58 l0 x7_1).f3), .float .f32 0, .float .f32 0]) ?_ 4 _ rfl; (with_reducible repeat (first | refine blk_drewN ?_ _ | refine blk_drew ?_ | refine blk_alloc ?_ _)); refine blk_put (cs := #[.string ((rd_T58 l0 x7_1).f0), .slice A208_1 ((rd_T58 l0 x7_1).f1).length c208_1, .float .f32 ((rd_T58 l0 x7_1).f2), .float .f32 0, .float .f32 0, .float .f32 0]) ?_ 3 _ rfl; (with_reducible repeat (first | refine blk_drewN ?_ _ | refine blk_drew ?_ | refine blk_alloc ?_ _)); refine blk_put (cs := #[.string ((rd_T58 l0 x7_1).f0), .slice A208_1 ((rd_T58 l0 x7_1).f1).length c208_1, .float .f32 0, .float .f32 0, .float .f32 0, .float .f32 0]) ?_ 2 _ rfl; (with_reducible repeat (first | refine blk_drewN ?_ _ | refine blk_drew ?_ | refine blk_alloc ?_ _)); refine blk_put (cs := #[.string ((rd_T58 l0 x7_1).f0), .slice none 0 0, .float .f32 0, .float .f32 0, .float .f32 0, .float .f32 0]) ?_ 1 _ rfl; (with_reducible repeat (first | refine blk_drewN ?_ _ | refine blk_drew ?_ | refine blk_alloc ?_ _)); refine blk_put (cs := #[.string (⟨#[]⟩ : ByteArray), .slice none 0 0, .float .f32 0, .float .f32 0, .float .f32 0, .float .f32 0]) ?_ 0 _ rfl; (with_reducible repeat (first | refine blk_drewN ?_ _ | refine blk_drew ?_ | refine blk_alloc ?_ _)); exact BK209.out⟩
       have n1_ : Aside0 (Below w.heap.size w ((((((w34.setCell ⟨gb209, 0, none⟩ (.string ((rd_T58 l0 x7_1).f0))).setCell ⟨gb209, 1, none⟩ (.slice A208_1 ((rd_T58 l0 x7_1).f1).length c208_1)).setCell ⟨gb209, 2, none⟩ (.float .f32 ((rd_T58 l0 x7_1).f2))).setCell ⟨gb209, 3, none⟩ (.float .f32 ((rd_T58 l0 x7_1).f3))).setCell ⟨gb209, 4, none⟩ (.float .f32 ((rd_T58 l0 x7_1).f4))).setCell ⟨gb209, 5, none⟩ (.float .f32 ((rd_T58 l0 x7_1).f5)))) := ⟨by repeat (first | (with_reducible first | exact HB.out | apply below_alloc | apply pw_below_drewN | apply below_drew1 | refine below_set ?_ GE209.out) | exact HB.out)⟩
       (try clear BK209)
       (try clear HB)
       generalize ((((((w34.setCell ⟨gb209, 0, none⟩ (.string ((rd_T58 l0 x7_1).f0))).setCell ⟨gb209, 1, none⟩ (.slice A208_1 ((rd_T58 l0 x7_1).f1).length c208_1)).setCell ⟨gb209, 2, none⟩ (.float .f32 ((rd_T58 l0 x7_1).f2))).setCell ⟨gb209, 3, none⟩ (.float .f32 ((rd_T58 l0 x7_1).f3))).setCell ⟨gb209, 4, none⟩ (.float .f32 ((rd_T58 l0 x7_1).f4))).setCell ⟨gb209, 5, none⟩ (.float .f32 ((rd_T58 l0 x7_1).f5))) = w36 at n0_ n1_ ⊢
       have BK209 := n0_
       have HB := n1_
       clear n0_ n1_
       have n0_ := Aside0.mk (blk_drew BK209.out)
       have n1_ := Aside0.mk (below_drew1 HB.out)
       clear BK209
       clear HB
       have BK209 := n0_
       have HB := n1_
       clear n0_ n1_
       refine start_ (n := 29) (S := fun w' => w'.cell? ⟨gb209, 0, none⟩ = some (.string ((rd_T58 l0 x7_1).f0)) ∧ w'.cell? ⟨gb209, 1, none⟩ = some (.slice A208_1 ((rd_T58 l0 x7_1).f1).length c208_1) ∧ w'.cell? ⟨gb209, 2, none⟩ = some (.float .f32 ((rd_T58 l0 x7_1).f2)) ∧ w'.cell? ⟨gb209, 3, none⟩ = some (.float .f32 ((rd_T58 l0 x7_1).f3)) ∧ w'.cell? ⟨gb209, 4, none⟩ = some (.float .f32 ((rd_T58 l0 x7_1).f4)) ∧ w'.cell? ⟨gb209, 5, none⟩ = some (.float .f32 ((rd_T58 l0 x7_1).f5)) ∧ w'.cell? (ad208.add ((x7_1).toNat * 6)) = some (.string ((rd_T58 l0 x7_1).f0)) ∧ w'.cell? ⟨(ad208.add ((x7_1).toNat * 6)).block, (ad208.add ((x7_1).toNat * 6)).off + 1, none⟩ = some (.slice A208_1 ((rd_T58 l0 x7_1).f1).length c208_1) ∧ w'.cell? ⟨(ad208.add ((x7_1).toNat * 6)).block, (ad208.add ((x7_1).toNat * 6)).off + 2, none⟩ = some (.float .f32 ((rd_T58 l0 x7_1).f2)) ∧ w'.cell? ⟨(ad208.add ((x7_1).toNat * 6)).block, (ad208.add ((x7_1).toNat * 6)).off + 3, none⟩ = some (.float .f32 ((rd_T58 l0 x7_1).f3)) ∧ w'.cell? ⟨(ad208.add ((x7_1).toNat * 6)).block, (ad208.add ((x7_1).toNat * 6)).off + 4, none⟩ = some (.float .f32 ((rd_T58 l0 x7_1).f4)) ∧ w'.cell? ⟨(ad208.add ((x7_1).toNat * 6)).block, (ad208.add ((x7_1).toNat * 6)).off + 5, none⟩ = some (.float .f32 ((rd_T58 l0 x7_1).f5))) (ds := []) impl_AreSounds.z0 (by kernel_rfl) rfl rfl ⟨(blk_cell BK209.out 0).trans rfl, (blk_cell BK209.out 1).trans rfl, (blk_cell BK209.out 2).trans rfl, (blk_cell BK209.out 3).trans rfl, (blk_cell BK209.out 4).trans rfl, (blk_cell BK209.out 5).trans rfl, (cu_ HB.out hw208_0), (cu_ HB.out hw208_1), (cu_ HB.out hw208_2), (cu_ HB.out hw208_3), (cu_ HB.out hw208_4), (cu_ HB.out hw208_5)⟩ (fun hHeld => ?_); refine with_tabW impl_AreSounds.tab4 impl_AreSounds.bits4 (fun HT_ HW_ => ?_)
       generalize w36.drew = w37 at BK209 HB hHeld ⊢
       refine take_ (i := 0) (N := some 12) (v := ?_) (a' := ?_) impl_AreSounds.z1 rfl rfl (take_ofW HT_.out HW_.out (by kernel_rfl)) (fun _ _ _ h => h) (Or.inl ⟨by rfl, ?_⟩) hHeld ?_ ?_
       rotate_left
       ·rintro w' ⟨s0, s1, s2, s3, s4, s5, s6, s7, s8, s9, s10, s11⟩
        go_simp
        with_reducible rfl
       rotate_left
       ·pw_
       refine one_ (i := 1) (N := some 13) impl_AreSounds.z2 rfl rfl (one_of HT_.out (by kernel_rfl)) (by decide) (fun K hK => ?_)
       refine goes_ Tryd.func57 (by kernel_rfl) rfl #[.agg #[.string ((rd_T58 l0 x7_1).f0), .slice A208_1 ((rd_T58 l0 x7_1).f1).length c208_1, .float .f32 ((rd_T58 l0 x7_1).f2), .float .f32 ((rd_T58 l0 x7_1).f3), .float .f32 ((rd_T58 l0 x7_1).f4), .float .f32 ((rd_T58 l0 x7_1).f5)]] (by rfl) rfl rfl (by (try simp only [List.map_toArray, List.map_cons, List.map_nil]); first | done | rfl | (simp only [List.length_drop, List.length_take]; rfl)) ?_
       with_reducible refine (impl_ValidSound.calls k1 ((rd_T58 l0 x7_1).f0) _ _ ((rd_T58 l0 x7_1).f1) ((rd_T58 l0 x7_1).f2) ((rd_T58 l0 x7_1).f3) ((rd_T58 l0 x7_1).f4) ((rd_T58 l0 x7_1).f5) false _ ?side1 ?side2 A5.out).mono ?_
       (case side1 => repeat (first | exact (Kd.C_below HR208_1.out HB.out) | (with_reducible refine Kd.C_alloc ?_ _) | (with_reducible refine Kd.C_drewN ?_ _) | (with_reducible refine Kd.C_drew ?_)))
       (case side2 => exact HC208_1.out)
       rintro e w38 ⟨rfl, hb⟩
       refine ⟨_, rfl, ?_⟩
       have n0_ := Aside0.mk (blk_below (g := gb209) (o := .cells #[.string ((rd_T58 l0 x7_1).f0), .slice A208_1 ((rd_T58 l0 x7_1).f1).length c208_1, .float .f32 ((rd_T58 l0 x7_1).f2), .float .f32 ((rd_T58 l0 x7_1).f3), .float .f32 ((rd_T58 l0 x7_1).f4), .float .f32 ((rd_T58 l0 x7_1).f5)] 58 (0, 0)) (by (with_reducible repeat (first | refine blk_drewN ?_ _ | refine blk_drew ?_ | refine blk_alloc ?_ _)); exact BK209.out) hb)
       have n1_ := Aside0.mk (below_step (by repeat (first | (with_reducible first | exact HB.out | apply below_alloc | apply pw_below_drewN | apply below_drew1 | refine below_set ?_ GE209.out) | exact HB.out)) hb)
       clear BK209
       clear HB
       have BK209 := n0_
       have HB := n1_
       clear n0_ n1_
       (try clear hb)
       (try clear hb2)
       (try clear hk)
       (try clear hi)
       refine hK.out _ _ ⟨(blk_cell BK209.out 0).trans rfl, (blk_cell BK209.out 1).trans rfl, (blk_cell BK209.out 2).trans rfl, (blk_cell BK209.out 3).trans rfl, (blk_cell BK209.out 4).trans rfl, (blk_cell BK209.out 5).trans rfl, (cu_ HB.out hw208_0), (cu_ HB.out hw208_1), (cu_ HB.out hw208_2), (cu_ HB.out hw208_3), (cu_ HB.out hw208_4), (cu_ HB.out hw208_5)⟩ (fun hHeld => ?_)
       clear hK K
       refine norm_ (a' := ?_) ?_ ?_
       rotate_left
       ·show Act.put _ (some 13) _ = _
        pw_
       refine pure_ (i := 2) (N := some 14) (v := ?_) (a' := ?_) impl_AreSounds.z3 rfl rfl (any_of HT_.out (by kernel_rfl)) (fun _ _ _ h => h) (Or.inl ⟨by rfl, ?_⟩) ?_ ?_
       pv_
       refine pure_ (i := 3) (N := some 15) (v := ?_) (a' := ?_) impl_AreSounds.z4 rfl rfl (any_of HT_.out (by kernel_rfl)) (fun _ _ _ h => h) (Or.inl ⟨by rfl, ?_⟩) ?_ ?_
       pv_
       refine pure_ (i := 4) (N := some 16) (v := undef) (a' := ?_) impl_AreSounds.z5 rfl rfl (any_of HT_.out (by kernel_rfl)) (fun _ _ _ h => h) (Or.inr ⟨by rfl, rfl⟩) ?_ ?_
       rotate_left
       ·pw_
       refine pure_ (i := 5) (N := some 17) (v := undef) (a' := ?_) impl_AreSounds.z31 rfl rfl (any_of HT_.out (by kernel_rfl)) (fun _ _ _ h => h) (Or.inr ⟨by rfl, rfl⟩) ?_ ?_
       rotate_left
       ·pw_
       refine pure_ (i := 6) (N := some 18) (v := undef) (a' := ?_) impl_AreSounds.z32 rfl rfl (any_of HT_.out (by kernel_rfl)) (fun _ _ _ h => h) (Or.inr ⟨by rfl, rfl⟩) ?_ ?_
       rotate_left
       ·pw_
       refine pure_ (i := 7) (N := some 19) (v := undef) (a' := ?_) impl_AreSounds.z33 rfl rfl (any_of HT_.out (by kernel_rfl)) (fun _ _ _ h => h) (Or.inr ⟨by rfl, rfl⟩) ?_ ?_
       rotate_left
       ·pw_
       refine pure_ (i := 8) (N := some 20) (v := undef) (a' := ?_) impl_AreSounds.z34 rfl rfl (any_of HT_.out (by kernel_rfl)) (fun _ _ _ h => h) (Or.inr ⟨by rfl, rfl⟩) ?_ ?_
       rotate_left
       ·pw_
       refine pure_ (i := 9) (N := some 21) (v := undef) (a' := ?_) impl_AreSounds.z10 rfl rfl (any_of HT_.out (by kernel_rfl)) (fun _ _ _ h => h) (Or.inr ⟨by rfl, rfl⟩) ?_ ?_
       rotate_left
       ·pw_
       refine pure_ (i := 10) (N := some 22) (v := undef) (a' := ?_) impl_AreSounds.z11 rfl rfl (any_of HT_.out (by kernel_rfl)) (fun _ _ _ h => h) (Or.inr ⟨by rfl, rfl⟩) ?_ ?_
       rotate_left
       ·pw_
       refine pure_ (i := 11) (N := some 23) (v := undef) (a' := ?_) impl_AreSounds.z12 rfl rfl (any_of HT_.out (by kernel_rfl)) (fun _ _ _ h => h) (Or.inr ⟨by rfl, rfl⟩) ?_ ?_
       rotate_left
       ·pw_
       refine pure_ (i := 12) (N := some 24) (v := undef) (a' := ?_) impl_AreSounds.z13 rfl rfl (any_of HT_.out (by kernel_rfl)) (fun _ _ _ h => h) (Or.inr ⟨by rfl, rfl⟩) ?_ ?_
       rotate_left
       ·pw_
       refine pure_ (i := 13) (N := some 25) (v := ?_) (a' := ?_) impl_AreSounds.z14 rfl rfl (any_of HT_.out (by kernel_rfl)) (fun _ _ _ h => h) (Or.inl ⟨by rfl, ?_⟩) ?_ ?_
       pv_
       refine pure_ (i := 14) (N := some 26) (v := ?_) (a' := ?_) impl_AreSounds.z15 rfl rfl (any_of HT_.out (by kernel_rfl)) (fun _ _ _ h => h) (Or.inl ⟨by rfl, ?_⟩) ?_ ?_
       pv_
       refine pure_ (i := 15) (N := some 27) (v := undef) (a' := ?_) impl_AreSounds.z16 rfl rfl (any_of HT_.out (by kernel_rfl)) (fun _ _ _ h => h) (Or.inr ⟨by rfl, rfl⟩) ?_ ?_
       rotate_left
       ·pw_
       refine pure_ (i := 16) (N := some 28) (v := undef) (a' := ?_) impl_AreSounds.z17 rfl rfl (any_of HT_.out (by kernel_rfl)) (fun _ _ _ h => h) (Or.inr ⟨by rfl, rfl⟩) ?_ ?_
       rotate_left
       ·pw_
       refine pure_ (i := 17) (N := some 29) (v := undef) (a' := ?_) impl_AreSounds.z18 rfl rfl (any_of HT_.out (by kernel_rfl)) (fun _ _ _ h => h) (Or.inr ⟨by rfl, rfl⟩) ?_ ?_
       rotate_left
       ·pw_
       refine pure_ (i := 18) (N := some 30) (v := undef) (a' := ?_) impl_AreSounds.z19 rfl rfl (any_of HT_.out (by kernel_rfl)) (fun _ _ _ h => h) (Or.inr ⟨by rfl, rfl⟩) ?_ ?_
       rotate_left
       ·pw_
       refine pure_ (i := 19) (N := some 31) (v := undef) (a' := ?_) impl_AreSounds.z20 rfl rfl (any_of HT_.out (by kernel_rfl)) (fun _ _ _ h => h) (Or.inr ⟨by rfl, rfl⟩) ?_ ?_
       rotate_left
       ·pw_
       refine pure_ (i := 20) (N := some 32) (v := undef) (a' := ?_) impl_AreSounds.z21 rfl rfl (any_of HT_.out (by kernel_rfl)) (fun _ _ _ h => h) (Or.inr ⟨by rfl, rfl⟩) ?_ ?_
       rotate_left
       ·pw_
       refine pure_ (i := 21) (N := some 33) (v := undef) (a' := ?_) impl_AreSounds.z22 rfl rfl (any_of HT_.out (by kernel_rfl)) (fun _ _ _ h => h) (Or.inr ⟨by rfl, rfl⟩) ?_ ?_
       rotate_left
       ·pw_
       refine pure_ (i := 22) (N := some 34) (v := undef) (a' := ?_) impl_AreSounds.z23 rfl rfl (any_of HT_.out (by kernel_rfl)) (fun _ _ _ h => h) (Or.inr ⟨by rfl, rfl⟩) ?_ ?_
       rotate_left
       ·pw_
       refine pure_ (i := 23) (N := some 35) (v := undef) (a' := ?_) impl_AreSounds.z30 rfl rfl (any_of HT_.out (by kernel_rfl)) (fun _ _ _ h => h) (Or.inr ⟨by rfl, rfl⟩) ?_ ?_
       rotate_left
       ·pw_
       refine pure_ (i := 24) (N := some 36) (v := undef) (a' := ?_) impl_AreSounds.z25 rfl rfl (any_of HT_.out (by kernel_rfl)) (fun _ _ _ h => h) (Or.inr ⟨by rfl, rfl⟩) ?_ ?_
       rotate_left
       ·pw_
       refine pure_ (i := 25) (N := some 37) (v := undef) (a' := ?_) impl_AreSounds.z26 rfl rfl (any_of HT_.out (by kernel_rfl)) (fun _ _ _ h => h) (Or.inr ⟨by rfl, rfl⟩) ?_ ?_
       rotate_left
       ·pw_
       refine pure_ (i := 26) (N := some 38) (v := undef) (a' := ?_) impl_AreSounds.z27 rfl rfl (any_of HT_.out (by kernel_rfl)) (fun _ _ _ h => h) (Or.inr ⟨by rfl, rfl⟩) ?_ ?_
       rotate_left
       ·pw_
       refine pure_ (i := 27) (N := some 39) (v := undef) (a' := ?_) impl_AreSounds.z28 rfl rfl (any_of HT_.out (by kernel_rfl)) (fun _ _ _ h => h) (Or.inr ⟨by rfl, rfl⟩) ?_ ?_
       rotate_left
       ·pw_
       refine pure_ (i := 28) (N := some 40) (v := ?_) (a' := ?_) impl_AreSounds.z29 rfl rfl (any_of HT_.out (by kernel_rfl)) (fun _ _ _ h => h) (Or.inl ⟨by rfl, ?_⟩) ?_ ?_
       pv_
       refine done_ (done_of HT_.out (by kernel_rfl)) ?_
       try go_wp2
       go_ret
       exact ⟨by first | rfl | (simp [errW_none, errW_some] <;> rfl) | (simp [*, errW_none, errW_some] <;> rfl), by repeat (first | (with_reducible first | exact HB.out | apply below_alloc | apply pw_below_drewN | apply below_drew1 | refine below_set ?_ GE209.out) | exact HB.out)⟩
     ·rw [if_neg c4] at H
      exact absurd H (by simp)
    ·rw [if_neg c3] at H
     exact absurd H (by simp)
   ·rw [if_neg c2] at H
    have c2b0 : decide (x7_1 < (l0.length : Int)) = false := decide_eq_false c2
    clear c2
    obtain rfl := Option.some.inj H
    go_wp2
    go_ret
    exact ⟨by first | rfl | (simp [errW_none, errW_some] <;> rfl) | (simp [*, errW_none, errW_some] <;> rfl), by repeat (first | (with_reducible first | exact HB.out | apply below_alloc | apply pw_below_drewN | apply below_drew1) | exact HB.out)⟩
end Go.Proofs.YtdfpfiecpcgffaaDoor.PFnExactReadSounds
