/- Printed by a program of this session (the kit's print, with contracts of this session's own): what functions come to, and that their code comes to it. -/
import Derived.Test.YtjkpbmdkkdofkaaDoorPFnExactMatchesAtx0
import Derived.Test.YtjkpbmdkkdofkaaDoorPFnExactMatchesAtx2
namespace Go.Proofs.YtjkpbmdkkdofkaaDoor.PFnExactMatchesAt
open Go.RowKit Go.Proofs.YtjkpbmdkkdofkaaDoorW.PrintWords Go.Proofs.YtjkpbmdkkdofkaaDoorW.PrintLast Go.Proofs.YtjkpbmdkkdofkaaDoorW.PrintMore
open Go.Proofs.YtjkpbmdkkdofkaaDoorW.PrintFl
attribute [local go_sem high] binOp_feq binOp_fne binOp_fls binOp_fle binOp_fgr binOp_fge
attribute [local go_sem] run_fopr run_fconv run_fint run_stf run_stc 
attribute [local go_sem] max2_int min2_int max_two min_two max_three min_three max_four min_four   -- for this text's walks alone
set_option linter.unusedVariables false
set_option linter.unusedSimpArgs false

/-! ### spec_l07Matches: function 52 -/
mutual
def spec_l07Matches.j0 : Nat → List (S26) → ByteArray → Int → Int → Bool → Option (Bool)
  | 0, _, _, _, _, _ => none
  | k + 1, x0, x1, x2, x7, x31 => if x31 = true then (some false) else (spec_l07Matches.l0 k x0 x1 x2 x7 0)
def spec_l07Matches.l0 : Nat → List (S26) → ByteArray → Int → Int → Int → Option (Bool)
  | 0, _, _, _, _, _ => none
  | k + 1, x0, x1, x2, x7, x8 => if 0 < (x0.length : Int) then (if x8 < (((rd_T26 x0 0).f2).size : Int) then (if 0 ≤ x8 then (if (bt ((rd_T26 x0 0).f2) x8) = 45 then (if x7 = (x1.size : Int) then (spec_l07Matches.l0 k x0 x1 x2 x7 (wrap64 (x8 + 1))) else (some false)) else (if x7 ≥ (x1.size : Int) then (some false) else (if 0 ≤ x7 then (if x7 < (x1.size : Int) then ((spec_l07Sign.f (bt ((rd_T26 x0 0).f2) x8) (bt x1 x7)).bind fun t152 => (if t152 = true then (spec_l07Matches.l0 k x0 x1 x2 (wrap64 (x7 + 1)) (wrap64 (x8 + 1))) else (some false))) else (none)) else (none)))) else (none)) else (spec_l07Matches.l1 k x0 x1 x2 (wrap64 ((((rd_T26 x0 0).f0).size : Int) - 1)))) else (none)
def spec_l07Matches.l1 : Nat → List (S26) → ByteArray → Int → Int → Option (Bool)
  | 0, _, _, _, _ => none
  | k + 1, x0, x1, x2, x9 => if x9 ≥ 0 then (if 0 < (x0.length : Int) then (if 0 ≤ x9 then (if x9 < (((rd_T26 x0 0).f0).size : Int) then (if (bt ((rd_T26 x0 0).f0) x9) = 45 then (if x2 = 0 then (spec_l07Matches.l1 k x0 x1 x2 (wrap64 (x9 - 1))) else (some false)) else (if x2 = 0 then (some false) else (if 0 ≤ (wrap64 (x2 - 1)) then (if (wrap64 (x2 - 1)) < (x1.size : Int) then ((spec_l07Sign.f (bt ((rd_T26 x0 0).f0) x9) (bt x1 (wrap64 (x2 - 1)))).bind fun t159 => (if t159 = true then (spec_l07Matches.l1 k x0 x1 (wrap64 (x2 - 1)) (wrap64 (x9 - 1))) else (some false))) else (none)) else (none)))) else (none)) else (none)) else (none)) else (some true)
end
def spec_l07Matches.f (k : Nat) (l0 : List (S26)) (a1 : ByteArray) (a2 : Int) : Option (Bool) := if 0 < (l0.length : Int) then (if (wrap64 (a2 + (((rd_T26 l0 0).f1).size : Int))) > (a1.size : Int) then (spec_l07Matches.j0 k l0 a1 a2 (wrap64 (a2 + (((rd_T26 l0 0).f1).size : Int))) true) else (if 0 ≤ a2 then (if a2 ≤ (wrap64 (a2 + (((rd_T26 l0 0).f1).size : Int))) then (if (wrap64 (a2 + (((rd_T26 l0 0).f1).size : Int))) ≤ (a1.size : Int) then (spec_l07Matches.j0 k l0 a1 a2 (wrap64 (a2 + (((rd_T26 l0 0).f1).size : Int))) ((a1.extract (a2 : Int).toNat ((wrap64 (a2 + (((rd_T26 l0 0).f1).size : Int))) : Int).toNat).toList != ((rd_T26 l0 0).f1).toList)) else (none)) else (none)) else (none))) else (none)
theorem spec_l07Matches.mono_l : ∀ k, (∀ y0 y1 y2 y3 y4, LeO (spec_l07Matches.j0 k y0 y1 y2 y3 y4) (spec_l07Matches.j0 (k + 1) y0 y1 y2 y3 y4)) ∧ (∀ y0 y1 y2 y3 y4, LeO (spec_l07Matches.l0 k y0 y1 y2 y3 y4) (spec_l07Matches.l0 (k + 1) y0 y1 y2 y3 y4)) ∧ (∀ y0 y1 y2 y3, LeO (spec_l07Matches.l1 k y0 y1 y2 y3) (spec_l07Matches.l1 (k + 1) y0 y1 y2 y3))
  | 0 => ⟨fun _ _ _ _ _ r h => by simp [spec_l07Matches.j0] at h, fun _ _ _ _ _ r h => by simp [spec_l07Matches.l0] at h, fun _ _ _ _ r h => by simp [spec_l07Matches.l1] at h⟩
  | k + 1 => by
    obtain ⟨ih0, ih1, ih2⟩ := spec_l07Matches.mono_l k
    refine ⟨?_, ?_, ?_⟩
    · intro y0 y1 y2 y3 y4
      unfold spec_l07Matches.j0
      repeat' first
      | (with_reducible exact ih0 _ _ _ _ _)
      | (with_reducible exact ih1 _ _ _ _ _)
      | (with_reducible exact ih2 _ _ _ _)
      | (with_reducible exact LeO.refl _)
      | (with_reducible exact LeO.none _)
      | (with_reducible refine LeO.ite ?_ ?_)
      | (with_reducible refine LeO.bind ?_ (fun _ => ?_))
      | exact ih0 _ _ _ _ _
      | exact ih1 _ _ _ _ _
      | exact ih2 _ _ _ _
      | exact LeO.none _
      | refine LeO.ite ?_ ?_
      | refine LeO.bind ?_ (fun _ => ?_)
    · intro y0 y1 y2 y3 y4
      unfold spec_l07Matches.l0
      repeat' first
      | (with_reducible exact ih0 _ _ _ _ _)
      | (with_reducible exact ih1 _ _ _ _ _)
      | (with_reducible exact ih2 _ _ _ _)
      | (with_reducible exact LeO.refl _)
      | (with_reducible exact LeO.none _)
      | (with_reducible refine LeO.ite ?_ ?_)
      | (with_reducible refine LeO.bind ?_ (fun _ => ?_))
      | exact ih0 _ _ _ _ _
      | exact ih1 _ _ _ _ _
      | exact ih2 _ _ _ _
      | exact LeO.none _
      | refine LeO.ite ?_ ?_
      | refine LeO.bind ?_ (fun _ => ?_)
    · intro y0 y1 y2 y3
      unfold spec_l07Matches.l1
      repeat' first
      | (with_reducible exact ih0 _ _ _ _ _)
      | (with_reducible exact ih1 _ _ _ _ _)
      | (with_reducible exact ih2 _ _ _ _)
      | (with_reducible exact LeO.refl _)
      | (with_reducible exact LeO.none _)
      | (with_reducible refine LeO.ite ?_ ?_)
      | (with_reducible refine LeO.bind ?_ (fun _ => ?_))
      | exact ih0 _ _ _ _ _
      | exact ih1 _ _ _ _ _
      | exact ih2 _ _ _ _
      | exact LeO.none _
      | refine LeO.ite ?_ ?_
      | refine LeO.bind ?_ (fun _ => ?_)
theorem spec_l07Matches.mono : ∀ a0 a1 a2 k, LeO (spec_l07Matches.f k a0 a1 a2) (spec_l07Matches.f (k + 1) a0 a1 a2) := by
  intro a0 a1 a2 k
  obtain ⟨ih0, ih1, ih2⟩ := spec_l07Matches.mono_l k
  unfold spec_l07Matches.f
  repeat' first
      | (with_reducible exact ih0 _ _ _ _ _)
      | (with_reducible exact ih1 _ _ _ _ _)
      | (with_reducible exact ih2 _ _ _ _)
      | (with_reducible exact LeO.refl _)
      | (with_reducible exact LeO.none _)
      | (with_reducible refine LeO.ite ?_ ?_)
      | (with_reducible refine LeO.bind ?_ (fun _ => ?_))
      | exact ih0 _ _ _ _ _
      | exact ih1 _ _ _ _ _
      | exact ih2 _ _ _ _
      | exact LeO.none _
      | refine LeO.ite ?_ ?_
      | refine LeO.bind ?_ (fun _ => ?_)
set_option maxHeartbeats 8000000 in
set_option maxRecDepth 100000 in
theorem spec_l07Matches.calls (k : Nat) (A0 : Option Addr) (l0 : List (S26)) (a1 : ByteArray) (a2 : Int) (r : Bool) (w : World) (hr0 : Kd.C k26 w A0 l0.length l0) (h : spec_l07Matches.f k l0 a1 a2 = some r) :
    Calls Tryd.prog 52 #[.pointer A0, .string a1, .int .i64 a2] w fun e w' => e = .returned (.bool r) ∧ Drawn0 w w' := by
  have hu9 := Tryd.underlying9
  have HR0 := Aside0.mk hr0
  clear hr0
  have H : (if 0 < (l0.length : Int) then (if (wrap64 (a2 + (((rd_T26 l0 0).f1).size : Int))) > (a1.size : Int) then (spec_l07Matches.j0 k l0 a1 a2 (wrap64 (a2 + (((rd_T26 l0 0).f1).size : Int))) true) else (if 0 ≤ a2 then (if a2 ≤ (wrap64 (a2 + (((rd_T26 l0 0).f1).size : Int))) then (if (wrap64 (a2 + (((rd_T26 l0 0).f1).size : Int))) ≤ (a1.size : Int) then (spec_l07Matches.j0 k l0 a1 a2 (wrap64 (a2 + (((rd_T26 l0 0).f1).size : Int))) ((a1.extract (a2 : Int).toNat ((wrap64 (a2 + (((rd_T26 l0 0).f1).size : Int))) : Int).toNat).toList != ((rd_T26 l0 0).f1).toList)) else (none)) else (none)) else (none))) else (none)) = some r := h
  clear h
  by_cases c4 : 0 < (l0.length : Int)
  · rw [if_pos c4] at H
    have c4b0 : decide (0 < (l0.length : Int)) = true := decide_eq_true c4
    have c4b1 : decide (0 < l0.length) = true := decide_eq_true (by omega)
    clear c4
    have HC5 := Aside0.mk H
    clear H
    have p142 : 0 ≤ (0 : Int) := (by omega)
    have q142 : 0 < (l0.length : Int) := of_decide_eq_true (by first | (with_reducible assumption) | assumption)
    obtain ⟨ad142, e142, hx142_0, hx142_1, hx142_2, hx142_3⟩ := at_T26 HR0.out 0 p142 q142
    cases e142
    have qi142 : (0 < l0.length) = True := eq_true (by omega)
    (try rw [show ((0 : Int)).toNat = 0 from rfl] at hx142_0)
    (try rw [show 0 * 4 = 0 from rfl] at hx142_0)
    (try rw [Addr.add_zero'] at hx142_0)
    (try rw [show ((0 : Int)).toNat = 0 from rfl] at hx142_1)
    (try rw [show 0 * 4 = 0 from rfl] at hx142_1)
    (try rw [Addr.add_zero'] at hx142_1)
    (try rw [show ((0 : Int)).toNat = 0 from rfl] at hx142_2)
    (try rw [show 0 * 4 = 0 from rfl] at hx142_2)
    (try rw [Addr.add_zero'] at hx142_2)
    (try rw [show ((0 : Int)).toNat = 0 from rfl] at hx142_3)
    (try rw [show 0 * 4 = 0 from rfl] at hx142_3)
    (try rw [Addr.add_zero'] at hx142_3)
    replace p142 := eq_true p142
    replace q142 := eq_true q142
    have p143 : 0 ≤ (0 : Int) := (by omega)
    have q143 : 0 < (l0.length : Int) := of_decide_eq_true (by first | (with_reducible assumption) | assumption)
    obtain ⟨ad143, e143, hx143_0, hx143_1, hx143_2, hx143_3⟩ := at_T26 HR0.out 0 p143 q143
    obtain rfl : ad142 = ad143 := (by injection e143)
    have qi143 : (0 < l0.length) = True := eq_true (by omega)
    (try rw [show ((0 : Int)).toNat = 0 from rfl] at hx143_0)
    (try rw [show 0 * 4 = 0 from rfl] at hx143_0)
    (try rw [Addr.add_zero'] at hx143_0)
    (try rw [show ((0 : Int)).toNat = 0 from rfl] at hx143_1)
    (try rw [show 0 * 4 = 0 from rfl] at hx143_1)
    (try rw [Addr.add_zero'] at hx143_1)
    (try rw [show ((0 : Int)).toNat = 0 from rfl] at hx143_2)
    (try rw [show 0 * 4 = 0 from rfl] at hx143_2)
    (try rw [Addr.add_zero'] at hx143_2)
    (try rw [show ((0 : Int)).toNat = 0 from rfl] at hx143_3)
    (try rw [show 0 * 4 = 0 from rfl] at hx143_3)
    (try rw [Addr.add_zero'] at hx143_3)
    replace p143 := eq_true p143
    replace q143 := eq_true q143
    go_enter Tryd.func52, Tryd.ntmps52
    go_upto_region 2 with (fail)
    repeat (go_quiet (fail); go_upto_region 2 with (fail))
    go_cut [31] (fun v31 wc => ∃ (kq : Nat) (x31_4 : Bool), v31 = .bool x31_4 ∧ Aside0 (spec_l07Matches.j0 kq l0 a1 a2 (wrap64 (a2 + (((rd_T26 l0 0).f1).size : Int))) x31_4 = some r) ∧ Aside0 (kq ≤ k) ∧ Drawn0 w wc)
    case first =>
      have H := HC5.out
      clear HC5
      by_cases c6 : (wrap64 (a2 + (((rd_T26 l0 0).f1).size : Int))) > (a1.size : Int)
      · rw [if_pos c6] at H
        have c6b0 : decide ((a1.size : Int) < (wrap64 (a2 + (((rd_T26 l0 0).f1).size : Int)))) = true := decide_eq_true c6
        clear c6
        (first | rw [c6b0] | (simp only [i64_w, i32_w]; rw [c6b0]) | skip)
        have H' := Aside0.mk H
        clear H
        go_wp2
        repeat (go_quiet (fail); try go_wp2)
        go_meet
        case rel => exact ⟨_, (true), (by first | rfl | (simp; done) | (simp [*]; done)), H', ⟨by first | omega | exact Nat.le_refl _⟩, by repeat (first | exact Drawn0.refl _ | apply Drawn0.step)⟩
      · rw [if_neg c6] at H
        have c6b0 : decide ((a1.size : Int) < (wrap64 (a2 + (((rd_T26 l0 0).f1).size : Int)))) = false := decide_eq_false c6
        clear c6
        (first | rw [c6b0] | (simp only [i64_w, i32_w]; rw [c6b0]) | skip)
        by_cases c7 : 0 ≤ a2
        · rw [if_pos c7] at H
          have c7b0 := eq_true c7
          have c7b1 : decide (0 ≤ a2) = true := decide_eq_true c7
          clear c7
          by_cases c8 : a2 ≤ (wrap64 (a2 + (((rd_T26 l0 0).f1).size : Int)))
          · rw [if_pos c8] at H
            have c8b0 := eq_true c8
            have c8b1 : decide (a2 ≤ (wrap64 (a2 + (((rd_T26 l0 0).f1).size : Int)))) = true := decide_eq_true c8
            by_cases c9 : (wrap64 (a2 + (((rd_T26 l0 0).f1).size : Int))) ≤ (a1.size : Int)
            · rw [if_pos c9] at H
              have c9b0 := eq_true c9
              have c9b1 : decide ((wrap64 (a2 + (((rd_T26 l0 0).f1).size : Int))) ≤ (a1.size : Int)) = true := decide_eq_true c9
              have H' := Aside0.mk H
              clear H
              have p144 : 0 ≤ (0 : Int) := (by omega)
              have q144 : 0 < (l0.length : Int) := of_decide_eq_true (by first | (with_reducible assumption) | assumption)
              obtain ⟨ad144, e144, hx144_0, hx144_1, hx144_2, hx144_3⟩ := at_T26 HR0.out 0 p144 q144
              obtain rfl : ad142 = ad144 := (by injection e144)
              have qi144 : (0 < l0.length) = True := eq_true (by omega)
              (try rw [show ((0 : Int)).toNat = 0 from rfl] at hx144_0)
              (try rw [show 0 * 4 = 0 from rfl] at hx144_0)
              (try rw [Addr.add_zero'] at hx144_0)
              (try rw [show ((0 : Int)).toNat = 0 from rfl] at hx144_1)
              (try rw [show 0 * 4 = 0 from rfl] at hx144_1)
              (try rw [Addr.add_zero'] at hx144_1)
              (try rw [show ((0 : Int)).toNat = 0 from rfl] at hx144_2)
              (try rw [show 0 * 4 = 0 from rfl] at hx144_2)
              (try rw [Addr.add_zero'] at hx144_2)
              (try rw [show ((0 : Int)).toNat = 0 from rfl] at hx144_3)
              (try rw [show 0 * 4 = 0 from rfl] at hx144_3)
              (try rw [Addr.add_zero'] at hx144_3)
              replace p144 := eq_true p144
              replace q144 := eq_true q144
              have p145 : 0 ≤ (0 : Int) := (by omega)
              have q145 : 0 < (l0.length : Int) := of_decide_eq_true (by first | (with_reducible assumption) | assumption)
              obtain ⟨ad145, e145, hx145_0, hx145_1, hx145_2, hx145_3⟩ := at_T26 HR0.out 0 p145 q145
              obtain rfl : ad142 = ad145 := (by injection e145)
              have qi145 : (0 < l0.length) = True := eq_true (by omega)
              (try rw [show ((0 : Int)).toNat = 0 from rfl] at hx145_0)
              (try rw [show 0 * 4 = 0 from rfl] at hx145_0)
              (try rw [Addr.add_zero'] at hx145_0)
              (try rw [show ((0 : Int)).toNat = 0 from rfl] at hx145_1)
              (try rw [show 0 * 4 = 0 from rfl] at hx145_1)
              (try rw [Addr.add_zero'] at hx145_1)
              (try rw [show ((0 : Int)).toNat = 0 from rfl] at hx145_2)
              (try rw [show 0 * 4 = 0 from rfl] at hx145_2)
              (try rw [Addr.add_zero'] at hx145_2)
              (try rw [show ((0 : Int)).toNat = 0 from rfl] at hx145_3)
              (try rw [show 0 * 4 = 0 from rfl] at hx145_3)
              (try rw [Addr.add_zero'] at hx145_3)
              replace p145 := eq_true p145
              replace q145 := eq_true q145
              go_wp2
              repeat (go_quiet (fail); try go_wp2)
              go_meet
              case rel => exact ⟨_, (((a1.extract (a2 : Int).toNat ((wrap64 (a2 + (((rd_T26 l0 0).f1).size : Int))) : Int).toNat).toList != ((rd_T26 l0 0).f1).toList)), (by first | rfl | (simp; done) | (simp [*]; done)), H', ⟨by first | omega | exact Nat.le_refl _⟩, by repeat (first | exact Drawn0.refl _ | apply Drawn0.step)⟩
            · rw [if_neg c9] at H
              exact absurd H (by simp)
          · rw [if_neg c8] at H
            exact absurd H (by simp)
        · rw [if_neg c7] at H
          exact absurd H (by simp)
    case rest =>
      clear HC5
      try clear p1
      try clear q1
      try clear hx1
      try clear qi1
      try clear p2
      try clear c4
      try clear c4b0
      try clear c4b1
      try clear c5
      try clear c6
      try clear c6b0
      try clear p6
      try clear c7
      try clear c7b0
      try clear c7b1
      try clear c8
      try clear c8b0
      try clear c8b1
      try clear c9
      try clear c9b0
      try clear c9b1
      try clear hx142_0
      try clear hx142_1
      try clear hx142_2
      try clear hx142_3
      try clear hx143_0
      try clear hx143_1
      try clear hx143_2
      try clear hx143_3
      try clear hx144_0
      try clear hx144_1
      try clear hx144_2
      try clear hx144_3
      try clear hx145_0
      try clear hx145_1
      try clear hx145_2
      try clear hx145_3
      try clear p142
      try clear p143
      try clear p144
      try clear p145
      try clear q142
      try clear q143
      try clear q144
      try clear q145
      obtain ⟨kq, x31_4, rfl, HA, HJ4, ⟨mc4, rfl⟩⟩ := hcut
      cases kq with
      | zero => exact absurd HA.out (by simp [spec_l07Matches.j0])
      | succ kj4 =>
        have H := HA.out
        clear HA
        simp only [spec_l07Matches.j0] at H
        by_cases c10 : x31_4 = true
        · subst c10
          have H1 : (some false) = some r := by rw [if_pos rfl] at H; exact H
          clear H
          have H := H1
          clear H1
          obtain rfl := Option.some.inj H
          go_wp2
          repeat (go_quiet (fail); try go_wp2)
          go_ret
          exact ⟨by first | rfl | (simp; done) | (simp [*]; done), by repeat (first | exact Drawn0.refl _ | apply Drawn0.step)⟩
        · replace c10 := Bool.eq_false_iff.mpr c10
          subst c10
          have H1 : (spec_l07Matches.l0 kj4 l0 a1 a2 (wrap64 (a2 + (((rd_T26 l0 0).f1).size : Int))) 0) = some r := by rw [if_neg (show ¬ (false = true) by decide)] at H; exact H
          clear H
          have H := H1
          clear H1
          have H' := Aside0.mk H
          clear H
          go_wp2
          repeat (go_quiet (fail); try go_wp2)
          go_loopg [7, 8] kj4 (fun kq v7 v8 w' => ∃ (x7_2 : Int) (x8_2 : Int), v7 = .int .i64 x7_2 ∧ v8 = .int .i64 x8_2 ∧ Aside0 (spec_l07Matches.l0 kq l0 a1 a2 x7_2 x8_2 = some r) ∧ Aside0 (kq ≤ kj4) ∧ Drawn0 w w')
          case atStart => exact ⟨((wrap64 (a2 + (((rd_T26 l0 0).f1).size : Int)))), (0), (by first | rfl | (simp; done) | (simp [*]; done)), (by first | rfl | (simp; done) | (simp [*]; done)), H', ⟨Nat.le_refl _⟩, by repeat (first | exact Drawn0.refl _ | apply Drawn0.step)⟩
          case round =>
            clear H'
            try clear c1
            try clear p1
            try clear q1
            try clear hx1
            try clear qi1
            try clear p2
            try clear c4
            try clear c4b0
            try clear c4b1
            try clear c5
            try clear c6
            try clear c6b0
            try clear p6
            try clear c7
            try clear c7b0
            try clear c7b1
            try clear c8
            try clear c8b0
            try clear c8b1
            try clear c9
            try clear c9b0
            try clear c9b1
            try clear c10
            try clear hx142_0
            try clear hx142_1
            try clear hx142_2
            try clear hx142_3
            try clear hx143_0
            try clear hx143_1
            try clear hx143_2
            try clear hx143_3
            try clear hx144_0
            try clear hx144_1
            try clear hx144_2
            try clear hx144_3
            try clear hx145_0
            try clear hx145_1
            try clear hx145_2
            try clear hx145_3
            try clear p1
            try clear p142
            try clear p143
            try clear p144
            try clear p145
            try clear p2
            try clear p6
            try clear q1
            try clear q142
            try clear q143
            try clear q144
            try clear q145
            obtain ⟨x7_2, x8_2, rfl, rfl, HA, HK2, ⟨m2, rfl⟩⟩ := hrel
            cases gk with
            | zero => exact absurd HA.out (by simp [spec_l07Matches.l0])
            | succ k2 =>
              have H := HA.out
              clear HA
              simp only [spec_l07Matches.l0] at H
              by_cases c11 : 0 < (l0.length : Int)
              · rw [if_pos c11] at H
                have c11b0 : decide (0 < (l0.length : Int)) = true := decide_eq_true c11
                have c11b1 : decide (0 < l0.length) = true := decide_eq_true (by omega)
                clear c11
                by_cases c12 : x8_2 < (((rd_T26 l0 0).f2).size : Int)
                · rw [if_pos c12] at H
                  have c12b0 : decide (x8_2 < (((rd_T26 l0 0).f2).size : Int)) = true := decide_eq_true c12
                  clear c12
                  by_cases c13 : 0 ≤ x8_2
                  · rw [if_pos c13] at H
                    have c13b0 : decide (0 ≤ x8_2) = true := decide_eq_true c13
                    clear c13
                    by_cases c15 : (bt ((rd_T26 l0 0).f2) x8_2) = 45
                    · rw [if_pos c15] at H
                      have c15b0 : ((bt ((rd_T26 l0 0).f2) x8_2) == 45) = true := beq_iff_eq.mpr c15
                      have c15b1 : ((bt ((rd_T26 l0 0).f2) x8_2) != 45) = false := bne_eq_false_iff_eq.mpr c15
                      clear c15
                      by_cases c16 : x7_2 = (a1.size : Int)
                      · rw [if_pos c16] at H
                        have c16b0 : (x7_2 == (a1.size : Int)) = true := beq_iff_eq.mpr c16
                        have c16b1 : (x7_2 != (a1.size : Int)) = false := bne_eq_false_iff_eq.mpr c16
                        clear c16
                        have H' := Aside0.mk H
                        clear H
                        have p146 : 0 ≤ (0 : Int) := (by omega)
                        have q146 : 0 < (l0.length : Int) := of_decide_eq_true (by first | (with_reducible assumption) | assumption)
                        obtain ⟨ad146, e146, hx146_0, hx146_1, hx146_2, hx146_3⟩ := at_T26 HR0.out 0 p146 q146
                        obtain rfl : ad142 = ad146 := (by injection e146)
                        have qi146 : (0 < l0.length) = True := eq_true (by omega)
                        (try rw [show ((0 : Int)).toNat = 0 from rfl] at hx146_0)
                        (try rw [show 0 * 4 = 0 from rfl] at hx146_0)
                        (try rw [Addr.add_zero'] at hx146_0)
                        (try rw [show ((0 : Int)).toNat = 0 from rfl] at hx146_1)
                        (try rw [show 0 * 4 = 0 from rfl] at hx146_1)
                        (try rw [Addr.add_zero'] at hx146_1)
                        (try rw [show ((0 : Int)).toNat = 0 from rfl] at hx146_2)
                        (try rw [show 0 * 4 = 0 from rfl] at hx146_2)
                        (try rw [Addr.add_zero'] at hx146_2)
                        (try rw [show ((0 : Int)).toNat = 0 from rfl] at hx146_3)
                        (try rw [show 0 * 4 = 0 from rfl] at hx146_3)
                        (try rw [Addr.add_zero'] at hx146_3)
                        replace p146 := eq_true p146
                        replace q146 := eq_true q146
                        have p147 : 0 ≤ (0 : Int) := (by omega)
                        have q147 : 0 < (l0.length : Int) := of_decide_eq_true (by first | (with_reducible assumption) | assumption)
                        obtain ⟨ad147, e147, hx147_0, hx147_1, hx147_2, hx147_3⟩ := at_T26 HR0.out 0 p147 q147
                        obtain rfl : ad142 = ad147 := (by injection e147)
                        have qi147 : (0 < l0.length) = True := eq_true (by omega)
                        (try rw [show ((0 : Int)).toNat = 0 from rfl] at hx147_0)
                        (try rw [show 0 * 4 = 0 from rfl] at hx147_0)
                        (try rw [Addr.add_zero'] at hx147_0)
                        (try rw [show ((0 : Int)).toNat = 0 from rfl] at hx147_1)
                        (try rw [show 0 * 4 = 0 from rfl] at hx147_1)
                        (try rw [Addr.add_zero'] at hx147_1)
                        (try rw [show ((0 : Int)).toNat = 0 from rfl] at hx147_2)
                        (try rw [show 0 * 4 = 0 from rfl] at hx147_2)
                        (try rw [Addr.add_zero'] at hx147_2)
                        (try rw [show ((0 : Int)).toNat = 0 from rfl] at hx147_3)
                        (try rw [show 0 * 4 = 0 from rfl] at hx147_3)
                        (try rw [Addr.add_zero'] at hx147_3)
                        replace p147 := eq_true p147
                        replace q147 := eq_true q147
                        have p148 : 0 ≤ (0 : Int) := (by omega)
                        have q148 : 0 < (l0.length : Int) := of_decide_eq_true (by first | (with_reducible assumption) | assumption)
                        obtain ⟨ad148, e148, hx148_0, hx148_1, hx148_2, hx148_3⟩ := at_T26 HR0.out 0 p148 q148
                        obtain rfl : ad142 = ad148 := (by injection e148)
                        have qi148 : (0 < l0.length) = True := eq_true (by omega)
                        (try rw [show ((0 : Int)).toNat = 0 from rfl] at hx148_0)
                        (try rw [show 0 * 4 = 0 from rfl] at hx148_0)
                        (try rw [Addr.add_zero'] at hx148_0)
                        (try rw [show ((0 : Int)).toNat = 0 from rfl] at hx148_1)
                        (try rw [show 0 * 4 = 0 from rfl] at hx148_1)
                        (try rw [Addr.add_zero'] at hx148_1)
                        (try rw [show ((0 : Int)).toNat = 0 from rfl] at hx148_2)
                        (try rw [show 0 * 4 = 0 from rfl] at hx148_2)
                        (try rw [Addr.add_zero'] at hx148_2)
                        (try rw [show ((0 : Int)).toNat = 0 from rfl] at hx148_3)
                        (try rw [show 0 * 4 = 0 from rfl] at hx148_3)
                        (try rw [Addr.add_zero'] at hx148_3)
                        replace p148 := eq_true p148
                        replace q148 := eq_true q148
                        have p149 : 0 ≤ (0 : Int) := (by omega)
                        have q149 : 0 < (l0.length : Int) := of_decide_eq_true (by first | (with_reducible assumption) | assumption)
                        obtain ⟨ad149, e149, hx149_0, hx149_1, hx149_2, hx149_3⟩ := at_T26 HR0.out 0 p149 q149
                        obtain rfl : ad142 = ad149 := (by injection e149)
                        have qi149 : (0 < l0.length) = True := eq_true (by omega)
                        (try rw [show ((0 : Int)).toNat = 0 from rfl] at hx149_0)
                        (try rw [show 0 * 4 = 0 from rfl] at hx149_0)
                        (try rw [Addr.add_zero'] at hx149_0)
                        (try rw [show ((0 : Int)).toNat = 0 from rfl] at hx149_1)
                        (try rw [show 0 * 4 = 0 from rfl] at hx149_1)
                        (try rw [Addr.add_zero'] at hx149_1)
                        (try rw [show ((0 : Int)).toNat = 0 from rfl] at hx149_2)
                        (try rw [show 0 * 4 = 0 from rfl] at hx149_2)
                        (try rw [Addr.add_zero'] at hx149_2)
                        (try rw [show ((0 : Int)).toNat = 0 from rfl] at hx149_3)
                        (try rw [show 0 * 4 = 0 from rfl] at hx149_3)
                        (try rw [Addr.add_zero'] at hx149_3)
                        replace p149 := eq_true p149
                        replace q149 := eq_true q149
                        have p14 : 0 ≤ (x8_2 : Int) := of_decide_eq_true (by first | (with_reducible assumption) | assumption)
                        have q14 : x8_2 < (((rd_T26 l0 0).f2).size : Int) := of_decide_eq_true (by first | (with_reducible assumption) | assumption)
                        have hx14 := bt_at ((rd_T26 l0 0).f2) x8_2
                        replace p14 := eq_true p14
                        replace q14 := eq_true q14
                        go_wp2
                        repeat (go_quiet (fail); try go_wp2)
                        go_roundg k2
                        case measure => have := HJ4.out; have := HK2.out; omega
                        case rel => exact ⟨(x7_2), (wrap64 (x8_2 + 1)), (by first | rfl | (simp; done) | (simp [*]; done)), (by first | rfl | (simp; done) | (simp [*]; done)), H', ⟨by have := HJ4.out; have := HK2.out; omega⟩, by repeat (first | exact Drawn0.refl _ | apply Drawn0.step)⟩
                      · rw [if_neg c16] at H
                        have c16b0 : (x7_2 == (a1.size : Int)) = false := beq_eq_false_iff_ne.mpr c16
                        have c16b1 : (x7_2 != (a1.size : Int)) = true := bne_iff_ne.mpr c16
                        obtain rfl := Option.some.inj H
                        have p146 : 0 ≤ (0 : Int) := (by omega)
                        have q146 : 0 < (l0.length : Int) := of_decide_eq_true (by first | (with_reducible assumption) | assumption)
                        obtain ⟨ad146, e146, hx146_0, hx146_1, hx146_2, hx146_3⟩ := at_T26 HR0.out 0 p146 q146
                        obtain rfl : ad142 = ad146 := (by injection e146)
                        have qi146 : (0 < l0.length) = True := eq_true (by omega)
                        (try rw [show ((0 : Int)).toNat = 0 from rfl] at hx146_0)
                        (try rw [show 0 * 4 = 0 from rfl] at hx146_0)
                        (try rw [Addr.add_zero'] at hx146_0)
                        (try rw [show ((0 : Int)).toNat = 0 from rfl] at hx146_1)
                        (try rw [show 0 * 4 = 0 from rfl] at hx146_1)
                        (try rw [Addr.add_zero'] at hx146_1)
                        (try rw [show ((0 : Int)).toNat = 0 from rfl] at hx146_2)
                        (try rw [show 0 * 4 = 0 from rfl] at hx146_2)
                        (try rw [Addr.add_zero'] at hx146_2)
                        (try rw [show ((0 : Int)).toNat = 0 from rfl] at hx146_3)
                        (try rw [show 0 * 4 = 0 from rfl] at hx146_3)
                        (try rw [Addr.add_zero'] at hx146_3)
                        replace p146 := eq_true p146
                        replace q146 := eq_true q146
                        have p147 : 0 ≤ (0 : Int) := (by omega)
                        have q147 : 0 < (l0.length : Int) := of_decide_eq_true (by first | (with_reducible assumption) | assumption)
                        obtain ⟨ad147, e147, hx147_0, hx147_1, hx147_2, hx147_3⟩ := at_T26 HR0.out 0 p147 q147
                        obtain rfl : ad142 = ad147 := (by injection e147)
                        have qi147 : (0 < l0.length) = True := eq_true (by omega)
                        (try rw [show ((0 : Int)).toNat = 0 from rfl] at hx147_0)
                        (try rw [show 0 * 4 = 0 from rfl] at hx147_0)
                        (try rw [Addr.add_zero'] at hx147_0)
                        (try rw [show ((0 : Int)).toNat = 0 from rfl] at hx147_1)
                        (try rw [show 0 * 4 = 0 from rfl] at hx147_1)
                        (try rw [Addr.add_zero'] at hx147_1)
                        (try rw [show ((0 : Int)).toNat = 0 from rfl] at hx147_2)
                        (try rw [show 0 * 4 = 0 from rfl] at hx147_2)
                        (try rw [Addr.add_zero'] at hx147_2)
                        (try rw [show ((0 : Int)).toNat = 0 from rfl] at hx147_3)
                        (try rw [show 0 * 4 = 0 from rfl] at hx147_3)
                        (try rw [Addr.add_zero'] at hx147_3)
                        replace p147 := eq_true p147
                        replace q147 := eq_true q147
                        have p148 : 0 ≤ (0 : Int) := (by omega)
                        have q148 : 0 < (l0.length : Int) := of_decide_eq_true (by first | (with_reducible assumption) | assumption)
                        obtain ⟨ad148, e148, hx148_0, hx148_1, hx148_2, hx148_3⟩ := at_T26 HR0.out 0 p148 q148
                        obtain rfl : ad142 = ad148 := (by injection e148)
                        have qi148 : (0 < l0.length) = True := eq_true (by omega)
                        (try rw [show ((0 : Int)).toNat = 0 from rfl] at hx148_0)
                        (try rw [show 0 * 4 = 0 from rfl] at hx148_0)
                        (try rw [Addr.add_zero'] at hx148_0)
                        (try rw [show ((0 : Int)).toNat = 0 from rfl] at hx148_1)
                        (try rw [show 0 * 4 = 0 from rfl] at hx148_1)
                        (try rw [Addr.add_zero'] at hx148_1)
                        (try rw [show ((0 : Int)).toNat = 0 from rfl] at hx148_2)
                        (try rw [show 0 * 4 = 0 from rfl] at hx148_2)
                        (try rw [Addr.add_zero'] at hx148_2)
                        (try rw [show ((0 : Int)).toNat = 0 from rfl] at hx148_3)
                        (try rw [show 0 * 4 = 0 from rfl] at hx148_3)
                        (try rw [Addr.add_zero'] at hx148_3)
                        replace p148 := eq_true p148
                        replace q148 := eq_true q148
                        have p149 : 0 ≤ (0 : Int) := (by omega)
                        have q149 : 0 < (l0.length : Int) := of_decide_eq_true (by first | (with_reducible assumption) | assumption)
                        obtain ⟨ad149, e149, hx149_0, hx149_1, hx149_2, hx149_3⟩ := at_T26 HR0.out 0 p149 q149
                        obtain rfl : ad142 = ad149 := (by injection e149)
                        have qi149 : (0 < l0.length) = True := eq_true (by omega)
                        (try rw [show ((0 : Int)).toNat = 0 from rfl] at hx149_0)
                        (try rw [show 0 * 4 = 0 from rfl] at hx149_0)
                        (try rw [Addr.add_zero'] at hx149_0)
                        (try rw [show ((0 : Int)).toNat = 0 from rfl] at hx149_1)
                        (try rw [show 0 * 4 = 0 from rfl] at hx149_1)
                        (try rw [Addr.add_zero'] at hx149_1)
                        (try rw [show ((0 : Int)).toNat = 0 from rfl] at hx149_2)
                        (try rw [show 0 * 4 = 0 from rfl] at hx149_2)
                        (try rw [Addr.add_zero'] at hx149_2)
                        (try rw [show ((0 : Int)).toNat = 0 from rfl] at hx149_3)
                        (try rw [show 0 * 4 = 0 from rfl] at hx149_3)
                        (try rw [Addr.add_zero'] at hx149_3)
                        replace p149 := eq_true p149
                        replace q149 := eq_true q149
                        have p14 : 0 ≤ (x8_2 : Int) := of_decide_eq_true (by first | (with_reducible assumption) | assumption)
                        have q14 : x8_2 < (((rd_T26 l0 0).f2).size : Int) := of_decide_eq_true (by first | (with_reducible assumption) | assumption)
                        have hx14 := bt_at ((rd_T26 l0 0).f2) x8_2
                        replace p14 := eq_true p14
                        replace q14 := eq_true q14
                        go_wp2
                        repeat (go_quiet (fail); try go_wp2)
                        go_ret
                        exact ⟨by first | rfl | (simp; done) | (simp [*]; done), by repeat (first | exact Drawn0.refl _ | apply Drawn0.step)⟩
                    · rw [if_neg c15] at H
                      have c15b0 : ((bt ((rd_T26 l0 0).f2) x8_2) == 45) = false := beq_eq_false_iff_ne.mpr c15
                      have c15b1 : ((bt ((rd_T26 l0 0).f2) x8_2) != 45) = true := bne_iff_ne.mpr c15
                      by_cases c17 : x7_2 ≥ (a1.size : Int)
                      · rw [if_pos c17] at H
                        have c17b0 : decide ((a1.size : Int) ≤ x7_2) = true := decide_eq_true c17
                        clear c17
                        obtain rfl := Option.some.inj H
                        have p146 : 0 ≤ (0 : Int) := (by omega)
                        have q146 : 0 < (l0.length : Int) := of_decide_eq_true (by first | (with_reducible assumption) | assumption)
                        obtain ⟨ad146, e146, hx146_0, hx146_1, hx146_2, hx146_3⟩ := at_T26 HR0.out 0 p146 q146
                        obtain rfl : ad142 = ad146 := (by injection e146)
                        have qi146 : (0 < l0.length) = True := eq_true (by omega)
                        (try rw [show ((0 : Int)).toNat = 0 from rfl] at hx146_0)
                        (try rw [show 0 * 4 = 0 from rfl] at hx146_0)
                        (try rw [Addr.add_zero'] at hx146_0)
                        (try rw [show ((0 : Int)).toNat = 0 from rfl] at hx146_1)
                        (try rw [show 0 * 4 = 0 from rfl] at hx146_1)
                        (try rw [Addr.add_zero'] at hx146_1)
                        (try rw [show ((0 : Int)).toNat = 0 from rfl] at hx146_2)
                        (try rw [show 0 * 4 = 0 from rfl] at hx146_2)
                        (try rw [Addr.add_zero'] at hx146_2)
                        (try rw [show ((0 : Int)).toNat = 0 from rfl] at hx146_3)
                        (try rw [show 0 * 4 = 0 from rfl] at hx146_3)
                        (try rw [Addr.add_zero'] at hx146_3)
                        replace p146 := eq_true p146
                        replace q146 := eq_true q146
                        have p147 : 0 ≤ (0 : Int) := (by omega)
                        have q147 : 0 < (l0.length : Int) := of_decide_eq_true (by first | (with_reducible assumption) | assumption)
                        obtain ⟨ad147, e147, hx147_0, hx147_1, hx147_2, hx147_3⟩ := at_T26 HR0.out 0 p147 q147
                        obtain rfl : ad142 = ad147 := (by injection e147)
                        have qi147 : (0 < l0.length) = True := eq_true (by omega)
                        (try rw [show ((0 : Int)).toNat = 0 from rfl] at hx147_0)
                        (try rw [show 0 * 4 = 0 from rfl] at hx147_0)
                        (try rw [Addr.add_zero'] at hx147_0)
                        (try rw [show ((0 : Int)).toNat = 0 from rfl] at hx147_1)
                        (try rw [show 0 * 4 = 0 from rfl] at hx147_1)
                        (try rw [Addr.add_zero'] at hx147_1)
                        (try rw [show ((0 : Int)).toNat = 0 from rfl] at hx147_2)
                        (try rw [show 0 * 4 = 0 from rfl] at hx147_2)
                        (try rw [Addr.add_zero'] at hx147_2)
                        (try rw [show ((0 : Int)).toNat = 0 from rfl] at hx147_3)
                        (try rw [show 0 * 4 = 0 from rfl] at hx147_3)
                        (try rw [Addr.add_zero'] at hx147_3)
                        replace p147 := eq_true p147
                        replace q147 := eq_true q147
                        have p148 : 0 ≤ (0 : Int) := (by omega)
                        have q148 : 0 < (l0.length : Int) := of_decide_eq_true (by first | (with_reducible assumption) | assumption)
                        obtain ⟨ad148, e148, hx148_0, hx148_1, hx148_2, hx148_3⟩ := at_T26 HR0.out 0 p148 q148
                        obtain rfl : ad142 = ad148 := (by injection e148)
                        have qi148 : (0 < l0.length) = True := eq_true (by omega)
                        (try rw [show ((0 : Int)).toNat = 0 from rfl] at hx148_0)
                        (try rw [show 0 * 4 = 0 from rfl] at hx148_0)
                        (try rw [Addr.add_zero'] at hx148_0)
                        (try rw [show ((0 : Int)).toNat = 0 from rfl] at hx148_1)
                        (try rw [show 0 * 4 = 0 from rfl] at hx148_1)
                        (try rw [Addr.add_zero'] at hx148_1)
                        (try rw [show ((0 : Int)).toNat = 0 from rfl] at hx148_2)
                        (try rw [show 0 * 4 = 0 from rfl] at hx148_2)
                        (try rw [Addr.add_zero'] at hx148_2)
                        (try rw [show ((0 : Int)).toNat = 0 from rfl] at hx148_3)
                        (try rw [show 0 * 4 = 0 from rfl] at hx148_3)
                        (try rw [Addr.add_zero'] at hx148_3)
                        replace p148 := eq_true p148
                        replace q148 := eq_true q148
                        have p149 : 0 ≤ (0 : Int) := (by omega)
                        have q149 : 0 < (l0.length : Int) := of_decide_eq_true (by first | (with_reducible assumption) | assumption)
                        obtain ⟨ad149, e149, hx149_0, hx149_1, hx149_2, hx149_3⟩ := at_T26 HR0.out 0 p149 q149
                        obtain rfl : ad142 = ad149 := (by injection e149)
                        have qi149 : (0 < l0.length) = True := eq_true (by omega)
                        (try rw [show ((0 : Int)).toNat = 0 from rfl] at hx149_0)
                        (try rw [show 0 * 4 = 0 from rfl] at hx149_0)
                        (try rw [Addr.add_zero'] at hx149_0)
                        (try rw [show ((0 : Int)).toNat = 0 from rfl] at hx149_1)
                        (try rw [show 0 * 4 = 0 from rfl] at hx149_1)
                        (try rw [Addr.add_zero'] at hx149_1)
                        (try rw [show ((0 : Int)).toNat = 0 from rfl] at hx149_2)
                        (try rw [show 0 * 4 = 0 from rfl] at hx149_2)
                        (try rw [Addr.add_zero'] at hx149_2)
                        (try rw [show ((0 : Int)).toNat = 0 from rfl] at hx149_3)
                        (try rw [show 0 * 4 = 0 from rfl] at hx149_3)
                        (try rw [Addr.add_zero'] at hx149_3)
                        replace p149 := eq_true p149
                        replace q149 := eq_true q149
                        have p14 : 0 ≤ (x8_2 : Int) := of_decide_eq_true (by first | (with_reducible assumption) | assumption)
                        have q14 : x8_2 < (((rd_T26 l0 0).f2).size : Int) := of_decide_eq_true (by first | (with_reducible assumption) | assumption)
                        have hx14 := bt_at ((rd_T26 l0 0).f2) x8_2
                        replace p14 := eq_true p14
                        replace q14 := eq_true q14
                        go_wp2
                        repeat (go_quiet (fail); try go_wp2)
                        go_ret
                        exact ⟨by first | rfl | (simp; done) | (simp [*]; done), by repeat (first | exact Drawn0.refl _ | apply Drawn0.step)⟩
                      · rw [if_neg c17] at H
                        have c17b0 : decide ((a1.size : Int) ≤ x7_2) = false := decide_eq_false c17
                        clear c17
                        by_cases c19 : 0 ≤ x7_2
                        · rw [if_pos c19] at H
                          have c19b0 : decide (0 ≤ x7_2) = true := decide_eq_true c19
                          clear c19
                          by_cases c20 : x7_2 < (a1.size : Int)
                          · rw [if_pos c20] at H
                            have c20b0 : decide (x7_2 < (a1.size : Int)) = true := decide_eq_true c20
                            clear c20
                            replace H := Option.bind_eq_some_iff.mp H
                            obtain ⟨t152, A220, H⟩ := H
                            replace H : (if t152 = true then (spec_l07Matches.l0 k2 l0 a1 a2 (wrap64 (x7_2 + 1)) (wrap64 (x8_2 + 1))) else (some false)) = some r := H
                            have A22 := Aside0.mk A220
                            clear A220
                            by_cases c23 : t152 = true
                            · subst c23
                              have H1 : (spec_l07Matches.l0 k2 l0 a1 a2 (wrap64 (x7_2 + 1)) (wrap64 (x8_2 + 1))) = some r := by rw [if_pos rfl] at H; exact H
                              clear H
                              have H := H1
                              clear H1
                              have H' := Aside0.mk H
                              clear H
                              have p146 : 0 ≤ (0 : Int) := (by omega)
                              have q146 : 0 < (l0.length : Int) := of_decide_eq_true (by first | (with_reducible assumption) | assumption)
                              obtain ⟨ad146, e146, hx146_0, hx146_1, hx146_2, hx146_3⟩ := at_T26 HR0.out 0 p146 q146
                              obtain rfl : ad142 = ad146 := (by injection e146)
                              have qi146 : (0 < l0.length) = True := eq_true (by omega)
                              (try rw [show ((0 : Int)).toNat = 0 from rfl] at hx146_0)
                              (try rw [show 0 * 4 = 0 from rfl] at hx146_0)
                              (try rw [Addr.add_zero'] at hx146_0)
                              (try rw [show ((0 : Int)).toNat = 0 from rfl] at hx146_1)
                              (try rw [show 0 * 4 = 0 from rfl] at hx146_1)
                              (try rw [Addr.add_zero'] at hx146_1)
                              (try rw [show ((0 : Int)).toNat = 0 from rfl] at hx146_2)
                              (try rw [show 0 * 4 = 0 from rfl] at hx146_2)
                              (try rw [Addr.add_zero'] at hx146_2)
                              (try rw [show ((0 : Int)).toNat = 0 from rfl] at hx146_3)
                              (try rw [show 0 * 4 = 0 from rfl] at hx146_3)
                              (try rw [Addr.add_zero'] at hx146_3)
                              replace p146 := eq_true p146
                              replace q146 := eq_true q146
                              have p147 : 0 ≤ (0 : Int) := (by omega)
                              have q147 : 0 < (l0.length : Int) := of_decide_eq_true (by first | (with_reducible assumption) | assumption)
                              obtain ⟨ad147, e147, hx147_0, hx147_1, hx147_2, hx147_3⟩ := at_T26 HR0.out 0 p147 q147
                              obtain rfl : ad142 = ad147 := (by injection e147)
                              have qi147 : (0 < l0.length) = True := eq_true (by omega)
                              (try rw [show ((0 : Int)).toNat = 0 from rfl] at hx147_0)
                              (try rw [show 0 * 4 = 0 from rfl] at hx147_0)
                              (try rw [Addr.add_zero'] at hx147_0)
                              (try rw [show ((0 : Int)).toNat = 0 from rfl] at hx147_1)
                              (try rw [show 0 * 4 = 0 from rfl] at hx147_1)
                              (try rw [Addr.add_zero'] at hx147_1)
                              (try rw [show ((0 : Int)).toNat = 0 from rfl] at hx147_2)
                              (try rw [show 0 * 4 = 0 from rfl] at hx147_2)
                              (try rw [Addr.add_zero'] at hx147_2)
                              (try rw [show ((0 : Int)).toNat = 0 from rfl] at hx147_3)
                              (try rw [show 0 * 4 = 0 from rfl] at hx147_3)
                              (try rw [Addr.add_zero'] at hx147_3)
                              replace p147 := eq_true p147
                              replace q147 := eq_true q147
                              have p148 : 0 ≤ (0 : Int) := (by omega)
                              have q148 : 0 < (l0.length : Int) := of_decide_eq_true (by first | (with_reducible assumption) | assumption)
                              obtain ⟨ad148, e148, hx148_0, hx148_1, hx148_2, hx148_3⟩ := at_T26 HR0.out 0 p148 q148
                              obtain rfl : ad142 = ad148 := (by injection e148)
                              have qi148 : (0 < l0.length) = True := eq_true (by omega)
                              (try rw [show ((0 : Int)).toNat = 0 from rfl] at hx148_0)
                              (try rw [show 0 * 4 = 0 from rfl] at hx148_0)
                              (try rw [Addr.add_zero'] at hx148_0)
                              (try rw [show ((0 : Int)).toNat = 0 from rfl] at hx148_1)
                              (try rw [show 0 * 4 = 0 from rfl] at hx148_1)
                              (try rw [Addr.add_zero'] at hx148_1)
                              (try rw [show ((0 : Int)).toNat = 0 from rfl] at hx148_2)
                              (try rw [show 0 * 4 = 0 from rfl] at hx148_2)
                              (try rw [Addr.add_zero'] at hx148_2)
                              (try rw [show ((0 : Int)).toNat = 0 from rfl] at hx148_3)
                              (try rw [show 0 * 4 = 0 from rfl] at hx148_3)
                              (try rw [Addr.add_zero'] at hx148_3)
                              replace p148 := eq_true p148
                              replace q148 := eq_true q148
                              have p149 : 0 ≤ (0 : Int) := (by omega)
                              have q149 : 0 < (l0.length : Int) := of_decide_eq_true (by first | (with_reducible assumption) | assumption)
                              obtain ⟨ad149, e149, hx149_0, hx149_1, hx149_2, hx149_3⟩ := at_T26 HR0.out 0 p149 q149
                              obtain rfl : ad142 = ad149 := (by injection e149)
                              have qi149 : (0 < l0.length) = True := eq_true (by omega)
                              (try rw [show ((0 : Int)).toNat = 0 from rfl] at hx149_0)
                              (try rw [show 0 * 4 = 0 from rfl] at hx149_0)
                              (try rw [Addr.add_zero'] at hx149_0)
                              (try rw [show ((0 : Int)).toNat = 0 from rfl] at hx149_1)
                              (try rw [show 0 * 4 = 0 from rfl] at hx149_1)
                              (try rw [Addr.add_zero'] at hx149_1)
                              (try rw [show ((0 : Int)).toNat = 0 from rfl] at hx149_2)
                              (try rw [show 0 * 4 = 0 from rfl] at hx149_2)
                              (try rw [Addr.add_zero'] at hx149_2)
                              (try rw [show ((0 : Int)).toNat = 0 from rfl] at hx149_3)
                              (try rw [show 0 * 4 = 0 from rfl] at hx149_3)
                              (try rw [Addr.add_zero'] at hx149_3)
                              replace p149 := eq_true p149
                              replace q149 := eq_true q149
                              have p14 : 0 ≤ (x8_2 : Int) := of_decide_eq_true (by first | (with_reducible assumption) | assumption)
                              have q14 : x8_2 < (((rd_T26 l0 0).f2).size : Int) := of_decide_eq_true (by first | (with_reducible assumption) | assumption)
                              have hx14 := bt_at ((rd_T26 l0 0).f2) x8_2
                              replace p14 := eq_true p14
                              replace q14 := eq_true q14
                              have p150 : 0 ≤ (0 : Int) := (by omega)
                              have q150 : 0 < (l0.length : Int) := of_decide_eq_true (by first | (with_reducible assumption) | assumption)
                              obtain ⟨ad150, e150, hx150_0, hx150_1, hx150_2, hx150_3⟩ := at_T26 HR0.out 0 p150 q150
                              obtain rfl : ad142 = ad150 := (by injection e150)
                              have qi150 : (0 < l0.length) = True := eq_true (by omega)
                              (try rw [show ((0 : Int)).toNat = 0 from rfl] at hx150_0)
                              (try rw [show 0 * 4 = 0 from rfl] at hx150_0)
                              (try rw [Addr.add_zero'] at hx150_0)
                              (try rw [show ((0 : Int)).toNat = 0 from rfl] at hx150_1)
                              (try rw [show 0 * 4 = 0 from rfl] at hx150_1)
                              (try rw [Addr.add_zero'] at hx150_1)
                              (try rw [show ((0 : Int)).toNat = 0 from rfl] at hx150_2)
                              (try rw [show 0 * 4 = 0 from rfl] at hx150_2)
                              (try rw [Addr.add_zero'] at hx150_2)
                              (try rw [show ((0 : Int)).toNat = 0 from rfl] at hx150_3)
                              (try rw [show 0 * 4 = 0 from rfl] at hx150_3)
                              (try rw [Addr.add_zero'] at hx150_3)
                              replace p150 := eq_true p150
                              replace q150 := eq_true q150
                              have p151 : 0 ≤ (0 : Int) := (by omega)
                              have q151 : 0 < (l0.length : Int) := of_decide_eq_true (by first | (with_reducible assumption) | assumption)
                              obtain ⟨ad151, e151, hx151_0, hx151_1, hx151_2, hx151_3⟩ := at_T26 HR0.out 0 p151 q151
                              obtain rfl : ad142 = ad151 := (by injection e151)
                              have qi151 : (0 < l0.length) = True := eq_true (by omega)
                              (try rw [show ((0 : Int)).toNat = 0 from rfl] at hx151_0)
                              (try rw [show 0 * 4 = 0 from rfl] at hx151_0)
                              (try rw [Addr.add_zero'] at hx151_0)
                              (try rw [show ((0 : Int)).toNat = 0 from rfl] at hx151_1)
                              (try rw [show 0 * 4 = 0 from rfl] at hx151_1)
                              (try rw [Addr.add_zero'] at hx151_1)
                              (try rw [show ((0 : Int)).toNat = 0 from rfl] at hx151_2)
                              (try rw [show 0 * 4 = 0 from rfl] at hx151_2)
                              (try rw [Addr.add_zero'] at hx151_2)
                              (try rw [show ((0 : Int)).toNat = 0 from rfl] at hx151_3)
                              (try rw [show 0 * 4 = 0 from rfl] at hx151_3)
                              (try rw [Addr.add_zero'] at hx151_3)
                              replace p151 := eq_true p151
                              replace q151 := eq_true q151
                              have p18 : 0 ≤ (x8_2 : Int) := of_decide_eq_true (by first | (with_reducible assumption) | assumption)
                              have q18 : x8_2 < (((rd_T26 l0 0).f2).size : Int) := of_decide_eq_true (by first | (with_reducible assumption) | assumption)
                              have hx18 := bt_at ((rd_T26 l0 0).f2) x8_2
                              replace p18 := eq_true p18
                              replace q18 := eq_true q18
                              have p21 : 0 ≤ (x7_2 : Int) := of_decide_eq_true (by first | (with_reducible assumption) | assumption)
                              have q21 : x7_2 < (a1.size : Int) := of_decide_eq_true (by first | (with_reducible assumption) | assumption)
                              have hx21 := bt_at a1 x7_2
                              replace p21 := eq_true p21
                              replace q21 := eq_true q21
                              go_wp2_with (first | (go_at_call 75; (with_reducible refine (spec_l07Sign.calls (bt ((rd_T26 l0 0).f2) x8_2) (bt a1 x7_2) true _ A22.out).mono ?_); rintro e w' ⟨rfl, ⟨nd, rfl⟩⟩; (try first | exact ⟨rfl, _, World.drewN_drewN _ _ _⟩ | exact ⟨rfl, _, Eq.trans (World.drewN_drewN _ _ _) (congrArg (World.drewN _) (Nat.add_assoc _ _ _))⟩)))
                              repeat (go_quiet (first | (go_at_call 75; (with_reducible refine (spec_l07Sign.calls (bt ((rd_T26 l0 0).f2) x8_2) (bt a1 x7_2) true _ A22.out).mono ?_); rintro e w' ⟨rfl, ⟨nd, rfl⟩⟩; (try first | exact ⟨rfl, _, World.drewN_drewN _ _ _⟩ | exact ⟨rfl, _, Eq.trans (World.drewN_drewN _ _ _) (congrArg (World.drewN _) (Nat.add_assoc _ _ _))⟩))); try go_wp2_with (first | (go_at_call 75; (with_reducible refine (spec_l07Sign.calls (bt ((rd_T26 l0 0).f2) x8_2) (bt a1 x7_2) true _ A22.out).mono ?_); rintro e w' ⟨rfl, ⟨nd, rfl⟩⟩; (try first | exact ⟨rfl, _, World.drewN_drewN _ _ _⟩ | exact ⟨rfl, _, Eq.trans (World.drewN_drewN _ _ _) (congrArg (World.drewN _) (Nat.add_assoc _ _ _))⟩))))
                              go_roundg k2
                              case measure => have := HJ4.out; have := HK2.out; omega
                              case rel => exact ⟨(wrap64 (x7_2 + 1)), (wrap64 (x8_2 + 1)), (by first | rfl | (simp; done) | (simp [*]; done)), (by first | rfl | (simp; done) | (simp [*]; done)), H', ⟨by have := HJ4.out; have := HK2.out; omega⟩, by repeat (first | exact Drawn0.refl _ | apply Drawn0.step)⟩
                            · replace c23 := Bool.eq_false_iff.mpr c23
                              subst c23
                              have H1 : (some false) = some r := by rw [if_neg (show ¬ (false = true) by decide)] at H; exact H
                              clear H
                              have H := H1
                              clear H1
                              obtain rfl := Option.some.inj H
                              have p146 : 0 ≤ (0 : Int) := (by omega)
                              have q146 : 0 < (l0.length : Int) := of_decide_eq_true (by first | (with_reducible assumption) | assumption)
                              obtain ⟨ad146, e146, hx146_0, hx146_1, hx146_2, hx146_3⟩ := at_T26 HR0.out 0 p146 q146
                              obtain rfl : ad142 = ad146 := (by injection e146)
                              have qi146 : (0 < l0.length) = True := eq_true (by omega)
                              (try rw [show ((0 : Int)).toNat = 0 from rfl] at hx146_0)
                              (try rw [show 0 * 4 = 0 from rfl] at hx146_0)
                              (try rw [Addr.add_zero'] at hx146_0)
                              (try rw [show ((0 : Int)).toNat = 0 from rfl] at hx146_1)
                              (try rw [show 0 * 4 = 0 from rfl] at hx146_1)
                              (try rw [Addr.add_zero'] at hx146_1)
                              (try rw [show ((0 : Int)).toNat = 0 from rfl] at hx146_2)
                              (try rw [show 0 * 4 = 0 from rfl] at hx146_2)
                              (try rw [Addr.add_zero'] at hx146_2)
                              (try rw [show ((0 : Int)).toNat = 0 from rfl] at hx146_3)
                              (try rw [show 0 * 4 = 0 from rfl] at hx146_3)
                              (try rw [Addr.add_zero'] at hx146_3)
                              replace p146 := eq_true p146
                              replace q146 := eq_true q146
                              have p147 : 0 ≤ (0 : Int) := (by omega)
                              have q147 : 0 < (l0.length : Int) := of_decide_eq_true (by first | (with_reducible assumption) | assumption)
                              obtain ⟨ad147, e147, hx147_0, hx147_1, hx147_2, hx147_3⟩ := at_T26 HR0.out 0 p147 q147
                              obtain rfl : ad142 = ad147 := (by injection e147)
                              have qi147 : (0 < l0.length) = True := eq_true (by omega)
                              (try rw [show ((0 : Int)).toNat = 0 from rfl] at hx147_0)
                              (try rw [show 0 * 4 = 0 from rfl] at hx147_0)
                              (try rw [Addr.add_zero'] at hx147_0)
                              (try rw [show ((0 : Int)).toNat = 0 from rfl] at hx147_1)
                              (try rw [show 0 * 4 = 0 from rfl] at hx147_1)
                              (try rw [Addr.add_zero'] at hx147_1)
                              (try rw [show ((0 : Int)).toNat = 0 from rfl] at hx147_2)
                              (try rw [show 0 * 4 = 0 from rfl] at hx147_2)
                              (try rw [Addr.add_zero'] at hx147_2)
                              (try rw [show ((0 : Int)).toNat = 0 from rfl] at hx147_3)
                              (try rw [show 0 * 4 = 0 from rfl] at hx147_3)
                              (try rw [Addr.add_zero'] at hx147_3)
                              replace p147 := eq_true p147
                              replace q147 := eq_true q147
                              have p148 : 0 ≤ (0 : Int) := (by omega)
                              have q148 : 0 < (l0.length : Int) := of_decide_eq_true (by first | (with_reducible assumption) | assumption)
                              obtain ⟨ad148, e148, hx148_0, hx148_1, hx148_2, hx148_3⟩ := at_T26 HR0.out 0 p148 q148
                              obtain rfl : ad142 = ad148 := (by injection e148)
                              have qi148 : (0 < l0.length) = True := eq_true (by omega)
                              (try rw [show ((0 : Int)).toNat = 0 from rfl] at hx148_0)
                              (try rw [show 0 * 4 = 0 from rfl] at hx148_0)
                              (try rw [Addr.add_zero'] at hx148_0)
                              (try rw [show ((0 : Int)).toNat = 0 from rfl] at hx148_1)
                              (try rw [show 0 * 4 = 0 from rfl] at hx148_1)
                              (try rw [Addr.add_zero'] at hx148_1)
                              (try rw [show ((0 : Int)).toNat = 0 from rfl] at hx148_2)
                              (try rw [show 0 * 4 = 0 from rfl] at hx148_2)
                              (try rw [Addr.add_zero'] at hx148_2)
                              (try rw [show ((0 : Int)).toNat = 0 from rfl] at hx148_3)
                              (try rw [show 0 * 4 = 0 from rfl] at hx148_3)
                              (try rw [Addr.add_zero'] at hx148_3)
                              replace p148 := eq_true p148
                              replace q148 := eq_true q148
                              have p149 : 0 ≤ (0 : Int) := (by omega)
                              have q149 : 0 < (l0.length : Int) := of_decide_eq_true (by first | (with_reducible assumption) | assumption)
                              obtain ⟨ad149, e149, hx149_0, hx149_1, hx149_2, hx149_3⟩ := at_T26 HR0.out 0 p149 q149
                              obtain rfl : ad142 = ad149 := (by injection e149)
                              have qi149 : (0 < l0.length) = True := eq_true (by omega)
                              (try rw [show ((0 : Int)).toNat = 0 from rfl] at hx149_0)
                              (try rw [show 0 * 4 = 0 from rfl] at hx149_0)
                              (try rw [Addr.add_zero'] at hx149_0)
                              (try rw [show ((0 : Int)).toNat = 0 from rfl] at hx149_1)
                              (try rw [show 0 * 4 = 0 from rfl] at hx149_1)
                              (try rw [Addr.add_zero'] at hx149_1)
                              (try rw [show ((0 : Int)).toNat = 0 from rfl] at hx149_2)
                              (try rw [show 0 * 4 = 0 from rfl] at hx149_2)
                              (try rw [Addr.add_zero'] at hx149_2)
                              (try rw [show ((0 : Int)).toNat = 0 from rfl] at hx149_3)
                              (try rw [show 0 * 4 = 0 from rfl] at hx149_3)
                              (try rw [Addr.add_zero'] at hx149_3)
                              replace p149 := eq_true p149
                              replace q149 := eq_true q149
                              have p14 : 0 ≤ (x8_2 : Int) := of_decide_eq_true (by first | (with_reducible assumption) | assumption)
                              have q14 : x8_2 < (((rd_T26 l0 0).f2).size : Int) := of_decide_eq_true (by first | (with_reducible assumption) | assumption)
                              have hx14 := bt_at ((rd_T26 l0 0).f2) x8_2
                              replace p14 := eq_true p14
                              replace q14 := eq_true q14
                              have p150 : 0 ≤ (0 : Int) := (by omega)
                              have q150 : 0 < (l0.length : Int) := of_decide_eq_true (by first | (with_reducible assumption) | assumption)
                              obtain ⟨ad150, e150, hx150_0, hx150_1, hx150_2, hx150_3⟩ := at_T26 HR0.out 0 p150 q150
                              obtain rfl : ad142 = ad150 := (by injection e150)
                              have qi150 : (0 < l0.length) = True := eq_true (by omega)
                              (try rw [show ((0 : Int)).toNat = 0 from rfl] at hx150_0)
                              (try rw [show 0 * 4 = 0 from rfl] at hx150_0)
                              (try rw [Addr.add_zero'] at hx150_0)
                              (try rw [show ((0 : Int)).toNat = 0 from rfl] at hx150_1)
                              (try rw [show 0 * 4 = 0 from rfl] at hx150_1)
                              (try rw [Addr.add_zero'] at hx150_1)
                              (try rw [show ((0 : Int)).toNat = 0 from rfl] at hx150_2)
                              (try rw [show 0 * 4 = 0 from rfl] at hx150_2)
                              (try rw [Addr.add_zero'] at hx150_2)
                              (try rw [show ((0 : Int)).toNat = 0 from rfl] at hx150_3)
                              (try rw [show 0 * 4 = 0 from rfl] at hx150_3)
                              (try rw [Addr.add_zero'] at hx150_3)
                              replace p150 := eq_true p150
                              replace q150 := eq_true q150
                              have p151 : 0 ≤ (0 : Int) := (by omega)
                              have q151 : 0 < (l0.length : Int) := of_decide_eq_true (by first | (with_reducible assumption) | assumption)
                              obtain ⟨ad151, e151, hx151_0, hx151_1, hx151_2, hx151_3⟩ := at_T26 HR0.out 0 p151 q151
                              obtain rfl : ad142 = ad151 := (by injection e151)
                              have qi151 : (0 < l0.length) = True := eq_true (by omega)
                              (try rw [show ((0 : Int)).toNat = 0 from rfl] at hx151_0)
                              (try rw [show 0 * 4 = 0 from rfl] at hx151_0)
                              (try rw [Addr.add_zero'] at hx151_0)
                              (try rw [show ((0 : Int)).toNat = 0 from rfl] at hx151_1)
                              (try rw [show 0 * 4 = 0 from rfl] at hx151_1)
                              (try rw [Addr.add_zero'] at hx151_1)
                              (try rw [show ((0 : Int)).toNat = 0 from rfl] at hx151_2)
                              (try rw [show 0 * 4 = 0 from rfl] at hx151_2)
                              (try rw [Addr.add_zero'] at hx151_2)
                              (try rw [show ((0 : Int)).toNat = 0 from rfl] at hx151_3)
                              (try rw [show 0 * 4 = 0 from rfl] at hx151_3)
                              (try rw [Addr.add_zero'] at hx151_3)
                              replace p151 := eq_true p151
                              replace q151 := eq_true q151
                              have p18 : 0 ≤ (x8_2 : Int) := of_decide_eq_true (by first | (with_reducible assumption) | assumption)
                              have q18 : x8_2 < (((rd_T26 l0 0).f2).size : Int) := of_decide_eq_true (by first | (with_reducible assumption) | assumption)
                              have hx18 := bt_at ((rd_T26 l0 0).f2) x8_2
                              replace p18 := eq_true p18
                              replace q18 := eq_true q18
                              have p21 : 0 ≤ (x7_2 : Int) := of_decide_eq_true (by first | (with_reducible assumption) | assumption)
                              have q21 : x7_2 < (a1.size : Int) := of_decide_eq_true (by first | (with_reducible assumption) | assumption)
                              have hx21 := bt_at a1 x7_2
                              replace p21 := eq_true p21
                              replace q21 := eq_true q21
                              go_wp2_with (first | (go_at_call 75; (with_reducible refine (spec_l07Sign.calls (bt ((rd_T26 l0 0).f2) x8_2) (bt a1 x7_2) false _ A22.out).mono ?_); rintro e w' ⟨rfl, ⟨nd, rfl⟩⟩; (try first | exact ⟨rfl, _, World.drewN_drewN _ _ _⟩ | exact ⟨rfl, _, Eq.trans (World.drewN_drewN _ _ _) (congrArg (World.drewN _) (Nat.add_assoc _ _ _))⟩)))
                              repeat (go_quiet (first | (go_at_call 75; (with_reducible refine (spec_l07Sign.calls (bt ((rd_T26 l0 0).f2) x8_2) (bt a1 x7_2) false _ A22.out).mono ?_); rintro e w' ⟨rfl, ⟨nd, rfl⟩⟩; (try first | exact ⟨rfl, _, World.drewN_drewN _ _ _⟩ | exact ⟨rfl, _, Eq.trans (World.drewN_drewN _ _ _) (congrArg (World.drewN _) (Nat.add_assoc _ _ _))⟩))); try go_wp2_with (first | (go_at_call 75; (with_reducible refine (spec_l07Sign.calls (bt ((rd_T26 l0 0).f2) x8_2) (bt a1 x7_2) false _ A22.out).mono ?_); rintro e w' ⟨rfl, ⟨nd, rfl⟩⟩; (try first | exact ⟨rfl, _, World.drewN_drewN _ _ _⟩ | exact ⟨rfl, _, Eq.trans (World.drewN_drewN _ _ _) (congrArg (World.drewN _) (Nat.add_assoc _ _ _))⟩))))
                              go_ret
                              exact ⟨by first | rfl | (simp; done) | (simp [*]; done), by repeat (first | exact Drawn0.refl _ | apply Drawn0.step)⟩
                          · rw [if_neg c20] at H
                            exact absurd H (by simp)
                        · rw [if_neg c19] at H
                          exact absurd H (by simp)
                  · rw [if_neg c13] at H
                    exact absurd H (by simp)
                · rw [if_neg c12] at H
                  have c12b0 : decide (x8_2 < (((rd_T26 l0 0).f2).size : Int)) = false := decide_eq_false c12
                  clear c12
                  have H' := Aside0.mk H
                  clear H
                  have p146 : 0 ≤ (0 : Int) := (by omega)
                  have q146 : 0 < (l0.length : Int) := of_decide_eq_true (by first | (with_reducible assumption) | assumption)
                  obtain ⟨ad146, e146, hx146_0, hx146_1, hx146_2, hx146_3⟩ := at_T26 HR0.out 0 p146 q146
                  obtain rfl : ad142 = ad146 := (by injection e146)
                  have qi146 : (0 < l0.length) = True := eq_true (by omega)
                  (try rw [show ((0 : Int)).toNat = 0 from rfl] at hx146_0)
                  (try rw [show 0 * 4 = 0 from rfl] at hx146_0)
                  (try rw [Addr.add_zero'] at hx146_0)
                  (try rw [show ((0 : Int)).toNat = 0 from rfl] at hx146_1)
                  (try rw [show 0 * 4 = 0 from rfl] at hx146_1)
                  (try rw [Addr.add_zero'] at hx146_1)
                  (try rw [show ((0 : Int)).toNat = 0 from rfl] at hx146_2)
                  (try rw [show 0 * 4 = 0 from rfl] at hx146_2)
                  (try rw [Addr.add_zero'] at hx146_2)
                  (try rw [show ((0 : Int)).toNat = 0 from rfl] at hx146_3)
                  (try rw [show 0 * 4 = 0 from rfl] at hx146_3)
                  (try rw [Addr.add_zero'] at hx146_3)
                  replace p146 := eq_true p146
                  replace q146 := eq_true q146
                  have p147 : 0 ≤ (0 : Int) := (by omega)
                  have q147 : 0 < (l0.length : Int) := of_decide_eq_true (by first | (with_reducible assumption) | assumption)
                  obtain ⟨ad147, e147, hx147_0, hx147_1, hx147_2, hx147_3⟩ := at_T26 HR0.out 0 p147 q147
                  obtain rfl : ad142 = ad147 := (by injection e147)
                  have qi147 : (0 < l0.length) = True := eq_true (by omega)
                  (try rw [show ((0 : Int)).toNat = 0 from rfl] at hx147_0)
                  (try rw [show 0 * 4 = 0 from rfl] at hx147_0)
                  (try rw [Addr.add_zero'] at hx147_0)
                  (try rw [show ((0 : Int)).toNat = 0 from rfl] at hx147_1)
                  (try rw [show 0 * 4 = 0 from rfl] at hx147_1)
                  (try rw [Addr.add_zero'] at hx147_1)
                  (try rw [show ((0 : Int)).toNat = 0 from rfl] at hx147_2)
                  (try rw [show 0 * 4 = 0 from rfl] at hx147_2)
                  (try rw [Addr.add_zero'] at hx147_2)
                  (try rw [show ((0 : Int)).toNat = 0 from rfl] at hx147_3)
                  (try rw [show 0 * 4 = 0 from rfl] at hx147_3)
                  (try rw [Addr.add_zero'] at hx147_3)
                  replace p147 := eq_true p147
                  replace q147 := eq_true q147
                  have p153 : 0 ≤ (0 : Int) := (by omega)
                  have q153 : 0 < (l0.length : Int) := of_decide_eq_true (by first | (with_reducible assumption) | assumption)
                  obtain ⟨ad153, e153, hx153_0, hx153_1, hx153_2, hx153_3⟩ := at_T26 HR0.out 0 p153 q153
                  obtain rfl : ad142 = ad153 := (by injection e153)
                  have qi153 : (0 < l0.length) = True := eq_true (by omega)
                  (try rw [show ((0 : Int)).toNat = 0 from rfl] at hx153_0)
                  (try rw [show 0 * 4 = 0 from rfl] at hx153_0)
                  (try rw [Addr.add_zero'] at hx153_0)
                  (try rw [show ((0 : Int)).toNat = 0 from rfl] at hx153_1)
                  (try rw [show 0 * 4 = 0 from rfl] at hx153_1)
                  (try rw [Addr.add_zero'] at hx153_1)
                  (try rw [show ((0 : Int)).toNat = 0 from rfl] at hx153_2)
                  (try rw [show 0 * 4 = 0 from rfl] at hx153_2)
                  (try rw [Addr.add_zero'] at hx153_2)
                  (try rw [show ((0 : Int)).toNat = 0 from rfl] at hx153_3)
                  (try rw [show 0 * 4 = 0 from rfl] at hx153_3)
                  (try rw [Addr.add_zero'] at hx153_3)
                  replace p153 := eq_true p153
                  replace q153 := eq_true q153
                  have p154 : 0 ≤ (0 : Int) := (by omega)
                  have q154 : 0 < (l0.length : Int) := of_decide_eq_true (by first | (with_reducible assumption) | assumption)
                  obtain ⟨ad154, e154, hx154_0, hx154_1, hx154_2, hx154_3⟩ := at_T26 HR0.out 0 p154 q154
                  obtain rfl : ad142 = ad154 := (by injection e154)
                  have qi154 : (0 < l0.length) = True := eq_true (by omega)
                  (try rw [show ((0 : Int)).toNat = 0 from rfl] at hx154_0)
                  (try rw [show 0 * 4 = 0 from rfl] at hx154_0)
                  (try rw [Addr.add_zero'] at hx154_0)
                  (try rw [show ((0 : Int)).toNat = 0 from rfl] at hx154_1)
                  (try rw [show 0 * 4 = 0 from rfl] at hx154_1)
                  (try rw [Addr.add_zero'] at hx154_1)
                  (try rw [show ((0 : Int)).toNat = 0 from rfl] at hx154_2)
                  (try rw [show 0 * 4 = 0 from rfl] at hx154_2)
                  (try rw [Addr.add_zero'] at hx154_2)
                  (try rw [show ((0 : Int)).toNat = 0 from rfl] at hx154_3)
                  (try rw [show 0 * 4 = 0 from rfl] at hx154_3)
                  (try rw [Addr.add_zero'] at hx154_3)
                  replace p154 := eq_true p154
                  replace q154 := eq_true q154
                  go_wp2
                  repeat (go_quiet (fail); try go_wp2)
                  go_loopg [2, 9] k2 (fun kq v2 v9 w' => ∃ (x2_3 : Int) (x9_3 : Int), v2 = .int .i64 x2_3 ∧ v9 = .int .i64 x9_3 ∧ Aside0 (spec_l07Matches.l1 kq l0 a1 x2_3 x9_3 = some r) ∧ Aside0 (kq ≤ k2) ∧ Drawn0 w w')
                  case atStart => exact ⟨(a2), (wrap64 ((((rd_T26 l0 0).f0).size : Int) - 1)), (by first | rfl | (simp; done) | (simp [*]; done)), (by first | rfl | (simp; done) | (simp [*]; done)), H', ⟨Nat.le_refl _⟩, by repeat (first | exact Drawn0.refl _ | apply Drawn0.step)⟩
                  case round =>
                    clear H'
                    try clear c1
                    try clear p1
                    try clear q1
                    try clear hx1
                    try clear qi1
                    try clear c2
                    try clear p2
                    try clear q2
                    try clear hx2
                    try clear p6
                    try clear c12
                    try clear c12b0
                    try clear c13
                    try clear p14
                    try clear q14
                    try clear hx14
                    try clear qi14
                    try clear c15
                    try clear c15b0
                    try clear c15b1
                    try clear p15
                    try clear q15
                    try clear hx15
                    try clear qi15
                    try clear c16
                    try clear c16b0
                    try clear c16b1
                    try clear c17
                    try clear c17b0
                    try clear p18
                    try clear q18
                    try clear hx18
                    try clear c19
                    try clear c19b0
                    try clear c20
                    try clear c20b0
                    try clear p21
                    try clear q21
                    try clear hx21
                    try clear c23
                    try clear hx146_0
                    try clear hx146_1
                    try clear hx146_2
                    try clear hx146_3
                    try clear hx147_0
                    try clear hx147_1
                    try clear hx147_2
                    try clear hx147_3
                    try clear hx148_0
                    try clear hx148_1
                    try clear hx148_2
                    try clear hx148_3
                    try clear hx149_0
                    try clear hx149_1
                    try clear hx149_2
                    try clear hx149_3
                    try clear hx150_0
                    try clear hx150_1
                    try clear hx150_2
                    try clear hx150_3
                    try clear hx151_0
                    try clear hx151_1
                    try clear hx151_2
                    try clear hx151_3
                    try clear hx153_0
                    try clear hx153_1
                    try clear hx153_2
                    try clear hx153_3
                    try clear hx154_0
                    try clear hx154_1
                    try clear hx154_2
                    try clear hx154_3
                    try clear p14
                    try clear p146
                    try clear p147
                    try clear p148
                    try clear p149
                    try clear p150
                    try clear p151
                    try clear p153
                    try clear p154
                    try clear p18
                    try clear p21
                    try clear q14
                    try clear q146
                    try clear q147
                    try clear q148
                    try clear q149
                    try clear q150
                    try clear q151
                    try clear q153
                    try clear q154
                    try clear q18
                    try clear q21
                    obtain ⟨x2_3, x9_3, rfl, rfl, HA, HK3, ⟨m3, rfl⟩⟩ := hrel
                    cases gk with
                    | zero => exact absurd HA.out (by simp [spec_l07Matches.l1])
                    | succ k3 =>
                      have H := HA.out
                      clear HA
                      simp only [spec_l07Matches.l1] at H
                      by_cases c24 : x9_3 ≥ 0
                      · rw [if_pos c24] at H
                        have c24b0 : decide (0 ≤ x9_3) = true := decide_eq_true c24
                        clear c24
                        by_cases c25 : 0 < (l0.length : Int)
                        · rw [if_pos c25] at H
                          have c25b0 : decide (0 < (l0.length : Int)) = true := decide_eq_true c25
                          have c25b1 : decide (0 < l0.length) = true := decide_eq_true (by omega)
                          clear c25
                          by_cases c26 : 0 ≤ x9_3
                          · rw [if_pos c26] at H
                            have c26b0 : decide (0 ≤ x9_3) = true := decide_eq_true c26
                            clear c26
                            by_cases c27 : x9_3 < (((rd_T26 l0 0).f0).size : Int)
                            · rw [if_pos c27] at H
                              have c27b0 : decide (x9_3 < (((rd_T26 l0 0).f0).size : Int)) = true := decide_eq_true c27
                              clear c27
                              by_cases c29 : (bt ((rd_T26 l0 0).f0) x9_3) = 45
                              · rw [if_pos c29] at H
                                have c29b0 : ((bt ((rd_T26 l0 0).f0) x9_3) == 45) = true := beq_iff_eq.mpr c29
                                have c29b1 : ((bt ((rd_T26 l0 0).f0) x9_3) != 45) = false := bne_eq_false_iff_eq.mpr c29
                                clear c29
                                by_cases c30 : x2_3 = 0
                                · rw [if_pos c30] at H
                                  have c30b0 : (x2_3 == 0) = true := beq_iff_eq.mpr c30
                                  have c30b1 : (x2_3 != 0) = false := bne_eq_false_iff_eq.mpr c30
                                  clear c30
                                  have H' := Aside0.mk H
                                  clear H
                                  have p155 : 0 ≤ (0 : Int) := (by omega)
                                  have q155 : 0 < (l0.length : Int) := of_decide_eq_true (by first | (with_reducible assumption) | assumption)
                                  obtain ⟨ad155, e155, hx155_0, hx155_1, hx155_2, hx155_3⟩ := at_T26 HR0.out 0 p155 q155
                                  obtain rfl : ad142 = ad155 := (by injection e155)
                                  have qi155 : (0 < l0.length) = True := eq_true (by omega)
                                  (try rw [show ((0 : Int)).toNat = 0 from rfl] at hx155_0)
                                  (try rw [show 0 * 4 = 0 from rfl] at hx155_0)
                                  (try rw [Addr.add_zero'] at hx155_0)
                                  (try rw [show ((0 : Int)).toNat = 0 from rfl] at hx155_1)
                                  (try rw [show 0 * 4 = 0 from rfl] at hx155_1)
                                  (try rw [Addr.add_zero'] at hx155_1)
                                  (try rw [show ((0 : Int)).toNat = 0 from rfl] at hx155_2)
                                  (try rw [show 0 * 4 = 0 from rfl] at hx155_2)
                                  (try rw [Addr.add_zero'] at hx155_2)
                                  (try rw [show ((0 : Int)).toNat = 0 from rfl] at hx155_3)
                                  (try rw [show 0 * 4 = 0 from rfl] at hx155_3)
                                  (try rw [Addr.add_zero'] at hx155_3)
                                  replace p155 := eq_true p155
                                  replace q155 := eq_true q155
                                  have p156 : 0 ≤ (0 : Int) := (by omega)
                                  have q156 : 0 < (l0.length : Int) := of_decide_eq_true (by first | (with_reducible assumption) | assumption)
                                  obtain ⟨ad156, e156, hx156_0, hx156_1, hx156_2, hx156_3⟩ := at_T26 HR0.out 0 p156 q156
                                  obtain rfl : ad142 = ad156 := (by injection e156)
                                  have qi156 : (0 < l0.length) = True := eq_true (by omega)
                                  (try rw [show ((0 : Int)).toNat = 0 from rfl] at hx156_0)
                                  (try rw [show 0 * 4 = 0 from rfl] at hx156_0)
                                  (try rw [Addr.add_zero'] at hx156_0)
                                  (try rw [show ((0 : Int)).toNat = 0 from rfl] at hx156_1)
                                  (try rw [show 0 * 4 = 0 from rfl] at hx156_1)
                                  (try rw [Addr.add_zero'] at hx156_1)
                                  (try rw [show ((0 : Int)).toNat = 0 from rfl] at hx156_2)
                                  (try rw [show 0 * 4 = 0 from rfl] at hx156_2)
                                  (try rw [Addr.add_zero'] at hx156_2)
                                  (try rw [show ((0 : Int)).toNat = 0 from rfl] at hx156_3)
                                  (try rw [show 0 * 4 = 0 from rfl] at hx156_3)
                                  (try rw [Addr.add_zero'] at hx156_3)
                                  replace p156 := eq_true p156
                                  replace q156 := eq_true q156
                                  have p28 : 0 ≤ (x9_3 : Int) := of_decide_eq_true (by first | (with_reducible assumption) | assumption)
                                  have q28 : x9_3 < (((rd_T26 l0 0).f0).size : Int) := of_decide_eq_true (by first | (with_reducible assumption) | assumption)
                                  have hx28 := bt_at ((rd_T26 l0 0).f0) x9_3
                                  replace p28 := eq_true p28
                                  replace q28 := eq_true q28
                                  go_wp2
                                  repeat (go_quiet (fail); try go_wp2)
                                  go_roundg k3
                                  case measure => have := HJ4.out; have := HK2.out; have := HK3.out; omega
                                  case rel => exact ⟨(x2_3), (wrap64 (x9_3 - 1)), (by first | rfl | (simp; done) | (simp [*]; done)), (by first | rfl | (simp; done) | (simp [*]; done)), H', ⟨by have := HJ4.out; have := HK2.out; have := HK3.out; omega⟩, by repeat (first | exact Drawn0.refl _ | apply Drawn0.step)⟩
                                · rw [if_neg c30] at H
                                  have c30b0 : (x2_3 == 0) = false := beq_eq_false_iff_ne.mpr c30
                                  have c30b1 : (x2_3 != 0) = true := bne_iff_ne.mpr c30
                                  obtain rfl := Option.some.inj H
                                  have p155 : 0 ≤ (0 : Int) := (by omega)
                                  have q155 : 0 < (l0.length : Int) := of_decide_eq_true (by first | (with_reducible assumption) | assumption)
                                  obtain ⟨ad155, e155, hx155_0, hx155_1, hx155_2, hx155_3⟩ := at_T26 HR0.out 0 p155 q155
                                  obtain rfl : ad142 = ad155 := (by injection e155)
                                  have qi155 : (0 < l0.length) = True := eq_true (by omega)
                                  (try rw [show ((0 : Int)).toNat = 0 from rfl] at hx155_0)
                                  (try rw [show 0 * 4 = 0 from rfl] at hx155_0)
                                  (try rw [Addr.add_zero'] at hx155_0)
                                  (try rw [show ((0 : Int)).toNat = 0 from rfl] at hx155_1)
                                  (try rw [show 0 * 4 = 0 from rfl] at hx155_1)
                                  (try rw [Addr.add_zero'] at hx155_1)
                                  (try rw [show ((0 : Int)).toNat = 0 from rfl] at hx155_2)
                                  (try rw [show 0 * 4 = 0 from rfl] at hx155_2)
                                  (try rw [Addr.add_zero'] at hx155_2)
                                  (try rw [show ((0 : Int)).toNat = 0 from rfl] at hx155_3)
                                  (try rw [show 0 * 4 = 0 from rfl] at hx155_3)
                                  (try rw [Addr.add_zero'] at hx155_3)
                                  replace p155 := eq_true p155
                                  replace q155 := eq_true q155
                                  have p156 : 0 ≤ (0 : Int) := (by omega)
                                  have q156 : 0 < (l0.length : Int) := of_decide_eq_true (by first | (with_reducible assumption) | assumption)
                                  obtain ⟨ad156, e156, hx156_0, hx156_1, hx156_2, hx156_3⟩ := at_T26 HR0.out 0 p156 q156
                                  obtain rfl : ad142 = ad156 := (by injection e156)
                                  have qi156 : (0 < l0.length) = True := eq_true (by omega)
                                  (try rw [show ((0 : Int)).toNat = 0 from rfl] at hx156_0)
                                  (try rw [show 0 * 4 = 0 from rfl] at hx156_0)
                                  (try rw [Addr.add_zero'] at hx156_0)
                                  (try rw [show ((0 : Int)).toNat = 0 from rfl] at hx156_1)
                                  (try rw [show 0 * 4 = 0 from rfl] at hx156_1)
                                  (try rw [Addr.add_zero'] at hx156_1)
                                  (try rw [show ((0 : Int)).toNat = 0 from rfl] at hx156_2)
                                  (try rw [show 0 * 4 = 0 from rfl] at hx156_2)
                                  (try rw [Addr.add_zero'] at hx156_2)
                                  (try rw [show ((0 : Int)).toNat = 0 from rfl] at hx156_3)
                                  (try rw [show 0 * 4 = 0 from rfl] at hx156_3)
                                  (try rw [Addr.add_zero'] at hx156_3)
                                  replace p156 := eq_true p156
                                  replace q156 := eq_true q156
                                  have p28 : 0 ≤ (x9_3 : Int) := of_decide_eq_true (by first | (with_reducible assumption) | assumption)
                                  have q28 : x9_3 < (((rd_T26 l0 0).f0).size : Int) := of_decide_eq_true (by first | (with_reducible assumption) | assumption)
                                  have hx28 := bt_at ((rd_T26 l0 0).f0) x9_3
                                  replace p28 := eq_true p28
                                  replace q28 := eq_true q28
                                  go_wp2
                                  repeat (go_quiet (fail); try go_wp2)
                                  go_ret
                                  exact ⟨by first | rfl | (simp; done) | (simp [*]; done), by repeat (first | exact Drawn0.refl _ | apply Drawn0.step)⟩
                              · rw [if_neg c29] at H
                                have c29b0 : ((bt ((rd_T26 l0 0).f0) x9_3) == 45) = false := beq_eq_false_iff_ne.mpr c29
                                have c29b1 : ((bt ((rd_T26 l0 0).f0) x9_3) != 45) = true := bne_iff_ne.mpr c29
                                by_cases c31 : x2_3 = 0
                                · rw [if_pos c31] at H
                                  have c31b0 : (x2_3 == 0) = true := beq_iff_eq.mpr c31
                                  have c31b1 : (x2_3 != 0) = false := bne_eq_false_iff_eq.mpr c31
                                  clear c31
                                  obtain rfl := Option.some.inj H
                                  have p155 : 0 ≤ (0 : Int) := (by omega)
                                  have q155 : 0 < (l0.length : Int) := of_decide_eq_true (by first | (with_reducible assumption) | assumption)
                                  obtain ⟨ad155, e155, hx155_0, hx155_1, hx155_2, hx155_3⟩ := at_T26 HR0.out 0 p155 q155
                                  obtain rfl : ad142 = ad155 := (by injection e155)
                                  have qi155 : (0 < l0.length) = True := eq_true (by omega)
                                  (try rw [show ((0 : Int)).toNat = 0 from rfl] at hx155_0)
                                  (try rw [show 0 * 4 = 0 from rfl] at hx155_0)
                                  (try rw [Addr.add_zero'] at hx155_0)
                                  (try rw [show ((0 : Int)).toNat = 0 from rfl] at hx155_1)
                                  (try rw [show 0 * 4 = 0 from rfl] at hx155_1)
                                  (try rw [Addr.add_zero'] at hx155_1)
                                  (try rw [show ((0 : Int)).toNat = 0 from rfl] at hx155_2)
                                  (try rw [show 0 * 4 = 0 from rfl] at hx155_2)
                                  (try rw [Addr.add_zero'] at hx155_2)
                                  (try rw [show ((0 : Int)).toNat = 0 from rfl] at hx155_3)
                                  (try rw [show 0 * 4 = 0 from rfl] at hx155_3)
                                  (try rw [Addr.add_zero'] at hx155_3)
                                  replace p155 := eq_true p155
                                  replace q155 := eq_true q155
                                  have p156 : 0 ≤ (0 : Int) := (by omega)
                                  have q156 : 0 < (l0.length : Int) := of_decide_eq_true (by first | (with_reducible assumption) | assumption)
                                  obtain ⟨ad156, e156, hx156_0, hx156_1, hx156_2, hx156_3⟩ := at_T26 HR0.out 0 p156 q156
                                  obtain rfl : ad142 = ad156 := (by injection e156)
                                  have qi156 : (0 < l0.length) = True := eq_true (by omega)
                                  (try rw [show ((0 : Int)).toNat = 0 from rfl] at hx156_0)
                                  (try rw [show 0 * 4 = 0 from rfl] at hx156_0)
                                  (try rw [Addr.add_zero'] at hx156_0)
                                  (try rw [show ((0 : Int)).toNat = 0 from rfl] at hx156_1)
                                  (try rw [show 0 * 4 = 0 from rfl] at hx156_1)
                                  (try rw [Addr.add_zero'] at hx156_1)
                                  (try rw [show ((0 : Int)).toNat = 0 from rfl] at hx156_2)
                                  (try rw [show 0 * 4 = 0 from rfl] at hx156_2)
                                  (try rw [Addr.add_zero'] at hx156_2)
                                  (try rw [show ((0 : Int)).toNat = 0 from rfl] at hx156_3)
                                  (try rw [show 0 * 4 = 0 from rfl] at hx156_3)
                                  (try rw [Addr.add_zero'] at hx156_3)
                                  replace p156 := eq_true p156
                                  replace q156 := eq_true q156
                                  have p28 : 0 ≤ (x9_3 : Int) := of_decide_eq_true (by first | (with_reducible assumption) | assumption)
                                  have q28 : x9_3 < (((rd_T26 l0 0).f0).size : Int) := of_decide_eq_true (by first | (with_reducible assumption) | assumption)
                                  have hx28 := bt_at ((rd_T26 l0 0).f0) x9_3
                                  replace p28 := eq_true p28
                                  replace q28 := eq_true q28
                                  go_wp2
                                  repeat (go_quiet (fail); try go_wp2)
                                  go_ret
                                  exact ⟨by first | rfl | (simp; done) | (simp [*]; done), by repeat (first | exact Drawn0.refl _ | apply Drawn0.step)⟩
                                · rw [if_neg c31] at H
                                  have c31b0 : (x2_3 == 0) = false := beq_eq_false_iff_ne.mpr c31
                                  have c31b1 : (x2_3 != 0) = true := bne_iff_ne.mpr c31
                                  obtain ⟨ji33, hji33⟩ : ∃ j_ : Int, (wrap64 (x2_3 - 1)) = j_ := ⟨_, rfl⟩
                                  replace H : (if 0 ≤ (ji33) then (if (ji33) < (a1.size : Int) then ((spec_l07Sign.f (bt ((rd_T26 l0 0).f0) x9_3) (bt a1 (ji33))).bind fun t159 => (if t159 = true then (spec_l07Matches.l1 k3 l0 a1 ji33 (wrap64 (x9_3 - 1))) else (some false))) else (none)) else (none)) = some r := by first | (rw [hji33] at H; exact H) | (simp only [hji33] at H ⊢; exact H)
                                  have hji33w : (IntKind.i64.wrap (x2_3 - 1)) = ji33 := (i64_w _).trans hji33
                                  by_cases c34 : 0 ≤ (ji33)
                                  · rw [if_pos c34] at H
                                    have c34b0 : decide (0 ≤ (ji33)) = true := decide_eq_true c34
                                    clear c34
                                    by_cases c35 : (ji33) < (a1.size : Int)
                                    · rw [if_pos c35] at H
                                      have c35b0 : decide ((ji33) < (a1.size : Int)) = true := decide_eq_true c35
                                      clear c35
                                      replace H := Option.bind_eq_some_iff.mp H
                                      obtain ⟨t159, A370, H⟩ := H
                                      replace H : (if t159 = true then (spec_l07Matches.l1 k3 l0 a1 ji33 (wrap64 (x9_3 - 1))) else (some false)) = some r := H
                                      have A37 := Aside0.mk A370
                                      clear A370
                                      by_cases c38 : t159 = true
                                      · subst c38
                                        have H1 : (spec_l07Matches.l1 k3 l0 a1 ji33 (wrap64 (x9_3 - 1))) = some r := by rw [if_pos rfl] at H; exact H
                                        clear H
                                        have H := H1
                                        clear H1
                                        have H' := Aside0.mk H
                                        clear H
                                        have p155 : 0 ≤ (0 : Int) := (by omega)
                                        have q155 : 0 < (l0.length : Int) := of_decide_eq_true (by first | (with_reducible assumption) | assumption)
                                        obtain ⟨ad155, e155, hx155_0, hx155_1, hx155_2, hx155_3⟩ := at_T26 HR0.out 0 p155 q155
                                        obtain rfl : ad142 = ad155 := (by injection e155)
                                        have qi155 : (0 < l0.length) = True := eq_true (by omega)
                                        (try rw [show ((0 : Int)).toNat = 0 from rfl] at hx155_0)
                                        (try rw [show 0 * 4 = 0 from rfl] at hx155_0)
                                        (try rw [Addr.add_zero'] at hx155_0)
                                        (try rw [show ((0 : Int)).toNat = 0 from rfl] at hx155_1)
                                        (try rw [show 0 * 4 = 0 from rfl] at hx155_1)
                                        (try rw [Addr.add_zero'] at hx155_1)
                                        (try rw [show ((0 : Int)).toNat = 0 from rfl] at hx155_2)
                                        (try rw [show 0 * 4 = 0 from rfl] at hx155_2)
                                        (try rw [Addr.add_zero'] at hx155_2)
                                        (try rw [show ((0 : Int)).toNat = 0 from rfl] at hx155_3)
                                        (try rw [show 0 * 4 = 0 from rfl] at hx155_3)
                                        (try rw [Addr.add_zero'] at hx155_3)
                                        replace p155 := eq_true p155
                                        replace q155 := eq_true q155
                                        have p156 : 0 ≤ (0 : Int) := (by omega)
                                        have q156 : 0 < (l0.length : Int) := of_decide_eq_true (by first | (with_reducible assumption) | assumption)
                                        obtain ⟨ad156, e156, hx156_0, hx156_1, hx156_2, hx156_3⟩ := at_T26 HR0.out 0 p156 q156
                                        obtain rfl : ad142 = ad156 := (by injection e156)
                                        have qi156 : (0 < l0.length) = True := eq_true (by omega)
                                        (try rw [show ((0 : Int)).toNat = 0 from rfl] at hx156_0)
                                        (try rw [show 0 * 4 = 0 from rfl] at hx156_0)
                                        (try rw [Addr.add_zero'] at hx156_0)
                                        (try rw [show ((0 : Int)).toNat = 0 from rfl] at hx156_1)
                                        (try rw [show 0 * 4 = 0 from rfl] at hx156_1)
                                        (try rw [Addr.add_zero'] at hx156_1)
                                        (try rw [show ((0 : Int)).toNat = 0 from rfl] at hx156_2)
                                        (try rw [show 0 * 4 = 0 from rfl] at hx156_2)
                                        (try rw [Addr.add_zero'] at hx156_2)
                                        (try rw [show ((0 : Int)).toNat = 0 from rfl] at hx156_3)
                                        (try rw [show 0 * 4 = 0 from rfl] at hx156_3)
                                        (try rw [Addr.add_zero'] at hx156_3)
                                        replace p156 := eq_true p156
                                        replace q156 := eq_true q156
                                        have p28 : 0 ≤ (x9_3 : Int) := of_decide_eq_true (by first | (with_reducible assumption) | assumption)
                                        have q28 : x9_3 < (((rd_T26 l0 0).f0).size : Int) := of_decide_eq_true (by first | (with_reducible assumption) | assumption)
                                        have hx28 := bt_at ((rd_T26 l0 0).f0) x9_3
                                        replace p28 := eq_true p28
                                        replace q28 := eq_true q28
                                        have p157 : 0 ≤ (0 : Int) := (by omega)
                                        have q157 : 0 < (l0.length : Int) := of_decide_eq_true (by first | (with_reducible assumption) | assumption)
                                        obtain ⟨ad157, e157, hx157_0, hx157_1, hx157_2, hx157_3⟩ := at_T26 HR0.out 0 p157 q157
                                        obtain rfl : ad142 = ad157 := (by injection e157)
                                        have qi157 : (0 < l0.length) = True := eq_true (by omega)
                                        (try rw [show ((0 : Int)).toNat = 0 from rfl] at hx157_0)
                                        (try rw [show 0 * 4 = 0 from rfl] at hx157_0)
                                        (try rw [Addr.add_zero'] at hx157_0)
                                        (try rw [show ((0 : Int)).toNat = 0 from rfl] at hx157_1)
                                        (try rw [show 0 * 4 = 0 from rfl] at hx157_1)
                                        (try rw [Addr.add_zero'] at hx157_1)
                                        (try rw [show ((0 : Int)).toNat = 0 from rfl] at hx157_2)
                                        (try rw [show 0 * 4 = 0 from rfl] at hx157_2)
                                        (try rw [Addr.add_zero'] at hx157_2)
                                        (try rw [show ((0 : Int)).toNat = 0 from rfl] at hx157_3)
                                        (try rw [show 0 * 4 = 0 from rfl] at hx157_3)
                                        (try rw [Addr.add_zero'] at hx157_3)
                                        replace p157 := eq_true p157
                                        replace q157 := eq_true q157
                                        have p158 : 0 ≤ (0 : Int) := (by omega)
                                        have q158 : 0 < (l0.length : Int) := of_decide_eq_true (by first | (with_reducible assumption) | assumption)
                                        obtain ⟨ad158, e158, hx158_0, hx158_1, hx158_2, hx158_3⟩ := at_T26 HR0.out 0 p158 q158
                                        obtain rfl : ad142 = ad158 := (by injection e158)
                                        have qi158 : (0 < l0.length) = True := eq_true (by omega)
                                        (try rw [show ((0 : Int)).toNat = 0 from rfl] at hx158_0)
                                        (try rw [show 0 * 4 = 0 from rfl] at hx158_0)
                                        (try rw [Addr.add_zero'] at hx158_0)
                                        (try rw [show ((0 : Int)).toNat = 0 from rfl] at hx158_1)
                                        (try rw [show 0 * 4 = 0 from rfl] at hx158_1)
                                        (try rw [Addr.add_zero'] at hx158_1)
                                        (try rw [show ((0 : Int)).toNat = 0 from rfl] at hx158_2)
                                        (try rw [show 0 * 4 = 0 from rfl] at hx158_2)
                                        (try rw [Addr.add_zero'] at hx158_2)
                                        (try rw [show ((0 : Int)).toNat = 0 from rfl] at hx158_3)
                                        (try rw [show 0 * 4 = 0 from rfl] at hx158_3)
                                        (try rw [Addr.add_zero'] at hx158_3)
                                        replace p158 := eq_true p158
                                        replace q158 := eq_true q158
                                        have p32 : 0 ≤ (x9_3 : Int) := of_decide_eq_true (by first | (with_reducible assumption) | assumption)
                                        have q32 : x9_3 < (((rd_T26 l0 0).f0).size : Int) := of_decide_eq_true (by first | (with_reducible assumption) | assumption)
                                        have hx32 := bt_at ((rd_T26 l0 0).f0) x9_3
                                        replace p32 := eq_true p32
                                        replace q32 := eq_true q32
                                        have p36 : 0 ≤ ((ji33) : Int) := of_decide_eq_true (by first | (with_reducible assumption) | assumption)
                                        have q36 : (ji33) < (a1.size : Int) := of_decide_eq_true (by first | (with_reducible assumption) | assumption)
                                        have hx36 := bt_at a1 (ji33)
                                        replace p36 := eq_true p36
                                        replace q36 := eq_true q36
                                        go_wp2_with (first | (go_at_call 75; (with_reducible refine (spec_l07Sign.calls (bt ((rd_T26 l0 0).f0) x9_3) (bt a1 (ji33)) true _ A37.out).mono ?_); rintro e w' ⟨rfl, ⟨nd, rfl⟩⟩; (try first | exact ⟨rfl, _, World.drewN_drewN _ _ _⟩ | exact ⟨rfl, _, Eq.trans (World.drewN_drewN _ _ _) (congrArg (World.drewN _) (Nat.add_assoc _ _ _))⟩)))
                                        repeat (go_quiet (first | (go_at_call 75; (with_reducible refine (spec_l07Sign.calls (bt ((rd_T26 l0 0).f0) x9_3) (bt a1 (ji33)) true _ A37.out).mono ?_); rintro e w' ⟨rfl, ⟨nd, rfl⟩⟩; (try first | exact ⟨rfl, _, World.drewN_drewN _ _ _⟩ | exact ⟨rfl, _, Eq.trans (World.drewN_drewN _ _ _) (congrArg (World.drewN _) (Nat.add_assoc _ _ _))⟩))); try go_wp2_with (first | (go_at_call 75; (with_reducible refine (spec_l07Sign.calls (bt ((rd_T26 l0 0).f0) x9_3) (bt a1 (ji33)) true _ A37.out).mono ?_); rintro e w' ⟨rfl, ⟨nd, rfl⟩⟩; (try first | exact ⟨rfl, _, World.drewN_drewN _ _ _⟩ | exact ⟨rfl, _, Eq.trans (World.drewN_drewN _ _ _) (congrArg (World.drewN _) (Nat.add_assoc _ _ _))⟩))))
                                        go_roundg k3
                                        case measure => have := HJ4.out; have := HK2.out; have := HK3.out; omega
                                        case rel => exact ⟨(ji33), (wrap64 (x9_3 - 1)), (by first | rfl | (simp; done) | (simp only [← hji33] <;> (first | rfl | simp)) | (simp [*]; done)), (by first | rfl | (simp; done) | (simp [*]; done)), H', ⟨by have := HJ4.out; have := HK2.out; have := HK3.out; omega⟩, by repeat (first | exact Drawn0.refl _ | apply Drawn0.step)⟩
                                      · replace c38 := Bool.eq_false_iff.mpr c38
                                        subst c38
                                        have H1 : (some false) = some r := by rw [if_neg (show ¬ (false = true) by decide)] at H; exact H
                                        clear H
                                        have H := H1
                                        clear H1
                                        obtain rfl := Option.some.inj H
                                        have p155 : 0 ≤ (0 : Int) := (by omega)
                                        have q155 : 0 < (l0.length : Int) := of_decide_eq_true (by first | (with_reducible assumption) | assumption)
                                        obtain ⟨ad155, e155, hx155_0, hx155_1, hx155_2, hx155_3⟩ := at_T26 HR0.out 0 p155 q155
                                        obtain rfl : ad142 = ad155 := (by injection e155)
                                        have qi155 : (0 < l0.length) = True := eq_true (by omega)
                                        (try rw [show ((0 : Int)).toNat = 0 from rfl] at hx155_0)
                                        (try rw [show 0 * 4 = 0 from rfl] at hx155_0)
                                        (try rw [Addr.add_zero'] at hx155_0)
                                        (try rw [show ((0 : Int)).toNat = 0 from rfl] at hx155_1)
                                        (try rw [show 0 * 4 = 0 from rfl] at hx155_1)
                                        (try rw [Addr.add_zero'] at hx155_1)
                                        (try rw [show ((0 : Int)).toNat = 0 from rfl] at hx155_2)
                                        (try rw [show 0 * 4 = 0 from rfl] at hx155_2)
                                        (try rw [Addr.add_zero'] at hx155_2)
                                        (try rw [show ((0 : Int)).toNat = 0 from rfl] at hx155_3)
                                        (try rw [show 0 * 4 = 0 from rfl] at hx155_3)
                                        (try rw [Addr.add_zero'] at hx155_3)
                                        replace p155 := eq_true p155
                                        replace q155 := eq_true q155
                                        have p156 : 0 ≤ (0 : Int) := (by omega)
                                        have q156 : 0 < (l0.length : Int) := of_decide_eq_true (by first | (with_reducible assumption) | assumption)
                                        obtain ⟨ad156, e156, hx156_0, hx156_1, hx156_2, hx156_3⟩ := at_T26 HR0.out 0 p156 q156
                                        obtain rfl : ad142 = ad156 := (by injection e156)
                                        have qi156 : (0 < l0.length) = True := eq_true (by omega)
                                        (try rw [show ((0 : Int)).toNat = 0 from rfl] at hx156_0)
                                        (try rw [show 0 * 4 = 0 from rfl] at hx156_0)
                                        (try rw [Addr.add_zero'] at hx156_0)
                                        (try rw [show ((0 : Int)).toNat = 0 from rfl] at hx156_1)
                                        (try rw [show 0 * 4 = 0 from rfl] at hx156_1)
                                        (try rw [Addr.add_zero'] at hx156_1)
                                        (try rw [show ((0 : Int)).toNat = 0 from rfl] at hx156_2)
                                        (try rw [show 0 * 4 = 0 from rfl] at hx156_2)
                                        (try rw [Addr.add_zero'] at hx156_2)
                                        (try rw [show ((0 : Int)).toNat = 0 from rfl] at hx156_3)
                                        (try rw [show 0 * 4 = 0 from rfl] at hx156_3)
                                        (try rw [Addr.add_zero'] at hx156_3)
                                        replace p156 := eq_true p156
                                        replace q156 := eq_true q156
                                        have p28 : 0 ≤ (x9_3 : Int) := of_decide_eq_true (by first | (with_reducible assumption) | assumption)
                                        have q28 : x9_3 < (((rd_T26 l0 0).f0).size : Int) := of_decide_eq_true (by first | (with_reducible assumption) | assumption)
                                        have hx28 := bt_at ((rd_T26 l0 0).f0) x9_3
                                        replace p28 := eq_true p28
                                        replace q28 := eq_true q28
                                        have p157 : 0 ≤ (0 : Int) := (by omega)
                                        have q157 : 0 < (l0.length : Int) := of_decide_eq_true (by first | (with_reducible assumption) | assumption)
                                        obtain ⟨ad157, e157, hx157_0, hx157_1, hx157_2, hx157_3⟩ := at_T26 HR0.out 0 p157 q157
                                        obtain rfl : ad142 = ad157 := (by injection e157)
                                        have qi157 : (0 < l0.length) = True := eq_true (by omega)
                                        (try rw [show ((0 : Int)).toNat = 0 from rfl] at hx157_0)
                                        (try rw [show 0 * 4 = 0 from rfl] at hx157_0)
                                        (try rw [Addr.add_zero'] at hx157_0)
                                        (try rw [show ((0 : Int)).toNat = 0 from rfl] at hx157_1)
                                        (try rw [show 0 * 4 = 0 from rfl] at hx157_1)
                                        (try rw [Addr.add_zero'] at hx157_1)
                                        (try rw [show ((0 : Int)).toNat = 0 from rfl] at hx157_2)
                                        (try rw [show 0 * 4 = 0 from rfl] at hx157_2)
                                        (try rw [Addr.add_zero'] at hx157_2)
                                        (try rw [show ((0 : Int)).toNat = 0 from rfl] at hx157_3)
                                        (try rw [show 0 * 4 = 0 from rfl] at hx157_3)
                                        (try rw [Addr.add_zero'] at hx157_3)
                                        replace p157 := eq_true p157
                                        replace q157 := eq_true q157
                                        have p158 : 0 ≤ (0 : Int) := (by omega)
                                        have q158 : 0 < (l0.length : Int) := of_decide_eq_true (by first | (with_reducible assumption) | assumption)
                                        obtain ⟨ad158, e158, hx158_0, hx158_1, hx158_2, hx158_3⟩ := at_T26 HR0.out 0 p158 q158
                                        obtain rfl : ad142 = ad158 := (by injection e158)
                                        have qi158 : (0 < l0.length) = True := eq_true (by omega)
                                        (try rw [show ((0 : Int)).toNat = 0 from rfl] at hx158_0)
                                        (try rw [show 0 * 4 = 0 from rfl] at hx158_0)
                                        (try rw [Addr.add_zero'] at hx158_0)
                                        (try rw [show ((0 : Int)).toNat = 0 from rfl] at hx158_1)
                                        (try rw [show 0 * 4 = 0 from rfl] at hx158_1)
                                        (try rw [Addr.add_zero'] at hx158_1)
                                        (try rw [show ((0 : Int)).toNat = 0 from rfl] at hx158_2)
                                        (try rw [show 0 * 4 = 0 from rfl] at hx158_2)
                                        (try rw [Addr.add_zero'] at hx158_2)
                                        (try rw [show ((0 : Int)).toNat = 0 from rfl] at hx158_3)
                                        (try rw [show 0 * 4 = 0 from rfl] at hx158_3)
                                        (try rw [Addr.add_zero'] at hx158_3)
                                        replace p158 := eq_true p158
                                        replace q158 := eq_true q158
                                        have p32 : 0 ≤ (x9_3 : Int) := of_decide_eq_true (by first | (with_reducible assumption) | assumption)
                                        have q32 : x9_3 < (((rd_T26 l0 0).f0).size : Int) := of_decide_eq_true (by first | (with_reducible assumption) | assumption)
                                        have hx32 := bt_at ((rd_T26 l0 0).f0) x9_3
                                        replace p32 := eq_true p32
                                        replace q32 := eq_true q32
                                        have p36 : 0 ≤ ((ji33) : Int) := of_decide_eq_true (by first | (with_reducible assumption) | assumption)
                                        have q36 : (ji33) < (a1.size : Int) := of_decide_eq_true (by first | (with_reducible assumption) | assumption)
                                        have hx36 := bt_at a1 (ji33)
                                        replace p36 := eq_true p36
                                        replace q36 := eq_true q36
                                        go_wp2_with (first | (go_at_call 75; (with_reducible refine (spec_l07Sign.calls (bt ((rd_T26 l0 0).f0) x9_3) (bt a1 (ji33)) false _ A37.out).mono ?_); rintro e w' ⟨rfl, ⟨nd, rfl⟩⟩; (try first | exact ⟨rfl, _, World.drewN_drewN _ _ _⟩ | exact ⟨rfl, _, Eq.trans (World.drewN_drewN _ _ _) (congrArg (World.drewN _) (Nat.add_assoc _ _ _))⟩)))
                                        repeat (go_quiet (first | (go_at_call 75; (with_reducible refine (spec_l07Sign.calls (bt ((rd_T26 l0 0).f0) x9_3) (bt a1 (ji33)) false _ A37.out).mono ?_); rintro e w' ⟨rfl, ⟨nd, rfl⟩⟩; (try first | exact ⟨rfl, _, World.drewN_drewN _ _ _⟩ | exact ⟨rfl, _, Eq.trans (World.drewN_drewN _ _ _) (congrArg (World.drewN _) (Nat.add_assoc _ _ _))⟩))); try go_wp2_with (first | (go_at_call 75; (with_reducible refine (spec_l07Sign.calls (bt ((rd_T26 l0 0).f0) x9_3) (bt a1 (ji33)) false _ A37.out).mono ?_); rintro e w' ⟨rfl, ⟨nd, rfl⟩⟩; (try first | exact ⟨rfl, _, World.drewN_drewN _ _ _⟩ | exact ⟨rfl, _, Eq.trans (World.drewN_drewN _ _ _) (congrArg (World.drewN _) (Nat.add_assoc _ _ _))⟩))))
                                        go_ret
                                        exact ⟨by first | rfl | (simp; done) | (simp only [← hji33] <;> (first | rfl | simp)) | (simp [*]; done), by repeat (first | exact Drawn0.refl _ | apply Drawn0.step)⟩
                                    · rw [if_neg c35] at H
                                      exact absurd H (by simp)
                                  · rw [if_neg c34] at H
                                    exact absurd H (by simp)
                            · rw [if_neg c27] at H
                              exact absurd H (by simp)
                          · rw [if_neg c26] at H
                            exact absurd H (by simp)
                        · rw [if_neg c25] at H
                          exact absurd H (by simp)
                      · rw [if_neg c24] at H
                        have c24b0 : decide (0 ≤ x9_3) = false := decide_eq_false c24
                        clear c24
                        obtain rfl := Option.some.inj H
                        go_wp2
                        repeat (go_quiet (fail); try go_wp2)
                        go_ret
                        exact ⟨by first | rfl | (simp; done) | (simp [*]; done), by repeat (first | exact Drawn0.refl _ | apply Drawn0.step)⟩
              · rw [if_neg c11] at H
                exact absurd H (by simp)
  · rw [if_neg c4] at H
    exact absurd H (by simp)

end Go.Proofs.YtjkpbmdkkdofkaaDoor.PFnExactMatchesAt
