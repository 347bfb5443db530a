import Derived.Test.YtjkpbmdkkdofkaaDoorPFnExactSpellTextx0
import Derived.Test.YtjkpbmdkkdofkaaDoorPFnExactSpellTextx4
namespace Go.Proofs.YtjkpbmdkkdofkaaDoor.PFnExactSpellText
open Go.RowKit Go.Proofs.YtjkpbmdkkdofkaaDoorW.PrintWords Go.Proofs.YtjkpbmdkkdofkaaDoorW.PrintLast Go.Proofs.YtjkpbmdkkdofkaaDoorW.PrintMore
open Go.Proofs.YtjkpbmdkkdofkaaDoorW.PrintFl
attribute [local go_sem high] binOp_feq binOp_fne binOp_fls binOp_fle binOp_fgr binOp_fge
attribute [local go_sem] run_fopr run_fconv run_fint run_stf run_stc
attribute [local go_sem] max2_int min2_int max_two min_two max_three min_three max_four min_four
set_option linter.unusedVariables false
set_option linter.unusedSimpArgs false
mutual
def spec_l07Matches.j0 : Nat → List (S26) → ByteArray → Int → Int → Bool → Option (Bool)
  | 0, _, _, _, _, _ => none
  | k + 1, x0, x1, x2, x7, x31 => if x31 = true then (some false) else (spec_l07Matches.l0 k x0 x1 x2 x7 0)
def spec_l07Matches.l0 : Nat → List (S26) → ByteArray → Int → Int → Int → Option (Bool)
  | 0, _, _, _, _, _ => none
  | k + 1, x0, x1, x2, x7, x8 => if 0 < (x0.length : Int) then (if x8 < (((rd_T26 x0 0).f2).size : Int) then (if 0 ≤ x8 then (if (bt ((rd_T26 x0 0).f2) x8) = 45 then (if x7 = (x1.size : Int) then (spec_l07Matches.l0 k x0 x1 x2 x7 (wrap64 (x8 + 1))) else (some false)) else (if x7 ≥ (x1.size : Int) then (some false) else (if 0 ≤ x7 then (if x7 < (x1.size : Int) then ((spec_l07Sign.f (bt ((rd_T26 x0 0).f2) x8) (bt x1 x7)).bind fun t187 => (if t187 = true then (spec_l07Matches.l0 k x0 x1 x2 (wrap64 (x7 + 1)) (wrap64 (x8 + 1))) else (some false))) else (none)) else (none)))) else (none)) else (spec_l07Matches.l1 k x0 x1 x2 (wrap64 ((((rd_T26 x0 0).f0).size : Int) - 1)))) else (none)
def spec_l07Matches.l1 : Nat → List (S26) → ByteArray → Int → Int → Option (Bool)
  | 0, _, _, _, _ => none
  | k + 1, x0, x1, x2, x9 => if x9 ≥ 0 then (if 0 < (x0.length : Int) then (if 0 ≤ x9 then (if x9 < (((rd_T26 x0 0).f0).size : Int) then (if (bt ((rd_T26 x0 0).f0) x9) = 45 then (if x2 = 0 then (spec_l07Matches.l1 k x0 x1 x2 (wrap64 (x9 - 1))) else (some false)) else (if x2 = 0 then (some false) else (if 0 ≤ (wrap64 (x2 - 1)) then (if (wrap64 (x2 - 1)) < (x1.size : Int) then ((spec_l07Sign.f (bt ((rd_T26 x0 0).f0) x9) (bt x1 (wrap64 (x2 - 1)))).bind fun t194 => (if t194 = true then (spec_l07Matches.l1 k x0 x1 (wrap64 (x2 - 1)) (wrap64 (x9 - 1))) else (some false))) else (none)) else (none)))) else (none)) else (none)) else (none)) else (some true)
end
def spec_l07Matches.f (k : Nat) (l0 : List (S26)) (a1 : ByteArray) (a2 : Int) : Option (Bool) := if 0 < (l0.length : Int) then (if (wrap64 (a2 + (((rd_T26 l0 0).f1).size : Int))) > (a1.size : Int) then (spec_l07Matches.j0 k l0 a1 a2 (wrap64 (a2 + (((rd_T26 l0 0).f1).size : Int))) true) else (if 0 ≤ a2 then (if a2 ≤ (wrap64 (a2 + (((rd_T26 l0 0).f1).size : Int))) then (if (wrap64 (a2 + (((rd_T26 l0 0).f1).size : Int))) ≤ (a1.size : Int) then (spec_l07Matches.j0 k l0 a1 a2 (wrap64 (a2 + (((rd_T26 l0 0).f1).size : Int))) ((a1.extract (a2 : Int).toNat ((wrap64 (a2 + (((rd_T26 l0 0).f1).size : Int))) : Int).toNat).toList != ((rd_T26 l0 0).f1).toList)) else (none)) else (none)) else (none))) else (none)
theorem spec_l07Matches.mono_l : ∀ k, (∀ y0 y1 y2 y3 y4, LeO (spec_l07Matches.j0 k y0 y1 y2 y3 y4) (spec_l07Matches.j0 (k + 1) y0 y1 y2 y3 y4)) ∧ (∀ y0 y1 y2 y3 y4, LeO (spec_l07Matches.l0 k y0 y1 y2 y3 y4) (spec_l07Matches.l0 (k + 1) y0 y1 y2 y3 y4)) ∧ (∀ y0 y1 y2 y3, LeO (spec_l07Matches.l1 k y0 y1 y2 y3) (spec_l07Matches.l1 (k + 1) y0 y1 y2 y3))
  | 0 => ⟨fun _ _ _ _ _ r h => by simp [spec_l07Matches.j0] at h, fun _ _ _ _ _ r h => by simp [spec_l07Matches.l0] at h, fun _ _ _ _ r h => by simp [spec_l07Matches.l1] at h⟩
  | k + 1 => by
    obtain ⟨ih0, ih1, ih2⟩ := spec_l07Matches.mono_l k
    refine ⟨?_, ?_, ?_⟩
    · intro y0 y1 y2 y3 y4
      unfold spec_l07Matches.j0
      repeat' first
      | (with_reducible exact ih0 _ _ _ _ _)
      | (with_reducible exact ih1 _ _ _ _ _)
      | (with_reducible exact ih2 _ _ _ _)
      | (with_reducible exact LeO.refl _)
      | (with_reducible exact LeO.none _)
      | (with_reducible refine LeO.ite ?_ ?_)
      | (with_reducible refine LeO.bind ?_ (fun _ => ?_))
      | exact ih0 _ _ _ _ _
      | exact ih1 _ _ _ _ _
      | exact ih2 _ _ _ _
      | exact LeO.none _
      | refine LeO.ite ?_ ?_
      | refine LeO.bind ?_ (fun _ => ?_)
    · intro y0 y1 y2 y3 y4
      unfold spec_l07Matches.l0
      repeat' first
      | (with_reducible exact ih0 _ _ _ _ _)
      | (with_reducible exact ih1 _ _ _ _ _)
      | (with_reducible exact ih2 _ _ _ _)
      | (with_reducible exact LeO.refl _)
      | (with_reducible exact LeO.none _)
      | (with_reducible refine LeO.ite ?_ ?_)
      | (with_reducible refine LeO.bind ?_ (fun _ => ?_))
      | exact ih0 _ _ _ _ _
      | exact ih1 _ _ _ _ _
      | exact ih2 _ _ _ _
      | exact LeO.none _
      | refine LeO.ite ?_ ?_
      | refine LeO.bind ?_ (fun _ => ?_)
    · intro y0 y1 y2 y3
      unfold spec_l07Matches.l1
      repeat' first
      | (with_reducible exact ih0 _ _ _ _ _)
      | (with_reducible exact ih1 _ _ _ _ _)
      | (with_reducible exact ih2 _ _ _ _)
      | (with_reducible exact LeO.refl _)
      | (with_reducible exact LeO.none _)
      | (with_reducible refine LeO.ite ?_ ?_)
      | (with_reducible refine LeO.bind ?_ (fun _ => ?_))
      | exact ih0 _ _ _ _ _
      | exact ih1 _ _ _ _ _
      | exact ih2 _ _ _ _
      | exact LeO.none _
      | refine LeO.ite ?_ ?_
      | refine LeO.bind ?_ (fun _ => ?_)
theorem spec_l07Matches.mono : ∀ a0 a1 a2 k, LeO (spec_l07Matches.f k a0 a1 a2) (spec_l07Matches.f (k + 1) a0 a1 a2) := by
  intro a0 a1 a2 k
  obtain ⟨ih0, ih1, ih2⟩ := spec_l07Matches.mono_l k
  unfold spec_l07Matches.f
  repeat' first
      | (with_reducible exact ih0 _ _ _ _ _)
      | (with_reducible exact ih1 _ _ _ _ _)
      | (with_reducible exact ih2 _ _ _ _)
      | (with_reducible exact LeO.refl _)
      | (with_reducible exact LeO.none _)
      | (with_reducible refine LeO.ite ?_ ?_)
      | (with_reducible refine LeO.bind ?_ (fun _ => ?_))
      | exact ih0 _ _ _ _ _
      | exact ih1 _ _ _ _ _
      | exact ih2 _ _ _ _
      | exact LeO.none _
      | refine LeO.ite ?_ ?_
      | refine LeO.bind ?_ (fun _ => ?_)
set_option maxHeartbeats 8000000 in
set_option maxRecDepth 100000 in
theorem spec_l07Matches.calls (k : Nat) (A0 : Option Addr) (l0 : List (S26)) (a1 : ByteArray) (a2 : Int) (r : Bool) (w : World) (hr0 : Kd.C k26 w A0 l0.length l0) (h : spec_l07Matches.f k l0 a1 a2 = some r) :
    Calls Tryd.prog 52 #[.pointer A0, .string a1, .int .i64 a2] w fun e w' => e = .returned (.bool r) ∧ Drawn0 w w' := by
  have hu9 := Tryd.underlying9
  have HR0 := Aside0.mk hr0
  clear hr0
  have H : (if 0 < (l0.length : Int) then (if (wrap64 (a2 + (((rd_T26 l0 0).f1).size : Int))) > (a1.size : Int) then (spec_l07Matches.j0 k l0 a1 a2 (wrap64 (a2 + (((rd_T26 l0 0).f1).size : Int))) true) else (if 0 ≤ a2 then (if a2 ≤ (wrap64 (a2 + (((rd_T26 l0 0).f1).size : Int))) then (if (wrap64 (a2 + (((rd_T26 l0 0).f1).size : Int))) ≤ (a1.size : Int) then (spec_l07Matches.j0 k l0 a1 a2 (wrap64 (a2 + (((rd_T26 l0 0).f1).size : Int))) ((a1.extract (a2 : Int).toNat ((wrap64 (a2 + (((rd_T26 l0 0).f1).size : Int))) : Int).toNat).toList != ((rd_T26 l0 0).f1).toList)) else (none)) else (none)) else (none))) else (none)) = some r := h
  clear h
  by_cases c4 : 0 < (l0.length : Int)
  · rw [if_pos c4] at H
    have c4b0 : decide (0 < (l0.length : Int)) = true := decide_eq_true c4
    have c4b1 : decide (0 < l0.length) = true := decide_eq_true (by omega)
    clear c4
    have HC5 := Aside0.mk H
    clear H
    have p177 : 0 ≤ (0 : Int) := (by omega)
    have q177 : 0 < (l0.length : Int) := of_decide_eq_true (by first | (with_reducible assumption) | assumption)
    obtain ⟨ad177, e177, hx177_0, hx177_1, hx177_2, hx177_3⟩ := at_T26 HR0.out 0 p177 q177
    cases e177
    have qi177 : (0 < l0.length) = True := eq_true (by omega)
    (try rw [show ((0 : Int)).toNat = 0 from rfl] at hx177_0)
    (try rw [show 0 * 4 = 0 from rfl] at hx177_0)
    (try rw [Addr.add_zero'] at hx177_0)
    (try rw [show ((0 : Int)).toNat = 0 from rfl] at hx177_1)
    (try rw [show 0 * 4 = 0 from rfl] at hx177_1)
    (try rw [Addr.add_zero'] at hx177_1)
    (try rw [show ((0 : Int)).toNat = 0 from rfl] at hx177_2)
    (try rw [show 0 * 4 = 0 from rfl] at hx177_2)
    (try rw [Addr.add_zero'] at hx177_2)
    (try rw [show ((0 : Int)).toNat = 0 from rfl] at hx177_3)
    (try rw [show 0 * 4 = 0 from rfl] at hx177_3)
    (try rw [Addr.add_zero'] at hx177_3)
    replace p177 := eq_true p177
    replace q177 := eq_true q177
    have p178 : 0 ≤ (0 : Int) := (by omega)
    have q178 : 0 < (l0.length : Int) := of_decide_eq_true (by first | (with_reducible assumption) | assumption)
    obtain ⟨ad178, e178, hx178_0, hx178_1, hx178_2, hx178_3⟩ := at_T26 HR0.out 0 p178 q178
    obtain rfl : ad177 = ad178 := (by injection e178)
    have qi178 : (0 < l0.length) = True := eq_true (by omega)
    (try rw [show ((0 : Int)).toNat = 0 from rfl] at hx178_0)
    (try rw [show 0 * 4 = 0 from rfl] at hx178_0)
    (try rw [Addr.add_zero'] at hx178_0)
    (try rw [show ((0 : Int)).toNat = 0 from rfl] at hx178_1)
    (try rw [show 0 * 4 = 0 from rfl] at hx178_1)
    (try rw [Addr.add_zero'] at hx178_1)
    (try rw [show ((0 : Int)).toNat = 0 from rfl] at hx178_2)
    (try rw [show 0 * 4 = 0 from rfl] at hx178_2)
    (try rw [Addr.add_zero'] at hx178_2)
    (try rw [show ((0 : Int)).toNat = 0 from rfl] at hx178_3)
    (try rw [show 0 * 4 = 0 from rfl] at hx178_3)
    (try rw [Addr.add_zero'] at hx178_3)
    replace p178 := eq_true p178
    replace q178 := eq_true q178
    go_enter Tryd.func52, Tryd.ntmps52
    go_upto_region 2 with (fail)
    repeat (go_quiet (fail); go_upto_region 2 with (fail))
    go_cut [31] (fun v31 wc => ∃ (kq : Nat) (x31_4 : Bool), v31 = .bool x31_4 ∧ Aside0 (spec_l07Matches.j0 kq l0 a1 a2 (wrap64 (a2 + (((rd_T26 l0 0).f1).size : Int))) x31_4 = some r) ∧ Aside0 (kq ≤ k) ∧ Drawn0 w wc)
    case first =>
      have H := HC5.out
      clear HC5
      by_cases c6 : (wrap64 (a2 + (((rd_T26 l0 0).f1).size : Int))) > (a1.size : Int)
      · rw [if_pos c6] at H
        have c6b0 : decide ((a1.size : Int) < (wrap64 (a2 + (((rd_T26 l0 0).f1).size : Int)))) = true := decide_eq_true c6
        clear c6
        (first | rw [c6b0] | (simp only [i64_w, i32_w]; rw [c6b0]) | skip)
        have H' := Aside0.mk H
        clear H
        go_wp2
        repeat (go_quiet (fail); try go_wp2)
        go_meet
        case rel => exact ⟨_, (true), (by first | rfl | (simp; done) | (simp [*]; done)), H', ⟨by first | omega | exact Nat.le_refl _⟩, by repeat (first | exact Drawn0.refl _ | apply Drawn0.step)⟩
      · rw [if_neg c6] at H
        have c6b0 : decide ((a1.size : Int) < (wrap64 (a2 + (((rd_T26 l0 0).f1).size : Int)))) = false := decide_eq_false c6
        clear c6
        (first | rw [c6b0] | (simp only [i64_w, i32_w]; rw [c6b0]) | skip)
        by_cases c7 : 0 ≤ a2
        · rw [if_pos c7] at H
          have c7b0 := eq_true c7
          have c7b1 : decide (0 ≤ a2) = true := decide_eq_true c7
          clear c7
          by_cases c8 : a2 ≤ (wrap64 (a2 + (((rd_T26 l0 0).f1).size : Int)))
          · rw [if_pos c8] at H
            have c8b0 := eq_true c8
            have c8b1 : decide (a2 ≤ (wrap64 (a2 + (((rd_T26 l0 0).f1).size : Int)))) = true := decide_eq_true c8
            by_cases c9 : (wrap64 (a2 + (((rd_T26 l0 0).f1).size : Int))) ≤ (a1.size : Int)
            · rw [if_pos c9] at H
              have c9b0 := eq_true c9
              have c9b1 : decide ((wrap64 (a2 + (((rd_T26 l0 0).f1).size : Int))) ≤ (a1.size : Int)) = true := decide_eq_true c9
              have H' := Aside0.mk H
              clear H
              have p179 : 0 ≤ (0 : Int) := (by omega)
              have q179 : 0 < (l0.length : Int) := of_decide_eq_true (by first | (with_reducible assumption) | assumption)
              obtain ⟨ad179, e179, hx179_0, hx179_1, hx179_2, hx179_3⟩ := at_T26 HR0.out 0 p179 q179
              obtain rfl : ad177 = ad179 := (by injection e179)
              have qi179 : (0 < l0.length) = True := eq_true (by omega)
              (try rw [show ((0 : Int)).toNat = 0 from rfl] at hx179_0)
              (try rw [show 0 * 4 = 0 from rfl] at hx179_0)
              (try rw [Addr.add_zero'] at hx179_0)
              (try rw [show ((0 : Int)).toNat = 0 from rfl] at hx179_1)
              (try rw [show 0 * 4 = 0 from rfl] at hx179_1)
              (try rw [Addr.add_zero'] at hx179_1)
              (try rw [show ((0 : Int)).toNat = 0 from rfl] at hx179_2)
              (try rw [show 0 * 4 = 0 from rfl] at hx179_2)
              (try rw [Addr.add_zero'] at hx179_2)
              (try rw [show ((0 : Int)).toNat = 0 from rfl] at hx179_3)
              (try rw [show 0 * 4 = 0 from rfl] at hx179_3)
              (try rw [Addr.add_zero'] at hx179_3)
              replace p179 := eq_true p179
              replace q179 := eq_true q179
              have p180 : 0 ≤ (0 : Int) := (by omega)
              have q180 : 0 < (l0.length : Int) := of_decide_eq_true (by first | (with_reducible assumption) | assumption)
              obtain ⟨ad180, e180, hx180_0, hx180_1, hx180_2, hx180_3⟩ := at_T26 HR0.out 0 p180 q180
              obtain rfl : ad177 = ad180 := (by injection e180)
              have qi180 : (0 < l0.length) = True := eq_true (by omega)
              (try rw [show ((0 : Int)).toNat = 0 from rfl] at hx180_0)
              (try rw [show 0 * 4 = 0 from rfl] at hx180_0)
              (try rw [Addr.add_zero'] at hx180_0)
              (try rw [show ((0 : Int)).toNat = 0 from rfl] at hx180_1)
              (try rw [show 0 * 4 = 0 from rfl] at hx180_1)
              (try rw [Addr.add_zero'] at hx180_1)
              (try rw [show ((0 : Int)).toNat = 0 from rfl] at hx180_2)
              (try rw [show 0 * 4 = 0 from rfl] at hx180_2)
              (try rw [Addr.add_zero'] at hx180_2)
              (try rw [show ((0 : Int)).toNat = 0 from rfl] at hx180_3)
              (try rw [show 0 * 4 = 0 from rfl] at hx180_3)
              (try rw [Addr.add_zero'] at hx180_3)
              replace p180 := eq_true p180
              replace q180 := eq_true q180
              go_wp2
              repeat (go_quiet (fail); try go_wp2)
              go_meet
              case rel => exact ⟨_, (((a1.extract (a2 : Int).toNat ((wrap64 (a2 + (((rd_T26 l0 0).f1).size : Int))) : Int).toNat).toList != ((rd_T26 l0 0).f1).toList)), (by first | rfl | (simp; done) | (simp [*]; done)), H', ⟨by first | omega | exact Nat.le_refl _⟩, by repeat (first | exact Drawn0.refl _ | apply Drawn0.step)⟩
            · rw [if_neg c9] at H
              exact absurd H (by simp)
          · rw [if_neg c8] at H
            exact absurd H (by simp)
        · rw [if_neg c7] at H
          exact absurd H (by simp)
    case rest =>
      clear HC5
      try clear p1
      try clear q1
      try clear hx1
      try clear qi1
      try clear p2
      try clear c4
      try clear c4b0
      try clear c4b1
      try clear c5
      try clear c6
      try clear c6b0
      try clear p6
      try clear c7
      try clear c7b0
      try clear c7b1
      try clear c8
      try clear c8b0
      try clear c8b1
      try clear c9
      try clear c9b0
      try clear c9b1
      try clear hx177_0
      try clear hx177_1
      try clear hx177_2
      try clear hx177_3
      try clear hx178_0
      try clear hx178_1
      try clear hx178_2
      try clear hx178_3
      try clear hx179_0
      try clear hx179_1
      try clear hx179_2
      try clear hx179_3
      try clear hx180_0
      try clear hx180_1
      try clear hx180_2
      try clear hx180_3
      try clear p177
      try clear p178
      try clear p179
      try clear p180
      try clear q177
      try clear q178
      try clear q179
      try clear q180
      obtain ⟨kq, x31_4, rfl, HA, HJ4, ⟨mc4, rfl⟩⟩ := hcut
      cases kq with
      | zero => exact absurd HA.out (by simp [spec_l07Matches.j0])
      | succ kj4 =>
        have H := HA.out
        clear HA
        simp only [spec_l07Matches.j0] at H
        by_cases c10 : x31_4 = true
        · subst c10
          have H1 : (some false) = some r := by rw [if_pos rfl] at H; exact H
          clear H
          have H := H1
          clear H1
          obtain rfl := Option.some.inj H
          go_wp2
          repeat (go_quiet (fail); try go_wp2)
          go_ret
          exact ⟨by first | rfl | (simp; done) | (simp [*]; done), by repeat (first | exact Drawn0.refl _ | apply Drawn0.step)⟩
        · replace c10 := Bool.eq_false_iff.mpr c10
          subst c10
          have H1 : (spec_l07Matches.l0 kj4 l0 a1 a2 (wrap64 (a2 + (((rd_T26 l0 0).f1).size : Int))) 0) = some r := by rw [if_neg (show ¬ (false = true) by decide)] at H; exact H
          clear H
          have H := H1
          clear H1
          have H' := Aside0.mk H
          clear H
          go_wp2
          repeat (go_quiet (fail); try go_wp2)
          go_loopg [7, 8] kj4 (fun kq v7 v8 w' => ∃ (x7_2 : Int) (x8_2 : Int), v7 = .int .i64 x7_2 ∧ v8 = .int .i64 x8_2 ∧ Aside0 (spec_l07Matches.l0 kq l0 a1 a2 x7_2 x8_2 = some r) ∧ Aside0 (kq ≤ kj4) ∧ Drawn0 w w')
          case atStart => exact ⟨((wrap64 (a2 + (((rd_T26 l0 0).f1).size : Int)))), (0), (by first | rfl | (simp; done) | (simp [*]; done)), (by first | rfl | (simp; done) | (simp [*]; done)), H', ⟨Nat.le_refl _⟩, by repeat (first | exact Drawn0.refl _ | apply Drawn0.step)⟩
          case round =>
            clear H'
            try clear c1
            try clear p1
            try clear q1
            try clear hx1
            try clear qi1
            try clear p2
            try clear c4
            try clear c4b0
            try clear c4b1
            try clear c5
            try clear c6
            try clear c6b0
            try clear p6
            try clear c7
            try clear c7b0
            try clear c7b1
            try clear c8
            try clear c8b0
            try clear c8b1
            try clear c9
            try clear c9b0
            try clear c9b1
            try clear c10
            try clear hx177_0
            try clear hx177_1
            try clear hx177_2
            try clear hx177_3
            try clear hx178_0
            try clear hx178_1
            try clear hx178_2
            try clear hx178_3
            try clear hx179_0
            try clear hx179_1
            try clear hx179_2
            try clear hx179_3
            try clear hx180_0
            try clear hx180_1
            try clear hx180_2
            try clear hx180_3
            try clear p1
            try clear p177
            try clear p178
            try clear p179
            try clear p180
            try clear p2
            try clear p6
            try clear q1
            try clear q177
            try clear q178
            try clear q179
            try clear q180
            obtain ⟨x7_2, x8_2, rfl, rfl, HA, HK2, ⟨m2, rfl⟩⟩ := hrel
            cases gk with
            | zero => exact absurd HA.out (by simp [spec_l07Matches.l0])
            | succ k2 =>
              have H := HA.out
              clear HA
              simp only [spec_l07Matches.l0] at H
              by_cases c11 : 0 < (l0.length : Int)
              · rw [if_pos c11] at H
                have c11b0 : decide (0 < (l0.length : Int)) = true := decide_eq_true c11
                have c11b1 : decide (0 < l0.length) = true := decide_eq_true (by omega)
                clear c11
                by_cases c12 : x8_2 < (((rd_T26 l0 0).f2).size : Int)
                · rw [if_pos c12] at H
                  have c12b0 : decide (x8_2 < (((rd_T26 l0 0).f2).size : Int)) = true := decide_eq_true c12
                  clear c12
                  by_cases c13 : 0 ≤ x8_2
                  · rw [if_pos c13] at H
                    have c13b0 : decide (0 ≤ x8_2) = true := decide_eq_true c13
                    clear c13
                    by_cases c15 : (bt ((rd_T26 l0 0).f2) x8_2) = 45
                    · rw [if_pos c15] at H
                      have c15b0 : ((bt ((rd_T26 l0 0).f2) x8_2) == 45) = true := beq_iff_eq.mpr c15
                      have c15b1 : ((bt ((rd_T26 l0 0).f2) x8_2) != 45) = false := bne_eq_false_iff_eq.mpr c15
                      clear c15
                      by_cases c16 : x7_2 = (a1.size : Int)
                      · rw [if_pos c16] at H
                        have c16b0 : (x7_2 == (a1.size : Int)) = true := beq_iff_eq.mpr c16
                        have c16b1 : (x7_2 != (a1.size : Int)) = false := bne_eq_false_iff_eq.mpr c16
                        clear c16
                        have H' := Aside0.mk H
                        clear H
                        have p181 : 0 ≤ (0 : Int) := (by omega)
                        have q181 : 0 < (l0.length : Int) := of_decide_eq_true (by first | (with_reducible assumption) | assumption)
                        obtain ⟨ad181, e181, hx181_0, hx181_1, hx181_2, hx181_3⟩ := at_T26 HR0.out 0 p181 q181
                        obtain rfl : ad177 = ad181 := (by injection e181)
                        have qi181 : (0 < l0.length) = True := eq_true (by omega)
                        (try rw [show ((0 : Int)).toNat = 0 from rfl] at hx181_0)
                        (try rw [show 0 * 4 = 0 from rfl] at hx181_0)
                        (try rw [Addr.add_zero'] at hx181_0)
                        (try rw [show ((0 : Int)).toNat = 0 from rfl] at hx181_1)
                        (try rw [show 0 * 4 = 0 from rfl] at hx181_1)
                        (try rw [Addr.add_zero'] at hx181_1)
                        (try rw [show ((0 : Int)).toNat = 0 from rfl] at hx181_2)
                        (try rw [show 0 * 4 = 0 from rfl] at hx181_2)
                        (try rw [Addr.add_zero'] at hx181_2)
                        (try rw [show ((0 : Int)).toNat = 0 from rfl] at hx181_3)
                        (try rw [show 0 * 4 = 0 from rfl] at hx181_3)
                        (try rw [Addr.add_zero'] at hx181_3)
                        replace p181 := eq_true p181
                        replace q181 := eq_true q181
                        have p182 : 0 ≤ (0 : Int) := (by omega)
                        have q182 : 0 < (l0.length : Int) := of_decide_eq_true (by first | (with_reducible assumption) | assumption)
                        obtain ⟨ad182, e182, hx182_0, hx182_1, hx182_2, hx182_3⟩ := at_T26 HR0.out 0 p182 q182
                        obtain rfl : ad177 = ad182 := (by injection e182)
                        have qi182 : (0 < l0.length) = True := eq_true (by omega)
                        (try rw [show ((0 : Int)).toNat = 0 from rfl] at hx182_0)
                        (try rw [show 0 * 4 = 0 from rfl] at hx182_0)
                        (try rw [Addr.add_zero'] at hx182_0)
                        (try rw [show ((0 : Int)).toNat = 0 from rfl] at hx182_1)
                        (try rw [show 0 * 4 = 0 from rfl] at hx182_1)
                        (try rw [Addr.add_zero'] at hx182_1)
                        (try rw [show ((0 : Int)).toNat = 0 from rfl] at hx182_2)
                        (try rw [show 0 * 4 = 0 from rfl] at hx182_2)
                        (try rw [Addr.add_zero'] at hx182_2)
                        (try rw [show ((0 : Int)).toNat = 0 from rfl] at hx182_3)
                        (try rw [show 0 * 4 = 0 from rfl] at hx182_3)
                        (try rw [Addr.add_zero'] at hx182_3)
                        replace p182 := eq_true p182
                        replace q182 := eq_true q182
                        have p183 : 0 ≤ (0 : Int) := (by omega)
                        have q183 : 0 < (l0.length : Int) := of_decide_eq_true (by first | (with_reducible assumption) | assumption)
                        obtain ⟨ad183, e183, hx183_0, hx183_1, hx183_2, hx183_3⟩ := at_T26 HR0.out 0 p183 q183
                        obtain rfl : ad177 = ad183 := (by injection e183)
                        have qi183 : (0 < l0.length) = True := eq_true (by omega)
                        (try rw [show ((0 : Int)).toNat = 0 from rfl] at hx183_0)
                        (try rw [show 0 * 4 = 0 from rfl] at hx183_0)
                        (try rw [Addr.add_zero'] at hx183_0)
                        (try rw [show ((0 : Int)).toNat = 0 from rfl] at hx183_1)
                        (try rw [show 0 * 4 = 0 from rfl] at hx183_1)
                        (try rw [Addr.add_zero'] at hx183_1)
                        (try rw [show ((0 : Int)).toNat = 0 from rfl] at hx183_2)
                        (try rw [show 0 * 4 = 0 from rfl] at hx183_2)
                        (try rw [Addr.add_zero'] at hx183_2)
                        (try rw [show ((0 : Int)).toNat = 0 from rfl] at hx183_3)
                        (try rw [show 0 * 4 = 0 from rfl] at hx183_3)
                        (try rw [Addr.add_zero'] at hx183_3)
                        replace p183 := eq_true p183
                        replace q183 := eq_true q183
                        have p184 : 0 ≤ (0 : Int) := (by omega)
                        have q184 : 0 < (l0.length : Int) := of_decide_eq_true (by first | (with_reducible assumption) | assumption)
                        obtain ⟨ad184, e184, hx184_0, hx184_1, hx184_2, hx184_3⟩ := at_T26 HR0.out 0 p184 q184
                        obtain rfl : ad177 = ad184 := (by injection e184)
                        have qi184 : (0 < l0.length) = True := eq_true (by omega)
                        (try rw [show ((0 : Int)).toNat = 0 from rfl] at hx184_0)
                        (try rw [show 0 * 4 = 0 from rfl] at hx184_0)
                        (try rw [Addr.add_zero'] at hx184_0)
                        (try rw [show ((0 : Int)).toNat = 0 from rfl] at hx184_1)
                        (try rw [show 0 * 4 = 0 from rfl] at hx184_1)
                        (try rw [Addr.add_zero'] at hx184_1)
                        (try rw [show ((0 : Int)).toNat = 0 from rfl] at hx184_2)
                        (try rw [show 0 * 4 = 0 from rfl] at hx184_2)
                        (try rw [Addr.add_zero'] at hx184_2)
                        (try rw [show ((0 : Int)).toNat = 0 from rfl] at hx184_3)
                        (try rw [show 0 * 4 = 0 from rfl] at hx184_3)
                        (try rw [Addr.add_zero'] at hx184_3)
                        replace p184 := eq_true p184
                        replace q184 := eq_true q184
                        have p14 : 0 ≤ (x8_2 : Int) := of_decide_eq_true (by first | (with_reducible assumption) | assumption)
                        have q14 : x8_2 < (((rd_T26 l0 0).f2).size : Int) := of_decide_eq_true (by first | (with_reducible assumption) | assumption)
                        have hx14 := bt_at ((rd_T26 l0 0).f2) x8_2
                        replace p14 := eq_true p14
                        replace q14 := eq_true q14
                        go_wp2
                        repeat (go_quiet (fail); try go_wp2)
                        go_roundg k2
                        case measure => have := HJ4.out; have := HK2.out; omega
                        case rel => exact ⟨(x7_2), (wrap64 (x8_2 + 1)), (by first | rfl | (simp; done) | (simp [*]; done)), (by first | rfl | (simp; done) | (simp [*]; done)), H', ⟨by have := HJ4.out; have := HK2.out; omega⟩, by repeat (first | exact Drawn0.refl _ | apply Drawn0.step)⟩
                      · rw [if_neg c16] at H
                        have c16b0 : (x7_2 == (a1.size : Int)) = false := beq_eq_false_iff_ne.mpr c16
                        have c16b1 : (x7_2 != (a1.size : Int)) = true := bne_iff_ne.mpr c16
                        obtain rfl := Option.some.inj H
                        have p181 : 0 ≤ (0 : Int) := (by omega)
                        have q181 : 0 < (l0.length : Int) := of_decide_eq_true (by first | (with_reducible assumption) | assumption)
                        obtain ⟨ad181, e181, hx181_0, hx181_1, hx181_2, hx181_3⟩ := at_T26 HR0.out 0 p181 q181
                        obtain rfl : ad177 = ad181 := (by injection e181)
                        have qi181 : (0 < l0.length) = True := eq_true (by omega)
                        (try rw [show ((0 : Int)).toNat = 0 from rfl] at hx181_0)
                        (try rw [show 0 * 4 = 0 from rfl] at hx181_0)
                        (try rw [Addr.add_zero'] at hx181_0)
                        (try rw [show ((0 : Int)).toNat = 0 from rfl] at hx181_1)
                        (try rw [show 0 * 4 = 0 from rfl] at hx181_1)
                        (try rw [Addr.add_zero'] at hx181_1)
                        (try rw [show ((0 : Int)).toNat = 0 from rfl] at hx181_2)
                        (try rw [show 0 * 4 = 0 from rfl] at hx181_2)
                        (try rw [Addr.add_zero'] at hx181_2)
                        (try rw [show ((0 : Int)).toNat = 0 from rfl] at hx181_3)
                        (try rw [show 0 * 4 = 0 from rfl] at hx181_3)
                        (try rw [Addr.add_zero'] at hx181_3)
                        replace p181 := eq_true p181
                        replace q181 := eq_true q181
                        have p182 : 0 ≤ (0 : Int) := (by omega)
                        have q182 : 0 < (l0.length : Int) := of_decide_eq_true (by first | (with_reducible assumption) | assumption)
                        obtain ⟨ad182, e182, hx182_0, hx182_1, hx182_2, hx182_3⟩ := at_T26 HR0.out 0 p182 q182
                        obtain rfl : ad177 = ad182 := (by injection e182)
                        have qi182 : (0 < l0.length) = True := eq_true (by omega)
                        (try rw [show ((0 : Int)).toNat = 0 from rfl] at hx182_0)
                        (try rw [show 0 * 4 = 0 from rfl] at hx182_0)
                        (try rw [Addr.add_zero'] at hx182_0)
                        (try rw [show ((0 : Int)).toNat = 0 from rfl] at hx182_1)
                        (try rw [show 0 * 4 = 0 from rfl] at hx182_1)
                        (try rw [Addr.add_zero'] at hx182_1)
                        (try rw [show ((0 : Int)).toNat = 0 from rfl] at hx182_2)
                        (try rw [show 0 * 4 = 0 from rfl] at hx182_2)
                        (try rw [Addr.add_zero'] at hx182_2)
                        (try rw [show ((0 : Int)).toNat = 0 from rfl] at hx182_3)
                        (try rw [show 0 * 4 = 0 from rfl] at hx182_3)
                        (try rw [Addr.add_zero'] at hx182_3)
                        replace p182 := eq_true p182
                        replace q182 := eq_true q182
                        have p183 : 0 ≤ (0 : Int) := (by omega)
                        have q183 : 0 < (l0.length : Int) := of_decide_eq_true (by first | (with_reducible assumption) | assumption)
                        obtain ⟨ad183, e183, hx183_0, hx183_1, hx183_2, hx183_3⟩ := at_T26 HR0.out 0 p183 q183
                        obtain rfl : ad177 = ad183 := (by injection e183)
                        have qi183 : (0 < l0.length) = True := eq_true (by omega)
                        (try rw [show ((0 : Int)).toNat = 0 from rfl] at hx183_0)
                        (try rw [show 0 * 4 = 0 from rfl] at hx183_0)
                        (try rw [Addr.add_zero'] at hx183_0)
                        (try rw [show ((0 : Int)).toNat = 0 from rfl] at hx183_1)
                        (try rw [show 0 * 4 = 0 from rfl] at hx183_1)
                        (try rw [Addr.add_zero'] at hx183_1)
                        (try rw [show ((0 : Int)).toNat = 0 from rfl] at hx183_2)
                        (try rw [show 0 * 4 = 0 from rfl] at hx183_2)
                        (try rw [Addr.add_zero'] at hx183_2)
                        (try rw [show ((0 : Int)).toNat = 0 from rfl] at hx183_3)
                        (try rw [show 0 * 4 = 0 from rfl] at hx183_3)
                        (try rw [Addr.add_zero'] at hx183_3)
                        replace p183 := eq_true p183
                        replace q183 := eq_true q183
                        have p184 : 0 ≤ (0 : Int) := (by omega)
                        have q184 : 0 < (l0.length : Int) := of_decide_eq_true (by first | (with_reducible assumption) | assumption)
                        obtain ⟨ad184, e184, hx184_0, hx184_1, hx184_2, hx184_3⟩ := at_T26 HR0.out 0 p184 q184
                        obtain rfl : ad177 = ad184 := (by injection e184)
                        have qi184 : (0 < l0.length) = True := eq_true (by omega)
                        (try rw [show ((0 : Int)).toNat = 0 from rfl] at hx184_0)
                        (try rw [show 0 * 4 = 0 from rfl] at hx184_0)
                        (try rw [Addr.add_zero'] at hx184_0)
                        (try rw [show ((0 : Int)).toNat = 0 from rfl] at hx184_1)
                        (try rw [show 0 * 4 = 0 from rfl] at hx184_1)
                        (try rw [Addr.add_zero'] at hx184_1)
                        (try rw [show ((0 : Int)).toNat = 0 from rfl] at hx184_2)
                        (try rw [show 0 * 4 = 0 from rfl] at hx184_2)
                        (try rw [Addr.add_zero'] at hx184_2)
                        (try rw [show ((0 : Int)).toNat = 0 from rfl] at hx184_3)
                        (try rw [show 0 * 4 = 0 from rfl] at hx184_3)
                        (try rw [Addr.add_zero'] at hx184_3)
                        replace p184 := eq_true p184
                        replace q184 := eq_true q184
                        have p14 : 0 ≤ (x8_2 : Int) := of_decide_eq_true (by first | (with_reducible assumption) | assumption)
                        have q14 : x8_2 < (((rd_T26 l0 0).f2).size : Int) := of_decide_eq_true (by first | (with_reducible assumption) | assumption)
                        have hx14 := bt_at ((rd_T26 l0 0).f2) x8_2
                        replace p14 := eq_true p14
                        replace q14 := eq_true q14
                        go_wp2
                        repeat (go_quiet (fail); try go_wp2)
                        go_ret
                        exact ⟨by first | rfl | (simp; done) | (simp [*]; done), by repeat (first | exact Drawn0.refl _ | apply Drawn0.step)⟩
                    · rw [if_neg c15] at H
                      have c15b0 : ((bt ((rd_T26 l0 0).f2) x8_2) == 45) = false := beq_eq_false_iff_ne.mpr c15
                      have c15b1 : ((bt ((rd_T26 l0 0).f2) x8_2) != 45) = true := bne_iff_ne.mpr c15
                      by_cases c17 : x7_2 ≥ (a1.size : Int)
                      · rw [if_pos c17] at H
                        have c17b0 : decide ((a1.size : Int) ≤ x7_2) = true := decide_eq_true c17
                        clear c17
                        obtain rfl := Option.some.inj H
                        have p181 : 0 ≤ (0 : Int) := (by omega)
                        have q181 : 0 < (l0.length : Int) := of_decide_eq_true (by first | (with_reducible assumption) | assumption)
                        obtain ⟨ad181, e181, hx181_0, hx181_1, hx181_2, hx181_3⟩ := at_T26 HR0.out 0 p181 q181
                        obtain rfl : ad177 = ad181 := (by injection e181)
                        have qi181 : (0 < l0.length) = True := eq_true (by omega)
                        (try rw [show ((0 : Int)).toNat = 0 from rfl] at hx181_0)
                        (try rw [show 0 * 4 = 0 from rfl] at hx181_0)
                        (try rw [Addr.add_zero'] at hx181_0)
                        (try rw [show ((0 : Int)).toNat = 0 from rfl] at hx181_1)
                        (try rw [show 0 * 4 = 0 from rfl] at hx181_1)
                        (try rw [Addr.add_zero'] at hx181_1)
                        (try rw [show ((0 : Int)).toNat = 0 from rfl] at hx181_2)
                        (try rw [show 0 * 4 = 0 from rfl] at hx181_2)
                        (try rw [Addr.add_zero'] at hx181_2)
                        (try rw [show ((0 : Int)).toNat = 0 from rfl] at hx181_3)
                        (try rw [show 0 * 4 = 0 from rfl] at hx181_3)
                        (try rw [Addr.add_zero'] at hx181_3)
                        replace p181 := eq_true p181
                        replace q181 := eq_true q181
                        have p182 : 0 ≤ (0 : Int) := (by omega)
                        have q182 : 0 < (l0.length : Int) := of_decide_eq_true (by first | (with_reducible assumption) | assumption)
                        obtain ⟨ad182, e182, hx182_0, hx182_1, hx182_2, hx182_3⟩ := at_T26 HR0.out 0 p182 q182
                        obtain rfl : ad177 = ad182 := (by injection e182)
                        have qi182 : (0 < l0.length) = True := eq_true (by omega)
                        (try rw [show ((0 : Int)).toNat = 0 from rfl] at hx182_0)
                        (try rw [show 0 * 4 = 0 from rfl] at hx182_0)
                        (try rw [Addr.add_zero'] at hx182_0)
                        (try rw [show ((0 : Int)).toNat = 0 from rfl] at hx182_1)
                        (try rw [show 0 * 4 = 0 from rfl] at hx182_1)
                        (try rw [Addr.add_zero'] at hx182_1)
                        (try rw [show ((0 : Int)).toNat = 0 from rfl] at hx182_2)
                        (try rw [show 0 * 4 = 0 from rfl] at hx182_2)
                        (try rw [Addr.add_zero'] at hx182_2)
                        (try rw [show ((0 : Int)).toNat = 0 from rfl] at hx182_3)
                        (try rw [show 0 * 4 = 0 from rfl] at hx182_3)
                        (try rw [Addr.add_zero'] at hx182_3)
                        replace p182 := eq_true p182
                        replace q182 := eq_true q182
                        have p183 : 0 ≤ (0 : Int) := (by omega)
                        have q183 : 0 < (l0.length : Int) := of_decide_eq_true (by first | (with_reducible assumption) | assumption)
                        obtain ⟨ad183, e183, hx183_0, hx183_1, hx183_2, hx183_3⟩ := at_T26 HR0.out 0 p183 q183
                        obtain rfl : ad177 = ad183 := (by injection e183)
                        have qi183 : (0 < l0.length) = True := eq_true (by omega)
                        (try rw [show ((0 : Int)).toNat = 0 from rfl] at hx183_0)
                        (try rw [show 0 * 4 = 0 from rfl] at hx183_0)
                        (try rw [Addr.add_zero'] at hx183_0)
                        (try rw [show ((0 : Int)).toNat = 0 from rfl] at hx183_1)
                        (try rw [show 0 * 4 = 0 from rfl] at hx183_1)
                        (try rw [Addr.add_zero'] at hx183_1)
                        (try rw [show ((0 : Int)).toNat = 0 from rfl] at hx183_2)
                        (try rw [show 0 * 4 = 0 from rfl] at hx183_2)
                        (try rw [Addr.add_zero'] at hx183_2)
                        (try rw [show ((0 : Int)).toNat = 0 from rfl] at hx183_3)
                        (try rw [show 0 * 4 = 0 from rfl] at hx183_3)
                        (try rw [Addr.add_zero'] at hx183_3)
                        replace p183 := eq_true p183
                        replace q183 := eq_true q183
                        have p184 : 0 ≤ (0 : Int) := (by omega)
                        have q184 : 0 < (l0.length : Int) := of_decide_eq_true (by first | (with_reducible assumption) | assumption)
                        obtain ⟨ad184, e184, hx184_0, hx184_1, hx184_2, hx184_3⟩ := at_T26 HR0.out 0 p184 q184
                        obtain rfl : ad177 = ad184 := (by injection e184)
                        have qi184 : (0 < l0.length) = True := eq_true (by omega)
                        (try rw [show ((0 : Int)).toNat = 0 from rfl] at hx184_0)
                        (try rw [show 0 * 4 = 0 from rfl] at hx184_0)
                        (try rw [Addr.add_zero'] at hx184_0)
                        (try rw [show ((0 : Int)).toNat = 0 from rfl] at hx184_1)
                        (try rw [show 0 * 4 = 0 from rfl] at hx184_1)
                        (try rw [Addr.add_zero'] at hx184_1)
                        (try rw [show ((0 : Int)).toNat = 0 from rfl] at hx184_2)
                        (try rw [show 0 * 4 = 0 from rfl] at hx184_2)
                        (try rw [Addr.add_zero'] at hx184_2)
                        (try rw [show ((0 : Int)).toNat = 0 from rfl] at hx184_3)
                        (try rw [show 0 * 4 = 0 from rfl] at hx184_3)
                        (try rw [Addr.add_zero'] at hx184_3)
                        replace p184 := eq_true p184
                        replace q184 := eq_true q184
                        have p14 : 0 ≤ (x8_2 : Int) := of_decide_eq_true (by first | (with_reducible assumption) | assumption)
                        have q14 : x8_2 < (((rd_T26 l0 0).f2).size : Int) := of_decide_eq_true (by first | (with_reducible assumption) | assumption)
                        have hx14 := bt_at ((rd_T26 l0 0).f2) x8_2
                        replace p14 := eq_true p14
                        replace q14 := eq_true q14
                        go_wp2
                        repeat (go_quiet (fail); try go_wp2)
                        go_ret
                        exact ⟨by first | rfl | (simp; done) | (simp [*]; done), by repeat (first | exact Drawn0.refl _ | apply Drawn0.step)⟩
                      · rw [if_neg c17] at H
                        have c17b0 : decide ((a1.size : Int) ≤ x7_2) = false := decide_eq_false c17
                        clear c17
                        by_cases c19 : 0 ≤ x7_2
                        · rw [if_pos c19] at H
                          have c19b0 : decide (0 ≤ x7_2) = true := decide_eq_true c19
                          clear c19
                          by_cases c20 : x7_2 < (a1.size : Int)
                          · rw [if_pos c20] at H
                            have c20b0 : decide (x7_2 < (a1.size : Int)) = true := decide_eq_true c20
                            clear c20
                            replace H := Option.bind_eq_some_iff.mp H
                            obtain ⟨t187, A220, H⟩ := H
                            replace H : (if t187 = true then (spec_l07Matches.l0 k2 l0 a1 a2 (wrap64 (x7_2 + 1)) (wrap64 (x8_2 + 1))) else (some false)) = some r := H
                            have A22 := Aside0.mk A220
                            clear A220
                            by_cases c23 : t187 = true
                            · subst c23
                              have H1 : (spec_l07Matches.l0 k2 l0 a1 a2 (wrap64 (x7_2 + 1)) (wrap64 (x8_2 + 1))) = some r := by rw [if_pos rfl] at H; exact H
                              clear H
                              have H := H1
                              clear H1
                              have H' := Aside0.mk H
                              clear H
                              have p181 : 0 ≤ (0 : Int) := (by omega)
                              have q181 : 0 < (l0.length : Int) := of_decide_eq_true (by first | (with_reducible assumption) | assumption)
                              obtain ⟨ad181, e181, hx181_0, hx181_1, hx181_2, hx181_3⟩ := at_T26 HR0.out 0 p181 q181
                              obtain rfl : ad177 = ad181 := (by injection e181)
                              have qi181 : (0 < l0.length) = True := eq_true (by omega)
                              (try rw [show ((0 : Int)).toNat = 0 from rfl] at hx181_0)
                              (try rw [show 0 * 4 = 0 from rfl] at hx181_0)
                              (try rw [Addr.add_zero'] at hx181_0)
                              (try rw [show ((0 : Int)).toNat = 0 from rfl] at hx181_1)
                              (try rw [show 0 * 4 = 0 from rfl] at hx181_1)
                              (try rw [Addr.add_zero'] at hx181_1)
                              (try rw [show ((0 : Int)).toNat = 0 from rfl] at hx181_2)
                              (try rw [show 0 * 4 = 0 from rfl] at hx181_2)
                              (try rw [Addr.add_zero'] at hx181_2)
                              (try rw [show ((0 : Int)).toNat = 0 from rfl] at hx181_3)
                              (try rw [show 0 * 4 = 0 from rfl] at hx181_3)
                              (try rw [Addr.add_zero'] at hx181_3)
                              replace p181 := eq_true p181
                              replace q181 := eq_true q181
                              have p182 : 0 ≤ (0 : Int) := (by omega)
                              have q182 : 0 < (l0.length : Int) := of_decide_eq_true (by first | (with_reducible assumption) | assumption)
                              obtain ⟨ad182, e182, hx182_0, hx182_1, hx182_2, hx182_3⟩ := at_T26 HR0.out 0 p182 q182
                              obtain rfl : ad177 = ad182 := (by injection e182)
                              have qi182 : (0 < l0.length) = True := eq_true (by omega)
                              (try rw [show ((0 : Int)).toNat = 0 from rfl] at hx182_0)
                              (try rw [show 0 * 4 = 0 from rfl] at hx182_0)
                              (try rw [Addr.add_zero'] at hx182_0)
                              (try rw [show ((0 : Int)).toNat = 0 from rfl] at hx182_1)
                              (try rw [show 0 * 4 = 0 from rfl] at hx182_1)
                              (try rw [Addr.add_zero'] at hx182_1)
                              (try rw [show ((0 : Int)).toNat = 0 from rfl] at hx182_2)
                              (try rw [show 0 * 4 = 0 from rfl] at hx182_2)
                              (try rw [Addr.add_zero'] at hx182_2)
                              (try rw [show ((0 : Int)).toNat = 0 from rfl] at hx182_3)
                              (try rw [show 0 * 4 = 0 from rfl] at hx182_3)
                              (try rw [Addr.add_zero'] at hx182_3)
                              replace p182 := eq_true p182
                              replace q182 := eq_true q182
                              have p183 : 0 ≤ (0 : Int) := (by omega)
                              have q183 : 0 < (l0.length : Int) := of_decide_eq_true (by first | (with_reducible assumption) | assumption)
                              obtain ⟨ad183, e183, hx183_0, hx183_1, hx183_2, hx183_3⟩ := at_T26 HR0.out 0 p183 q183
                              obtain rfl : ad177 = ad183 := (by injection e183)
                              have qi183 : (0 < l0.length) = True := eq_true (by omega)
                              (try rw [show ((0 : Int)).toNat = 0 from rfl] at hx183_0)
                              (try rw [show 0 * 4 = 0 from rfl] at hx183_0)
                              (try rw [Addr.add_zero'] at hx183_0)
                              (try rw [show ((0 : Int)).toNat = 0 from rfl] at hx183_1)
                              (try rw [show 0 * 4 = 0 from rfl] at hx183_1)
                              (try rw [Addr.add_zero'] at hx183_1)
                              (try rw [show ((0 : Int)).toNat = 0 from rfl] at hx183_2)
                              (try rw [show 0 * 4 = 0 from rfl] at hx183_2)
                              (try rw [Addr.add_zero'] at hx183_2)
                              (try rw [show ((0 : Int)).toNat = 0 from rfl] at hx183_3)
                              (try rw [show 0 * 4 = 0 from rfl] at hx183_3)
                              (try rw [Addr.add_zero'] at hx183_3)
                              replace p183 := eq_true p183
                              replace q183 := eq_true q183
                              have p184 : 0 ≤ (0 : Int) := (by omega)
                              have q184 : 0 < (l0.length : Int) := of_decide_eq_true (by first | (with_reducible assumption) | assumption)
                              obtain ⟨ad184, e184, hx184_0, hx184_1, hx184_2, hx184_3⟩ := at_T26 HR0.out 0 p184 q184
                              obtain rfl : ad177 = ad184 := (by injection e184)
                              have qi184 : (0 < l0.length) = True := eq_true (by omega)
                              (try rw [show ((0 : Int)).toNat = 0 from rfl] at hx184_0)
                              (try rw [show 0 * 4 = 0 from rfl] at hx184_0)
                              (try rw [Addr.add_zero'] at hx184_0)
                              (try rw [show ((0 : Int)).toNat = 0 from rfl] at hx184_1)
                              (try rw [show 0 * 4 = 0 from rfl] at hx184_1)
                              (try rw [Addr.add_zero'] at hx184_1)
                              (try rw [show ((0 : Int)).toNat = 0 from rfl] at hx184_2)
                              (try rw [show 0 * 4 = 0 from rfl] at hx184_2)
                              (try rw [Addr.add_zero'] at hx184_2)
                              (try rw [show ((0 : Int)).toNat = 0 from rfl] at hx184_3)
                              (try rw [show 0 * 4 = 0 from rfl] at hx184_3)
                              (try rw [Addr.add_zero'] at hx184_3)
                              replace p184 := eq_true p184
                              replace q184 := eq_true q184
                              have p14 : 0 ≤ (x8_2 : Int) := of_decide_eq_true (by first | (with_reducible assumption) | assumption)
                              have q14 : x8_2 < (((rd_T26 l0 0).f2).size : Int) := of_decide_eq_true (by first | (with_reducible assumption) | assumption)
                              have hx14 := bt_at ((rd_T26 l0 0).f2) x8_2
                              replace p14 := eq_true p14
                              replace q14 := eq_true q14
                              have p185 : 0 ≤ (0 : Int) := (by omega)
                              have q185 : 0 < (l0.length : Int) := of_decide_eq_true (by first | (with_reducible assumption) | assumption)
                              obtain ⟨ad185, e185, hx185_0, hx185_1, hx185_2, hx185_3⟩ := at_T26 HR0.out 0 p185 q185
                              obtain rfl : ad177 = ad185 := (by injection e185)
                              have qi185 : (0 < l0.length) = True := eq_true (by omega)
                              (try rw [show ((0 : Int)).toNat = 0 from rfl] at hx185_0)
                              (try rw [show 0 * 4 = 0 from rfl] at hx185_0)
                              (try rw [Addr.add_zero'] at hx185_0)
                              (try rw [show ((0 : Int)).toNat = 0 from rfl] at hx185_1)
                              (try rw [show 0 * 4 = 0 from rfl] at hx185_1)
                              (try rw [Addr.add_zero'] at hx185_1)
                              (try rw [show ((0 : Int)).toNat = 0 from rfl] at hx185_2)
                              (try rw [show 0 * 4 = 0 from rfl] at hx185_2)
                              (try rw [Addr.add_zero'] at hx185_2)
                              (try rw [show ((0 : Int)).toNat = 0 from rfl] at hx185_3)
                              (try rw [show 0 * 4 = 0 from rfl] at hx185_3)
                              (try rw [Addr.add_zero'] at hx185_3)
                              replace p185 := eq_true p185
                              replace q185 := eq_true q185
                              have p186 : 0 ≤ (0 : Int) := (by omega)
                              have q186 : 0 < (l0.length : Int) := of_decide_eq_true (by first | (with_reducible assumption) | assumption)
                              obtain ⟨ad186, e186, hx186_0, hx186_1, hx186_2, hx186_3⟩ := at_T26 HR0.out 0 p186 q186
                              obtain rfl : ad177 = ad186 := (by injection e186)
                              have qi186 : (0 < l0.length) = True := eq_true (by omega)
                              (try rw [show ((0 : Int)).toNat = 0 from rfl] at hx186_0)
                              (try rw [show 0 * 4 = 0 from rfl] at hx186_0)
                              (try rw [Addr.add_zero'] at hx186_0)
                              (try rw [show ((0 : Int)).toNat = 0 from rfl] at hx186_1)
                              (try rw [show 0 * 4 = 0 from rfl] at hx186_1)
                              (try rw [Addr.add_zero'] at hx186_1)
                              (try rw [show ((0 : Int)).toNat = 0 from rfl] at hx186_2)
                              (try rw [show 0 * 4 = 0 from rfl] at hx186_2)
                              (try rw [Addr.add_zero'] at hx186_2)
                              (try rw [show ((0 : Int)).toNat = 0 from rfl] at hx186_3)
                              (try rw [show 0 * 4 = 0 from rfl] at hx186_3)
                              (try rw [Addr.add_zero'] at hx186_3)
                              replace p186 := eq_true p186
                              replace q186 := eq_true q186
                              have p18 : 0 ≤ (x8_2 : Int) := of_decide_eq_true (by first | (with_reducible assumption) | assumption)
                              have q18 : x8_2 < (((rd_T26 l0 0).f2).size : Int) := of_decide_eq_true (by first | (with_reducible assumption) | assumption)
                              have hx18 := bt_at ((rd_T26 l0 0).f2) x8_2
                              replace p18 := eq_true p18
                              replace q18 := eq_true q18
                              have p21 : 0 ≤ (x7_2 : Int) := of_decide_eq_true (by first | (with_reducible assumption) | assumption)
                              have q21 : x7_2 < (a1.size : Int) := of_decide_eq_true (by first | (with_reducible assumption) | assumption)
                              have hx21 := bt_at a1 x7_2
                              replace p21 := eq_true p21
                              replace q21 := eq_true q21
                              go_wp2_with (first | (go_at_call 75; (with_reducible refine (spec_l07Sign.calls (bt ((rd_T26 l0 0).f2) x8_2) (bt a1 x7_2) true _ A22.out).mono ?_); rintro e w' ⟨rfl, ⟨nd, rfl⟩⟩; (try first | exact ⟨rfl, _, World.drewN_drewN _ _ _⟩ | exact ⟨rfl, _, Eq.trans (World.drewN_drewN _ _ _) (congrArg (World.drewN _) (Nat.add_assoc _ _ _))⟩)))
                              repeat (go_quiet (first | (go_at_call 75; (with_reducible refine (spec_l07Sign.calls (bt ((rd_T26 l0 0).f2) x8_2) (bt a1 x7_2) true _ A22.out).mono ?_); rintro e w' ⟨rfl, ⟨nd, rfl⟩⟩; (try first | exact ⟨rfl, _, World.drewN_drewN _ _ _⟩ | exact ⟨rfl, _, Eq.trans (World.drewN_drewN _ _ _) (congrArg (World.drewN _) (Nat.add_assoc _ _ _))⟩))); try go_wp2_with (first | (go_at_call 75; (with_reducible refine (spec_l07Sign.calls (bt ((rd_T26 l0 0).f2) x8_2) (bt a1 x7_2) true _ A22.out).mono ?_); rintro e w' ⟨rfl, ⟨nd, rfl⟩⟩; (try first | exact ⟨rfl, _, World.drewN_drewN _ _ _⟩ | exact ⟨rfl, _, Eq.trans (World.drewN_drewN _ _ _) (congrArg (World.drewN _) (Nat.add_assoc _ _ _))⟩))))
                              go_roundg k2
                              case measure => have := HJ4.out; have := HK2.out; omega
                              case rel => exact ⟨(wrap64 (x7_2 + 1)), (wrap64 (x8_2 + 1)), (by first | rfl | (simp; done) | (simp [*]; done)), (by first | rfl | (simp; done) | (simp [*]; done)), H', ⟨by have := HJ4.out; have := HK2.out; omega⟩, by repeat (first | exact Drawn0.refl _ | apply Drawn0.step)⟩
                            · replace c23 := Bool.eq_false_iff.mpr c23
                              subst c23
                              have H1 : (some false) = some r := by rw [if_neg (show ¬ (false = true) by decide)] at H; exact H
                              clear H
                              have H := H1
                              clear H1
                              obtain rfl := Option.some.inj H
                              have p181 : 0 ≤ (0 : Int) := (by omega)
                              have q181 : 0 < (l0.length : Int) := of_decide_eq_true (by first | (with_reducible assumption) | assumption)
                              obtain ⟨ad181, e181, hx181_0, hx181_1, hx181_2, hx181_3⟩ := at_T26 HR0.out 0 p181 q181
                              obtain rfl : ad177 = ad181 := (by injection e181)
                              have qi181 : (0 < l0.length) = True := eq_true (by omega)
                              (try rw [show ((0 : Int)).toNat = 0 from rfl] at hx181_0)
                              (try rw [show 0 * 4 = 0 from rfl] at hx181_0)
                              (try rw [Addr.add_zero'] at hx181_0)
                              (try rw [show ((0 : Int)).toNat = 0 from rfl] at hx181_1)
                              (try rw [show 0 * 4 = 0 from rfl] at hx181_1)
                              (try rw [Addr.add_zero'] at hx181_1)
                              (try rw [show ((0 : Int)).toNat = 0 from rfl] at hx181_2)
                              (try rw [show 0 * 4 = 0 from rfl] at hx181_2)
                              (try rw [Addr.add_zero'] at hx181_2)
                              (try rw [show ((0 : Int)).toNat = 0 from rfl] at hx181_3)
                              (try rw [show 0 * 4 = 0 from rfl] at hx181_3)
                              (try rw [Addr.add_zero'] at hx181_3)
                              replace p181 := eq_true p181
                              replace q181 := eq_true q181
                              have p182 : 0 ≤ (0 : Int) := (by omega)
                              have q182 : 0 < (l0.length : Int) := of_decide_eq_true (by first | (with_reducible assumption) | assumption)
                              obtain ⟨ad182, e182, hx182_0, hx182_1, hx182_2, hx182_3⟩ := at_T26 HR0.out 0 p182 q182
                              obtain rfl : ad177 = ad182 := (by injection e182)
                              have qi182 : (0 < l0.length) = True := eq_true (by omega)
                              (try rw [show ((0 : Int)).toNat = 0 from rfl] at hx182_0)
                              (try rw [show 0 * 4 = 0 from rfl] at hx182_0)
                              (try rw [Addr.add_zero'] at hx182_0)
                              (try rw [show ((0 : Int)).toNat = 0 from rfl] at hx182_1)
                              (try rw [show 0 * 4 = 0 from rfl] at hx182_1)
                              (try rw [Addr.add_zero'] at hx182_1)
                              (try rw [show ((0 : Int)).toNat = 0 from rfl] at hx182_2)
                              (try rw [show 0 * 4 = 0 from rfl] at hx182_2)
                              (try rw [Addr.add_zero'] at hx182_2)
                              (try rw [show ((0 : Int)).toNat = 0 from rfl] at hx182_3)
                              (try rw [show 0 * 4 = 0 from rfl] at hx182_3)
                              (try rw [Addr.add_zero'] at hx182_3)
                              replace p182 := eq_true p182
                              replace q182 := eq_true q182
                              have p183 : 0 ≤ (0 : Int) := (by omega)
                              have q183 : 0 < (l0.length : Int) := of_decide_eq_true (by first | (with_reducible assumption) | assumption)
                              obtain ⟨ad183, e183, hx183_0, hx183_1, hx183_2, hx183_3⟩ := at_T26 HR0.out 0 p183 q183
                              obtain rfl : ad177 = ad183 := (by injection e183)
                              have qi183 : (0 < l0.length) = True := eq_true (by omega)
                              (try rw [show ((0 : Int)).toNat = 0 from rfl] at hx183_0)
                              (try rw [show 0 * 4 = 0 from rfl] at hx183_0)
                              (try rw [Addr.add_zero'] at hx183_0)
                              (try rw [show ((0 : Int)).toNat = 0 from rfl] at hx183_1)
                              (try rw [show 0 * 4 = 0 from rfl] at hx183_1)
                              (try rw [Addr.add_zero'] at hx183_1)
                              (try rw [show ((0 : Int)).toNat = 0 from rfl] at hx183_2)
                              (try rw [show 0 * 4 = 0 from rfl] at hx183_2)
                              (try rw [Addr.add_zero'] at hx183_2)
                              (try rw [show ((0 : Int)).toNat = 0 from rfl] at hx183_3)
                              (try rw [show 0 * 4 = 0 from rfl] at hx183_3)
                              (try rw [Addr.add_zero'] at hx183_3)
                              replace p183 := eq_true p183
                              replace q183 := eq_true q183
                              have p184 : 0 ≤ (0 : Int) := (by omega)
                              have q184 : 0 < (l0.length : Int) := of_decide_eq_true (by first | (with_reducible assumption) | assumption)
                              obtain ⟨ad184, e184, hx184_0, hx184_1, hx184_2, hx184_3⟩ := at_T26 HR0.out 0 p184 q184
                              obtain rfl : ad177 = ad184 := (by injection e184)
                              have qi184 : (0 < l0.length) = True := eq_true (by omega)
                              (try rw [show ((0 : Int)).toNat = 0 from rfl] at hx184_0)
                              (try rw [show 0 * 4 = 0 from rfl] at hx184_0)
                              (try rw [Addr.add_zero'] at hx184_0)
                              (try rw [show ((0 : Int)).toNat = 0 from rfl] at hx184_1)
                              (try rw [show 0 * 4 = 0 from rfl] at hx184_1)
                              (try rw [Addr.add_zero'] at hx184_1)
                              (try rw [show ((0 : Int)).toNat = 0 from rfl] at hx184_2)
                              (try rw [show 0 * 4 = 0 from rfl] at hx184_2)
                              (try rw [Addr.add_zero'] at hx184_2)
                              (try rw [show ((0 : Int)).toNat = 0 from rfl] at hx184_3)
                              (try rw [show 0 * 4 = 0 from rfl] at hx184_3)
                              (try rw [Addr.add_zero'] at hx184_3)
                              replace p184 := eq_true p184
                              replace q184 := eq_true q184
                              have p14 : 0 ≤ (x8_2 : Int) := of_decide_eq_true (by first | (with_reducible assumption) | assumption)
                              have q14 : x8_2 < (((rd_T26 l0 0).f2).size : Int) := of_decide_eq_true (by first | (with_reducible assumption) | assumption)
                              have hx14 := bt_at ((rd_T26 l0 0).f2) x8_2
                              replace p14 := eq_true p14
                              replace q14 := eq_true q14
                              have p185 : 0 ≤ (0 : Int) := (by omega)
                              have q185 : 0 < (l0.length : Int) := of_decide_eq_true (by first | (with_reducible assumption) | assumption)
                              obtain ⟨ad185, e185, hx185_0, hx185_1, hx185_2, hx185_3⟩ := at_T26 HR0.out 0 p185 q185
                              obtain rfl : ad177 = ad185 := (by injection e185)
                              have qi185 : (0 < l0.length) = True := eq_true (by omega)
                              (try rw [show ((0 : Int)).toNat = 0 from rfl] at hx185_0)
                              (try rw [show 0 * 4 = 0 from rfl] at hx185_0)
                              (try rw [Addr.add_zero'] at hx185_0)
                              (try rw [show ((0 : Int)).toNat = 0 from rfl] at hx185_1)
                              (try rw [show 0 * 4 = 0 from rfl] at hx185_1)
                              (try rw [Addr.add_zero'] at hx185_1)
                              (try rw [show ((0 : Int)).toNat = 0 from rfl] at hx185_2)
                              (try rw [show 0 * 4 = 0 from rfl] at hx185_2)
                              (try rw [Addr.add_zero'] at hx185_2)
                              (try rw [show ((0 : Int)).toNat = 0 from rfl] at hx185_3)
                              (try rw [show 0 * 4 = 0 from rfl] at hx185_3)
                              (try rw [Addr.add_zero'] at hx185_3)
                              replace p185 := eq_true p185
                              replace q185 := eq_true q185
                              have p186 : 0 ≤ (0 : Int) := (by omega)
                              have q186 : 0 < (l0.length : Int) := of_decide_eq_true (by first | (with_reducible assumption) | assumption)
                              obtain ⟨ad186, e186, hx186_0, hx186_1, hx186_2, hx186_3⟩ := at_T26 HR0.out 0 p186 q186
                              obtain rfl : ad177 = ad186 := (by injection e186)
                              have qi186 : (0 < l0.length) = True := eq_true (by omega)
                              (try rw [show ((0 : Int)).toNat = 0 from rfl] at hx186_0)
                              (try rw [show 0 * 4 = 0 from rfl] at hx186_0)
                              (try rw [Addr.add_zero'] at hx186_0)
                              (try rw [show ((0 : Int)).toNat = 0 from rfl] at hx186_1)
                              (try rw [show 0 * 4 = 0 from rfl] at hx186_1)
                              (try rw [Addr.add_zero'] at hx186_1)
                              (try rw [show ((0 : Int)).toNat = 0 from rfl] at hx186_2)
                              (try rw [show 0 * 4 = 0 from rfl] at hx186_2)
                              (try rw [Addr.add_zero'] at hx186_2)
                              (try rw [show ((0 : Int)).toNat = 0 from rfl] at hx186_3)
                              (try rw [show 0 * 4 = 0 from rfl] at hx186_3)
                              (try rw [Addr.add_zero'] at hx186_3)
                              replace p186 := eq_true p186
                              replace q186 := eq_true q186
                              have p18 : 0 ≤ (x8_2 : Int) := of_decide_eq_true (by first | (with_reducible assumption) | assumption)
                              have q18 : x8_2 < (((rd_T26 l0 0).f2).size : Int) := of_decide_eq_true (by first | (with_reducible assumption) | assumption)
                              have hx18 := bt_at ((rd_T26 l0 0).f2) x8_2
                              replace p18 := eq_true p18
                              replace q18 := eq_true q18
                              have p21 : 0 ≤ (x7_2 : Int) := of_decide_eq_true (by first | (with_reducible assumption) | assumption)
                              have q21 : x7_2 < (a1.size : Int) := of_decide_eq_true (by first | (with_reducible assumption) | assumption)
                              have hx21 := bt_at a1 x7_2
                              replace p21 := eq_true p21
                              replace q21 := eq_true q21
                              go_wp2_with (first | (go_at_call 75; (with_reducible refine (spec_l07Sign.calls (bt ((rd_T26 l0 0).f2) x8_2) (bt a1 x7_2) false _ A22.out).mono ?_); rintro e w' ⟨rfl, ⟨nd, rfl⟩⟩; (try first | exact ⟨rfl, _, World.drewN_drewN _ _ _⟩ | exact ⟨rfl, _, Eq.trans (World.drewN_drewN _ _ _) (congrArg (World.drewN _) (Nat.add_assoc _ _ _))⟩)))
                              repeat (go_quiet (first | (go_at_call 75; (with_reducible refine (spec_l07Sign.calls (bt ((rd_T26 l0 0).f2) x8_2) (bt a1 x7_2) false _ A22.out).mono ?_); rintro e w' ⟨rfl, ⟨nd, rfl⟩⟩; (try first | exact ⟨rfl, _, World.drewN_drewN _ _ _⟩ | exact ⟨rfl, _, Eq.trans (World.drewN_drewN _ _ _) (congrArg (World.drewN _) (Nat.add_assoc _ _ _))⟩))); try go_wp2_with (first | (go_at_call 75; (with_reducible refine (spec_l07Sign.calls (bt ((rd_T26 l0 0).f2) x8_2) (bt a1 x7_2) false _ A22.out).mono ?_); rintro e w' ⟨rfl, ⟨nd, rfl⟩⟩; (try first | exact ⟨rfl, _, World.drewN_drewN _ _ _⟩ | exact ⟨rfl, _, Eq.trans (World.drewN_drewN _ _ _) (congrArg (World.drewN _) (Nat.add_assoc _ _ _))⟩))))
                              go_ret
                              exact ⟨by first | rfl | (simp; done) | (simp [*]; done), by repeat (first | exact Drawn0.refl _ | apply Drawn0.step)⟩
                          · rw [if_neg c20] at H
                            exact absurd H (by simp)
                        · rw [if_neg c19] at H
                          exact absurd H (by simp)
                  · rw [if_neg c13] at H
                    exact absurd H (by simp)
                · rw [if_neg c12] at H
                  have c12b0 : decide (x8_2 < (((rd_T26 l0 0).f2).size : Int)) = false := decide_eq_false c12
                  clear c12
                  have H' := Aside0.mk H
                  clear H
                  have p181 : 0 ≤ (0 : Int) := (by omega)
                  have q181 : 0 < (l0.length : Int) := of_decide_eq_true (by first | (with_reducible assumption) | assumption)
                  obtain ⟨ad181, e181, hx181_0, hx181_1, hx181_2, hx181_3⟩ := at_T26 HR0.out 0 p181 q181
                  obtain rfl : ad177 = ad181 := (by injection e181)
                  have qi181 : (0 < l0.length) = True := eq_true (by omega)
                  (try rw [show ((0 : Int)).toNat = 0 from rfl] at hx181_0)
                  (try rw [show 0 * 4 = 0 from rfl] at hx181_0)
                  (try rw [Addr.add_zero'] at hx181_0)
                  (try rw [show ((0 : Int)).toNat = 0 from rfl] at hx181_1)
                  (try rw [show 0 * 4 = 0 from rfl] at hx181_1)
                  (try rw [Addr.add_zero'] at hx181_1)
                  (try rw [show ((0 : Int)).toNat = 0 from rfl] at hx181_2)
                  (try rw [show 0 * 4 = 0 from rfl] at hx181_2)
                  (try rw [Addr.add_zero'] at hx181_2)
                  (try rw [show ((0 : Int)).toNat = 0 from rfl] at hx181_3)
                  (try rw [show 0 * 4 = 0 from rfl] at hx181_3)
                  (try rw [Addr.add_zero'] at hx181_3)
                  replace p181 := eq_true p181
                  replace q181 := eq_true q181
                  have p182 : 0 ≤ (0 : Int) := (by omega)
                  have q182 : 0 < (l0.length : Int) := of_decide_eq_true (by first | (with_reducible assumption) | assumption)
                  obtain ⟨ad182, e182, hx182_0, hx182_1, hx182_2, hx182_3⟩ := at_T26 HR0.out 0 p182 q182
                  obtain rfl : ad177 = ad182 := (by injection e182)
                  have qi182 : (0 < l0.length) = True := eq_true (by omega)
                  (try rw [show ((0 : Int)).toNat = 0 from rfl] at hx182_0)
                  (try rw [show 0 * 4 = 0 from rfl] at hx182_0)
                  (try rw [Addr.add_zero'] at hx182_0)
                  (try rw [show ((0 : Int)).toNat = 0 from rfl] at hx182_1)
                  (try rw [show 0 * 4 = 0 from rfl] at hx182_1)
                  (try rw [Addr.add_zero'] at hx182_1)
                  (try rw [show ((0 : Int)).toNat = 0 from rfl] at hx182_2)
                  (try rw [show 0 * 4 = 0 from rfl] at hx182_2)
                  (try rw [Addr.add_zero'] at hx182_2)
                  (try rw [show ((0 : Int)).toNat = 0 from rfl] at hx182_3)
                  (try rw [show 0 * 4 = 0 from rfl] at hx182_3)
                  (try rw [Addr.add_zero'] at hx182_3)
                  replace p182 := eq_true p182
                  replace q182 := eq_true q182
                  have p188 : 0 ≤ (0 : Int) := (by omega)
                  have q188 : 0 < (l0.length : Int) := of_decide_eq_true (by first | (with_reducible assumption) | assumption)
                  obtain ⟨ad188, e188, hx188_0, hx188_1, hx188_2, hx188_3⟩ := at_T26 HR0.out 0 p188 q188
                  obtain rfl : ad177 = ad188 := (by injection e188)
                  have qi188 : (0 < l0.length) = True := eq_true (by omega)
                  (try rw [show ((0 : Int)).toNat = 0 from rfl] at hx188_0)
                  (try rw [show 0 * 4 = 0 from rfl] at hx188_0)
                  (try rw [Addr.add_zero'] at hx188_0)
                  (try rw [show ((0 : Int)).toNat = 0 from rfl] at hx188_1)
                  (try rw [show 0 * 4 = 0 from rfl] at hx188_1)
                  (try rw [Addr.add_zero'] at hx188_1)
                  (try rw [show ((0 : Int)).toNat = 0 from rfl] at hx188_2)
                  (try rw [show 0 * 4 = 0 from rfl] at hx188_2)
                  (try rw [Addr.add_zero'] at hx188_2)
                  (try rw [show ((0 : Int)).toNat = 0 from rfl] at hx188_3)
                  (try rw [show 0 * 4 = 0 from rfl] at hx188_3)
                  (try rw [Addr.add_zero'] at hx188_3)
                  replace p188 := eq_true p188
                  replace q188 := eq_true q188
                  have p189 : 0 ≤ (0 : Int) := (by omega)
                  have q189 : 0 < (l0.length : Int) := of_decide_eq_true (by first | (with_reducible assumption) | assumption)
                  obtain ⟨ad189, e189, hx189_0, hx189_1, hx189_2, hx189_3⟩ := at_T26 HR0.out 0 p189 q189
                  obtain rfl : ad177 = ad189 := (by injection e189)
                  have qi189 : (0 < l0.length) = True := eq_true (by omega)
                  (try rw [show ((0 : Int)).toNat = 0 from rfl] at hx189_0)
                  (try rw [show 0 * 4 = 0 from rfl] at hx189_0)
                  (try rw [Addr.add_zero'] at hx189_0)
                  (try rw [show ((0 : Int)).toNat = 0 from rfl] at hx189_1)
                  (try rw [show 0 * 4 = 0 from rfl] at hx189_1)
                  (try rw [Addr.add_zero'] at hx189_1)
                  (try rw [show ((0 : Int)).toNat = 0 from rfl] at hx189_2)
                  (try rw [show 0 * 4 = 0 from rfl] at hx189_2)
                  (try rw [Addr.add_zero'] at hx189_2)
                  (try rw [show ((0 : Int)).toNat = 0 from rfl] at hx189_3)
                  (try rw [show 0 * 4 = 0 from rfl] at hx189_3)
                  (try rw [Addr.add_zero'] at hx189_3)
                  replace p189 := eq_true p189
                  replace q189 := eq_true q189
                  go_wp2
                  repeat (go_quiet (fail); try go_wp2)
                  go_loopg [2, 9] k2 (fun kq v2 v9 w' => ∃ (x2_3 : Int) (x9_3 : Int), v2 = .int .i64 x2_3 ∧ v9 = .int .i64 x9_3 ∧ Aside0 (spec_l07Matches.l1 kq l0 a1 x2_3 x9_3 = some r) ∧ Aside0 (kq ≤ k2) ∧ Drawn0 w w')
                  case atStart => exact ⟨(a2), (wrap64 ((((rd_T26 l0 0).f0).size : Int) - 1)), (by first | rfl | (simp; done) | (simp [*]; done)), (by first | rfl | (simp; done) | (simp [*]; done)), H', ⟨Nat.le_refl _⟩, by repeat (first | exact Drawn0.refl _ | apply Drawn0.step)⟩
                  case round =>
                    clear H'
                    try clear c1
                    try clear p1
                    try clear q1
                    try clear hx1
                    try clear qi1
                    try clear c2
                    try clear p2
                    try clear q2
                    try clear hx2
                    try clear p6
                    try clear c12
                    try clear c12b0
                    try clear c13
                    try clear p14
                    try clear q14
                    try clear hx14
                    try clear c15
                    try clear c15b0
                    try clear c15b1
                    try clear c16
                    try clear c16b0
                    try clear c16b1
                    try clear c17
                    try clear c17b0
                    try clear p18
                    try clear q18
                    try clear hx18
                    try clear qi18
                    try clear c19
                    try clear c19b0
                    try clear c20
                    try clear c20b0
                    try clear p21
                    try clear q21
                    try clear hx21
                    try clear c23
                    try clear hx181_0
                    try clear hx181_1
                    try clear hx181_2
                    try clear hx181_3
                    try clear hx182_0
                    try clear hx182_1
                    try clear hx182_2
                    try clear hx182_3
                    try clear hx183_0
                    try clear hx183_1
                    try clear hx183_2
                    try clear hx183_3
                    try clear hx184_0
                    try clear hx184_1
                    try clear hx184_2
                    try clear hx184_3
                    try clear hx185_0
                    try clear hx185_1
                    try clear hx185_2
                    try clear hx185_3
                    try clear hx186_0
                    try clear hx186_1
                    try clear hx186_2
                    try clear hx186_3
                    try clear hx188_0
                    try clear hx188_1
                    try clear hx188_2
                    try clear hx188_3
                    try clear hx189_0
                    try clear hx189_1
                    try clear hx189_2
                    try clear hx189_3
                    try clear p14
                    try clear p18
                    try clear p181
                    try clear p182
                    try clear p183
                    try clear p184
                    try clear p185
                    try clear p186
                    try clear p188
                    try clear p189
                    try clear p21
                    try clear q14
                    try clear q18
                    try clear q181
                    try clear q182
                    try clear q183
                    try clear q184
                    try clear q185
                    try clear q186
                    try clear q188
                    try clear q189
                    try clear q21
                    obtain ⟨x2_3, x9_3, rfl, rfl, HA, HK3, ⟨m3, rfl⟩⟩ := hrel
                    cases gk with
                    | zero => exact absurd HA.out (by simp [spec_l07Matches.l1])
                    | succ k3 =>
                      have H := HA.out
                      clear HA
                      simp only [spec_l07Matches.l1] at H
                      by_cases c24 : x9_3 ≥ 0
                      · rw [if_pos c24] at H
                        have c24b0 : decide (0 ≤ x9_3) = true := decide_eq_true c24
                        clear c24
                        by_cases c25 : 0 < (l0.length : Int)
                        · rw [if_pos c25] at H
                          have c25b0 : decide (0 < (l0.length : Int)) = true := decide_eq_true c25
                          have c25b1 : decide (0 < l0.length) = true := decide_eq_true (by omega)
                          clear c25
                          by_cases c26 : 0 ≤ x9_3
                          · rw [if_pos c26] at H
                            have c26b0 : decide (0 ≤ x9_3) = true := decide_eq_true c26
                            clear c26
                            by_cases c27 : x9_3 < (((rd_T26 l0 0).f0).size : Int)
                            · rw [if_pos c27] at H
                              have c27b0 : decide (x9_3 < (((rd_T26 l0 0).f0).size : Int)) = true := decide_eq_true c27
                              clear c27
                              by_cases c29 : (bt ((rd_T26 l0 0).f0) x9_3) = 45
                              · rw [if_pos c29] at H
                                have c29b0 : ((bt ((rd_T26 l0 0).f0) x9_3) == 45) = true := beq_iff_eq.mpr c29
                                have c29b1 : ((bt ((rd_T26 l0 0).f0) x9_3) != 45) = false := bne_eq_false_iff_eq.mpr c29
                                clear c29
                                by_cases c30 : x2_3 = 0
                                · rw [if_pos c30] at H
                                  have c30b0 : (x2_3 == 0) = true := beq_iff_eq.mpr c30
                                  have c30b1 : (x2_3 != 0) = false := bne_eq_false_iff_eq.mpr c30
                                  clear c30
                                  have H' := Aside0.mk H
                                  clear H
                                  have p190 : 0 ≤ (0 : Int) := (by omega)
                                  have q190 : 0 < (l0.length : Int) := of_decide_eq_true (by first | (with_reducible assumption) | assumption)
                                  obtain ⟨ad190, e190, hx190_0, hx190_1, hx190_2, hx190_3⟩ := at_T26 HR0.out 0 p190 q190
                                  obtain rfl : ad177 = ad190 := (by injection e190)
                                  have qi190 : (0 < l0.length) = True := eq_true (by omega)
                                  (try rw [show ((0 : Int)).toNat = 0 from rfl] at hx190_0)
                                  (try rw [show 0 * 4 = 0 from rfl] at hx190_0)
                                  (try rw [Addr.add_zero'] at hx190_0)
                                  (try rw [show ((0 : Int)).toNat = 0 from rfl] at hx190_1)
                                  (try rw [show 0 * 4 = 0 from rfl] at hx190_1)
                                  (try rw [Addr.add_zero'] at hx190_1)
                                  (try rw [show ((0 : Int)).toNat = 0 from rfl] at hx190_2)
                                  (try rw [show 0 * 4 = 0 from rfl] at hx190_2)
                                  (try rw [Addr.add_zero'] at hx190_2)
                                  (try rw [show ((0 : Int)).toNat = 0 from rfl] at hx190_3)
                                  (try rw [show 0 * 4 = 0 from rfl] at hx190_3)
                                  (try rw [Addr.add_zero'] at hx190_3)
                                  replace p190 := eq_true p190
                                  replace q190 := eq_true q190
                                  have p191 : 0 ≤ (0 : Int) := (by omega)
                                  have q191 : 0 < (l0.length : Int) := of_decide_eq_true (by first | (with_reducible assumption) | assumption)
                                  obtain ⟨ad191, e191, hx191_0, hx191_1, hx191_2, hx191_3⟩ := at_T26 HR0.out 0 p191 q191
                                  obtain rfl : ad177 = ad191 := (by injection e191)
                                  have qi191 : (0 < l0.length) = True := eq_true (by omega)
                                  (try rw [show ((0 : Int)).toNat = 0 from rfl] at hx191_0)
                                  (try rw [show 0 * 4 = 0 from rfl] at hx191_0)
                                  (try rw [Addr.add_zero'] at hx191_0)
                                  (try rw [show ((0 : Int)).toNat = 0 from rfl] at hx191_1)
                                  (try rw [show 0 * 4 = 0 from rfl] at hx191_1)
                                  (try rw [Addr.add_zero'] at hx191_1)
                                  (try rw [show ((0 : Int)).toNat = 0 from rfl] at hx191_2)
                                  (try rw [show 0 * 4 = 0 from rfl] at hx191_2)
                                  (try rw [Addr.add_zero'] at hx191_2)
                                  (try rw [show ((0 : Int)).toNat = 0 from rfl] at hx191_3)
                                  (try rw [show 0 * 4 = 0 from rfl] at hx191_3)
                                  (try rw [Addr.add_zero'] at hx191_3)
                                  replace p191 := eq_true p191
                                  replace q191 := eq_true q191
                                  have p28 : 0 ≤ (x9_3 : Int) := of_decide_eq_true (by first | (with_reducible assumption) | assumption)
                                  have q28 : x9_3 < (((rd_T26 l0 0).f0).size : Int) := of_decide_eq_true (by first | (with_reducible assumption) | assumption)
                                  have hx28 := bt_at ((rd_T26 l0 0).f0) x9_3
                                  replace p28 := eq_true p28
                                  replace q28 := eq_true q28
                                  go_wp2
                                  repeat (go_quiet (fail); try go_wp2)
                                  go_roundg k3
                                  case measure => have := HJ4.out; have := HK2.out; have := HK3.out; omega
                                  case rel => exact ⟨(x2_3), (wrap64 (x9_3 - 1)), (by first | rfl | (simp; done) | (simp [*]; done)), (by first | rfl | (simp; done) | (simp [*]; done)), H', ⟨by have := HJ4.out; have := HK2.out; have := HK3.out; omega⟩, by repeat (first | exact Drawn0.refl _ | apply Drawn0.step)⟩
                                · rw [if_neg c30] at H
                                  have c30b0 : (x2_3 == 0) = false := beq_eq_false_iff_ne.mpr c30
                                  have c30b1 : (x2_3 != 0) = true := bne_iff_ne.mpr c30
                                  obtain rfl := Option.some.inj H
                                  have p190 : 0 ≤ (0 : Int) := (by omega)
                                  have q190 : 0 < (l0.length : Int) := of_decide_eq_true (by first | (with_reducible assumption) | assumption)
                                  obtain ⟨ad190, e190, hx190_0, hx190_1, hx190_2, hx190_3⟩ := at_T26 HR0.out 0 p190 q190
                                  obtain rfl : ad177 = ad190 := (by injection e190)
                                  have qi190 : (0 < l0.length) = True := eq_true (by omega)
                                  (try rw [show ((0 : Int)).toNat = 0 from rfl] at hx190_0)
                                  (try rw [show 0 * 4 = 0 from rfl] at hx190_0)
                                  (try rw [Addr.add_zero'] at hx190_0)
                                  (try rw [show ((0 : Int)).toNat = 0 from rfl] at hx190_1)
                                  (try rw [show 0 * 4 = 0 from rfl] at hx190_1)
                                  (try rw [Addr.add_zero'] at hx190_1)
                                  (try rw [show ((0 : Int)).toNat = 0 from rfl] at hx190_2)
                                  (try rw [show 0 * 4 = 0 from rfl] at hx190_2)
                                  (try rw [Addr.add_zero'] at hx190_2)
                                  (try rw [show ((0 : Int)).toNat = 0 from rfl] at hx190_3)
                                  (try rw [show 0 * 4 = 0 from rfl] at hx190_3)
                                  (try rw [Addr.add_zero'] at hx190_3)
                                  replace p190 := eq_true p190
                                  replace q190 := eq_true q190
                                  have p191 : 0 ≤ (0 : Int) := (by omega)
                                  have q191 : 0 < (l0.length : Int) := of_decide_eq_true (by first | (with_reducible assumption) | assumption)
                                  obtain ⟨ad191, e191, hx191_0, hx191_1, hx191_2, hx191_3⟩ := at_T26 HR0.out 0 p191 q191
                                  obtain rfl : ad177 = ad191 := (by injection e191)
                                  have qi191 : (0 < l0.length) = True := eq_true (by omega)
                                  (try rw [show ((0 : Int)).toNat = 0 from rfl] at hx191_0)
                                  (try rw [show 0 * 4 = 0 from rfl] at hx191_0)
                                  (try rw [Addr.add_zero'] at hx191_0)
                                  (try rw [show ((0 : Int)).toNat = 0 from rfl] at hx191_1)
                                  (try rw [show 0 * 4 = 0 from rfl] at hx191_1)
                                  (try rw [Addr.add_zero'] at hx191_1)
                                  (try rw [show ((0 : Int)).toNat = 0 from rfl] at hx191_2)
                                  (try rw [show 0 * 4 = 0 from rfl] at hx191_2)
                                  (try rw [Addr.add_zero'] at hx191_2)
                                  (try rw [show ((0 : Int)).toNat = 0 from rfl] at hx191_3)
                                  (try rw [show 0 * 4 = 0 from rfl] at hx191_3)
                                  (try rw [Addr.add_zero'] at hx191_3)
                                  replace p191 := eq_true p191
                                  replace q191 := eq_true q191
                                  have p28 : 0 ≤ (x9_3 : Int) := of_decide_eq_true (by first | (with_reducible assumption) | assumption)
                                  have q28 : x9_3 < (((rd_T26 l0 0).f0).size : Int) := of_decide_eq_true (by first | (with_reducible assumption) | assumption)
                                  have hx28 := bt_at ((rd_T26 l0 0).f0) x9_3
                                  replace p28 := eq_true p28
                                  replace q28 := eq_true q28
                                  go_wp2
                                  repeat (go_quiet (fail); try go_wp2)
                                  go_ret
                                  exact ⟨by first | rfl | (simp; done) | (simp [*]; done), by repeat (first | exact Drawn0.refl _ | apply Drawn0.step)⟩
                              · rw [if_neg c29] at H
                                have c29b0 : ((bt ((rd_T26 l0 0).f0) x9_3) == 45) = false := beq_eq_false_iff_ne.mpr c29
                                have c29b1 : ((bt ((rd_T26 l0 0).f0) x9_3) != 45) = true := bne_iff_ne.mpr c29
                                by_cases c31 : x2_3 = 0
                                · rw [if_pos c31] at H
                                  have c31b0 : (x2_3 == 0) = true := beq_iff_eq.mpr c31
                                  have c31b1 : (x2_3 != 0) = false := bne_eq_false_iff_eq.mpr c31
                                  clear c31
                                  obtain rfl := Option.some.inj H
                                  have p190 : 0 ≤ (0 : Int) := (by omega)
                                  have q190 : 0 < (l0.length : Int) := of_decide_eq_true (by first | (with_reducible assumption) | assumption)
                                  obtain ⟨ad190, e190, hx190_0, hx190_1, hx190_2, hx190_3⟩ := at_T26 HR0.out 0 p190 q190
                                  obtain rfl : ad177 = ad190 := (by injection e190)
                                  have qi190 : (0 < l0.length) = True := eq_true (by omega)
                                  (try rw [show ((0 : Int)).toNat = 0 from rfl] at hx190_0)
                                  (try rw [show 0 * 4 = 0 from rfl] at hx190_0)
                                  (try rw [Addr.add_zero'] at hx190_0)
                                  (try rw [show ((0 : Int)).toNat = 0 from rfl] at hx190_1)
                                  (try rw [show 0 * 4 = 0 from rfl] at hx190_1)
                                  (try rw [Addr.add_zero'] at hx190_1)
                                  (try rw [show ((0 : Int)).toNat = 0 from rfl] at hx190_2)
                                  (try rw [show 0 * 4 = 0 from rfl] at hx190_2)
                                  (try rw [Addr.add_zero'] at hx190_2)
                                  (try rw [show ((0 : Int)).toNat = 0 from rfl] at hx190_3)
                                  (try rw [show 0 * 4 = 0 from rfl] at hx190_3)
                                  (try rw [Addr.add_zero'] at hx190_3)
                                  replace p190 := eq_true p190
                                  replace q190 := eq_true q190
                                  have p191 : 0 ≤ (0 : Int) := (by omega)
                                  have q191 : 0 < (l0.length : Int) := of_decide_eq_true (by first | (with_reducible assumption) | assumption)
                                  obtain ⟨ad191, e191, hx191_0, hx191_1, hx191_2, hx191_3⟩ := at_T26 HR0.out 0 p191 q191
                                  obtain rfl : ad177 = ad191 := (by injection e191)
                                  have qi191 : (0 < l0.length) = True := eq_true (by omega)
                                  (try rw [show ((0 : Int)).toNat = 0 from rfl] at hx191_0)
                                  (try rw [show 0 * 4 = 0 from rfl] at hx191_0)
                                  (try rw [Addr.add_zero'] at hx191_0)
                                  (try rw [show ((0 : Int)).toNat = 0 from rfl] at hx191_1)
                                  (try rw [show 0 * 4 = 0 from rfl] at hx191_1)
                                  (try rw [Addr.add_zero'] at hx191_1)
                                  (try rw [show ((0 : Int)).toNat = 0 from rfl] at hx191_2)
                                  (try rw [show 0 * 4 = 0 from rfl] at hx191_2)
                                  (try rw [Addr.add_zero'] at hx191_2)
                                  (try rw [show ((0 : Int)).toNat = 0 from rfl] at hx191_3)
                                  (try rw [show 0 * 4 = 0 from rfl] at hx191_3)
                                  (try rw [Addr.add_zero'] at hx191_3)
                                  replace p191 := eq_true p191
                                  replace q191 := eq_true q191
                                  have p28 : 0 ≤ (x9_3 : Int) := of_decide_eq_true (by first | (with_reducible assumption) | assumption)
                                  have q28 : x9_3 < (((rd_T26 l0 0).f0).size : Int) := of_decide_eq_true (by first | (with_reducible assumption) | assumption)
                                  have hx28 := bt_at ((rd_T26 l0 0).f0) x9_3
                                  replace p28 := eq_true p28
                                  replace q28 := eq_true q28
                                  go_wp2
                                  repeat (go_quiet (fail); try go_wp2)
                                  go_ret
                                  exact ⟨by first | rfl | (simp; done) | (simp [*]; done), by repeat (first | exact Drawn0.refl _ | apply Drawn0.step)⟩
                                · rw [if_neg c31] at H
                                  have c31b0 : (x2_3 == 0) = false := beq_eq_false_iff_ne.mpr c31
                                  have c31b1 : (x2_3 != 0) = true := bne_iff_ne.mpr c31
                                  obtain ⟨ji33, hji33⟩ : ∃ j_ : Int, (wrap64 (x2_3 - 1)) = j_ := ⟨_, rfl⟩
                                  replace H : (if 0 ≤ (ji33) then (if (ji33) < (a1.size : Int) then ((spec_l07Sign.f (bt ((rd_T26 l0 0).f0) x9_3) (bt a1 (ji33))).bind fun t194 => (if t194 = true then (spec_l07Matches.l1 k3 l0 a1 ji33 (wrap64 (x9_3 - 1))) else (some false))) else (none)) else (none)) = some r := by first | (rw [hji33] at H; exact H) | (simp only [hji33] at H ⊢; exact H)
                                  have hji33w : (IntKind.i64.wrap (x2_3 - 1)) = ji33 := (i64_w _).trans hji33
                                  by_cases c34 : 0 ≤ (ji33)
                                  · rw [if_pos c34] at H
                                    have c34b0 : decide (0 ≤ (ji33)) = true := decide_eq_true c34
                                    clear c34
                                    by_cases c35 : (ji33) < (a1.size : Int)
                                    · rw [if_pos c35] at H
                                      have c35b0 : decide ((ji33) < (a1.size : Int)) = true := decide_eq_true c35
                                      clear c35
                                      replace H := Option.bind_eq_some_iff.mp H
                                      obtain ⟨t194, A370, H⟩ := H
                                      replace H : (if t194 = true then (spec_l07Matches.l1 k3 l0 a1 ji33 (wrap64 (x9_3 - 1))) else (some false)) = some r := H
                                      have A37 := Aside0.mk A370
                                      clear A370
                                      by_cases c38 : t194 = true
                                      · subst c38
                                        have H1 : (spec_l07Matches.l1 k3 l0 a1 ji33 (wrap64 (x9_3 - 1))) = some r := by rw [if_pos rfl] at H; exact H
                                        clear H
                                        have H := H1
                                        clear H1
                                        have H' := Aside0.mk H
                                        clear H
                                        have p190 : 0 ≤ (0 : Int) := (by omega)
                                        have q190 : 0 < (l0.length : Int) := of_decide_eq_true (by first | (with_reducible assumption) | assumption)
                                        obtain ⟨ad190, e190, hx190_0, hx190_1, hx190_2, hx190_3⟩ := at_T26 HR0.out 0 p190 q190
                                        obtain rfl : ad177 = ad190 := (by injection e190)
                                        have qi190 : (0 < l0.length) = True := eq_true (by omega)
                                        (try rw [show ((0 : Int)).toNat = 0 from rfl] at hx190_0)
                                        (try rw [show 0 * 4 = 0 from rfl] at hx190_0)
                                        (try rw [Addr.add_zero'] at hx190_0)
                                        (try rw [show ((0 : Int)).toNat = 0 from rfl] at hx190_1)
                                        (try rw [show 0 * 4 = 0 from rfl] at hx190_1)
                                        (try rw [Addr.add_zero'] at hx190_1)
                                        (try rw [show ((0 : Int)).toNat = 0 from rfl] at hx190_2)
                                        (try rw [show 0 * 4 = 0 from rfl] at hx190_2)
                                        (try rw [Addr.add_zero'] at hx190_2)
                                        (try rw [show ((0 : Int)).toNat = 0 from rfl] at hx190_3)
                                        (try rw [show 0 * 4 = 0 from rfl] at hx190_3)
                                        (try rw [Addr.add_zero'] at hx190_3)
                                        replace p190 := eq_true p190
                                        replace q190 := eq_true q190
                                        have p191 : 0 ≤ (0 : Int) := (by omega)
                                        have q191 : 0 < (l0.length : Int) := of_decide_eq_true (by first | (with_reducible assumption) | assumption)
                                        obtain ⟨ad191, e191, hx191_0, hx191_1, hx191_2, hx191_3⟩ := at_T26 HR0.out 0 p191 q191
                                        obtain rfl : ad177 = ad191 := (by injection e191)
                                        have qi191 : (0 < l0.length) = True := eq_true (by omega)
                                        (try rw [show ((0 : Int)).toNat = 0 from rfl] at hx191_0)
                                        (try rw [show 0 * 4 = 0 from rfl] at hx191_0)
                                        (try rw [Addr.add_zero'] at hx191_0)
                                        (try rw [show ((0 : Int)).toNat = 0 from rfl] at hx191_1)
                                        (try rw [show 0 * 4 = 0 from rfl] at hx191_1)
                                        (try rw [Addr.add_zero'] at hx191_1)
                                        (try rw [show ((0 : Int)).toNat = 0 from rfl] at hx191_2)
                                        (try rw [show 0 * 4 = 0 from rfl] at hx191_2)
                                        (try rw [Addr.add_zero'] at hx191_2)
                                        (try rw [show ((0 : Int)).toNat = 0 from rfl] at hx191_3)
                                        (try rw [show 0 * 4 = 0 from rfl] at hx191_3)
                                        (try rw [Addr.add_zero'] at hx191_3)
                                        replace p191 := eq_true p191
                                        replace q191 := eq_true q191
                                        have p28 : 0 ≤ (x9_3 : Int) := of_decide_eq_true (by first | (with_reducible assumption) | assumption)
                                        have q28 : x9_3 < (((rd_T26 l0 0).f0).size : Int) := of_decide_eq_true (by first | (with_reducible assumption) | assumption)
                                        have hx28 := bt_at ((rd_T26 l0 0).f0) x9_3
                                        replace p28 := eq_true p28
                                        replace q28 := eq_true q28
                                        have p192 : 0 ≤ (0 : Int) := (by omega)
                                        have q192 : 0 < (l0.length : Int) := of_decide_eq_true (by first | (with_reducible assumption) | assumption)
                                        obtain ⟨ad192, e192, hx192_0, hx192_1, hx192_2, hx192_3⟩ := at_T26 HR0.out 0 p192 q192
                                        obtain rfl : ad177 = ad192 := (by injection e192)
                                        have qi192 : (0 < l0.length) = True := eq_true (by omega)
                                        (try rw [show ((0 : Int)).toNat = 0 from rfl] at hx192_0)
                                        (try rw [show 0 * 4 = 0 from rfl] at hx192_0)
                                        (try rw [Addr.add_zero'] at hx192_0)
                                        (try rw [show ((0 : Int)).toNat = 0 from rfl] at hx192_1)
                                        (try rw [show 0 * 4 = 0 from rfl] at hx192_1)
                                        (try rw [Addr.add_zero'] at hx192_1)
                                        (try rw [show ((0 : Int)).toNat = 0 from rfl] at hx192_2)
                                        (try rw [show 0 * 4 = 0 from rfl] at hx192_2)
                                        (try rw [Addr.add_zero'] at hx192_2)
                                        (try rw [show ((0 : Int)).toNat = 0 from rfl] at hx192_3)
                                        (try rw [show 0 * 4 = 0 from rfl] at hx192_3)
                                        (try rw [Addr.add_zero'] at hx192_3)
                                        replace p192 := eq_true p192
                                        replace q192 := eq_true q192
                                        have p193 : 0 ≤ (0 : Int) := (by omega)
                                        have q193 : 0 < (l0.length : Int) := of_decide_eq_true (by first | (with_reducible assumption) | assumption)
                                        obtain ⟨ad193, e193, hx193_0, hx193_1, hx193_2, hx193_3⟩ := at_T26 HR0.out 0 p193 q193
                                        obtain rfl : ad177 = ad193 := (by injection e193)
                                        have qi193 : (0 < l0.length) = True := eq_true (by omega)
                                        (try rw [show ((0 : Int)).toNat = 0 from rfl] at hx193_0)
                                        (try rw [show 0 * 4 = 0 from rfl] at hx193_0)
                                        (try rw [Addr.add_zero'] at hx193_0)
                                        (try rw [show ((0 : Int)).toNat = 0 from rfl] at hx193_1)
                                        (try rw [show 0 * 4 = 0 from rfl] at hx193_1)
                                        (try rw [Addr.add_zero'] at hx193_1)
                                        (try rw [show ((0 : Int)).toNat = 0 from rfl] at hx193_2)
                                        (try rw [show 0 * 4 = 0 from rfl] at hx193_2)
                                        (try rw [Addr.add_zero'] at hx193_2)
                                        (try rw [show ((0 : Int)).toNat = 0 from rfl] at hx193_3)
                                        (try rw [show 0 * 4 = 0 from rfl] at hx193_3)
                                        (try rw [Addr.add_zero'] at hx193_3)
                                        replace p193 := eq_true p193
                                        replace q193 := eq_true q193
                                        have p32 : 0 ≤ (x9_3 : Int) := of_decide_eq_true (by first | (with_reducible assumption) | assumption)
                                        have q32 : x9_3 < (((rd_T26 l0 0).f0).size : Int) := of_decide_eq_true (by first | (with_reducible assumption) | assumption)
                                        have hx32 := bt_at ((rd_T26 l0 0).f0) x9_3
                                        replace p32 := eq_true p32
                                        replace q32 := eq_true q32
                                        have p36 : 0 ≤ ((ji33) : Int) := of_decide_eq_true (by first | (with_reducible assumption) | assumption)
                                        have q36 : (ji33) < (a1.size : Int) := of_decide_eq_true (by first | (with_reducible assumption) | assumption)
                                        have hx36 := bt_at a1 (ji33)
                                        replace p36 := eq_true p36
                                        replace q36 := eq_true q36
                                        go_wp2_with (first | (go_at_call 75; (with_reducible refine (spec_l07Sign.calls (bt ((rd_T26 l0 0).f0) x9_3) (bt a1 (ji33)) true _ A37.out).mono ?_); rintro e w' ⟨rfl, ⟨nd, rfl⟩⟩; (try first | exact ⟨rfl, _, World.drewN_drewN _ _ _⟩ | exact ⟨rfl, _, Eq.trans (World.drewN_drewN _ _ _) (congrArg (World.drewN _) (Nat.add_assoc _ _ _))⟩)))
                                        repeat (go_quiet (first | (go_at_call 75; (with_reducible refine (spec_l07Sign.calls (bt ((rd_T26 l0 0).f0) x9_3) (bt a1 (ji33)) true _ A37.out).mono ?_); rintro e w' ⟨rfl, ⟨nd, rfl⟩⟩; (try first | exact ⟨rfl, _, World.drewN_drewN _ _ _⟩ | exact ⟨rfl, _, Eq.trans (World.drewN_drewN _ _ _) (congrArg (World.drewN _) (Nat.add_assoc _ _ _))⟩))); try go_wp2_with (first | (go_at_call 75; (with_reducible refine (spec_l07Sign.calls (bt ((rd_T26 l0 0).f0) x9_3) (bt a1 (ji33)) true _ A37.out).mono ?_); rintro e w' ⟨rfl, ⟨nd, rfl⟩⟩; (try first | exact ⟨rfl, _, World.drewN_drewN _ _ _⟩ | exact ⟨rfl, _, Eq.trans (World.drewN_drewN _ _ _) (congrArg (World.drewN _) (Nat.add_assoc _ _ _))⟩))))
                                        go_roundg k3
                                        case measure => have := HJ4.out; have := HK2.out; have := HK3.out; omega
                                        case rel => exact ⟨(ji33), (wrap64 (x9_3 - 1)), (by first | rfl | (simp; done) | (simp only [← hji33] <;> (first | rfl | simp)) | (simp [*]; done)), (by first | rfl | (simp; done) | (simp [*]; done)), H', ⟨by have := HJ4.out; have := HK2.out; have := HK3.out; omega⟩, by repeat (first | exact Drawn0.refl _ | apply Drawn0.step)⟩
                                      · replace c38 := Bool.eq_false_iff.mpr c38
                                        subst c38
                                        have H1 : (some false) = some r := by rw [if_neg (show ¬ (false = true) by decide)] at H; exact H
                                        clear H
                                        have H := H1
                                        clear H1
                                        obtain rfl := Option.some.inj H
                                        have p190 : 0 ≤ (0 : Int) := (by omega)
                                        have q190 : 0 < (l0.length : Int) := of_decide_eq_true (by first | (with_reducible assumption) | assumption)
                                        obtain ⟨ad190, e190, hx190_0, hx190_1, hx190_2, hx190_3⟩ := at_T26 HR0.out 0 p190 q190
                                        obtain rfl : ad177 = ad190 := (by injection e190)
                                        have qi190 : (0 < l0.length) = True := eq_true (by omega)
                                        (try rw [show ((0 : Int)).toNat = 0 from rfl] at hx190_0)
                                        (try rw [show 0 * 4 = 0 from rfl] at hx190_0)
                                        (try rw [Addr.add_zero'] at hx190_0)
                                        (try rw [show ((0 : Int)).toNat = 0 from rfl] at hx190_1)
                                        (try rw [show 0 * 4 = 0 from rfl] at hx190_1)
                                        (try rw [Addr.add_zero'] at hx190_1)
                                        (try rw [show ((0 : Int)).toNat = 0 from rfl] at hx190_2)
                                        (try rw [show 0 * 4 = 0 from rfl] at hx190_2)
                                        (try rw [Addr.add_zero'] at hx190_2)
                                        (try rw [show ((0 : Int)).toNat = 0 from rfl] at hx190_3)
                                        (try rw [show 0 * 4 = 0 from rfl] at hx190_3)
                                        (try rw [Addr.add_zero'] at hx190_3)
                                        replace p190 := eq_true p190
                                        replace q190 := eq_true q190
                                        have p191 : 0 ≤ (0 : Int) := (by omega)
                                        have q191 : 0 < (l0.length : Int) := of_decide_eq_true (by first | (with_reducible assumption) | assumption)
                                        obtain ⟨ad191, e191, hx191_0, hx191_1, hx191_2, hx191_3⟩ := at_T26 HR0.out 0 p191 q191
                                        obtain rfl : ad177 = ad191 := (by injection e191)
                                        have qi191 : (0 < l0.length) = True := eq_true (by omega)
                                        (try rw [show ((0 : Int)).toNat = 0 from rfl] at hx191_0)
                                        (try rw [show 0 * 4 = 0 from rfl] at hx191_0)
                                        (try rw [Addr.add_zero'] at hx191_0)
                                        (try rw [show ((0 : Int)).toNat = 0 from rfl] at hx191_1)
                                        (try rw [show 0 * 4 = 0 from rfl] at hx191_1)
                                        (try rw [Addr.add_zero'] at hx191_1)
                                        (try rw [show ((0 : Int)).toNat = 0 from rfl] at hx191_2)
                                        (try rw [show 0 * 4 = 0 from rfl] at hx191_2)
                                        (try rw [Addr.add_zero'] at hx191_2)
                                        (try rw [show ((0 : Int)).toNat = 0 from rfl] at hx191_3)
                                        (try rw [show 0 * 4 = 0 from rfl] at hx191_3)
                                        (try rw [Addr.add_zero'] at hx191_3)
                                        replace p191 := eq_true p191
                                        replace q191 := eq_true q191
                                        have p28 : 0 ≤ (x9_3 : Int) := of_decide_eq_true (by first | (with_reducible assumption) | assumption)
                                        have q28 : x9_3 < (((rd_T26 l0 0).f0).size : Int) := of_decide_eq_true (by first | (with_reducible assumption) | assumption)
                                        have hx28 := bt_at ((rd_T26 l0 0).f0) x9_3
                                        replace p28 := eq_true p28
                                        replace q28 := eq_true q28
                                        have p192 : 0 ≤ (0 : Int) := (by omega)
                                        have q192 : 0 < (l0.length : Int) := of_decide_eq_true (by first | (with_reducible assumption) | assumption)
                                        obtain ⟨ad192, e192, hx192_0, hx192_1, hx192_2, hx192_3⟩ := at_T26 HR0.out 0 p192 q192
                                        obtain rfl : ad177 = ad192 := (by injection e192)
                                        have qi192 : (0 < l0.length) = True := eq_true (by omega)
                                        (try rw [show ((0 : Int)).toNat = 0 from rfl] at hx192_0)
                                        (try rw [show 0 * 4 = 0 from rfl] at hx192_0)
                                        (try rw [Addr.add_zero'] at hx192_0)
                                        (try rw [show ((0 : Int)).toNat = 0 from rfl] at hx192_1)
                                        (try rw [show 0 * 4 = 0 from rfl] at hx192_1)
                                        (try rw [Addr.add_zero'] at hx192_1)
                                        (try rw [show ((0 : Int)).toNat = 0 from rfl] at hx192_2)
                                        (try rw [show 0 * 4 = 0 from rfl] at hx192_2)
                                        (try rw [Addr.add_zero'] at hx192_2)
                                        (try rw [show ((0 : Int)).toNat = 0 from rfl] at hx192_3)
                                        (try rw [show 0 * 4 = 0 from rfl] at hx192_3)
                                        (try rw [Addr.add_zero'] at hx192_3)
                                        replace p192 := eq_true p192
                                        replace q192 := eq_true q192
                                        have p193 : 0 ≤ (0 : Int) := (by omega)
                                        have q193 : 0 < (l0.length : Int) := of_decide_eq_true (by first | (with_reducible assumption) | assumption)
                                        obtain ⟨ad193, e193, hx193_0, hx193_1, hx193_2, hx193_3⟩ := at_T26 HR0.out 0 p193 q193
                                        obtain rfl : ad177 = ad193 := (by injection e193)
                                        have qi193 : (0 < l0.length) = True := eq_true (by omega)
                                        (try rw [show ((0 : Int)).toNat = 0 from rfl] at hx193_0)
                                        (try rw [show 0 * 4 = 0 from rfl] at hx193_0)
                                        (try rw [Addr.add_zero'] at hx193_0)
                                        (try rw [show ((0 : Int)).toNat = 0 from rfl] at hx193_1)
                                        (try rw [show 0 * 4 = 0 from rfl] at hx193_1)
                                        (try rw [Addr.add_zero'] at hx193_1)
                                        (try rw [show ((0 : Int)).toNat = 0 from rfl] at hx193_2)
                                        (try rw [show 0 * 4 = 0 from rfl] at hx193_2)
                                        (try rw [Addr.add_zero'] at hx193_2)
                                        (try rw [show ((0 : Int)).toNat = 0 from rfl] at hx193_3)
                                        (try rw [show 0 * 4 = 0 from rfl] at hx193_3)
                                        (try rw [Addr.add_zero'] at hx193_3)
                                        replace p193 := eq_true p193
                                        replace q193 := eq_true q193
                                        have p32 : 0 ≤ (x9_3 : Int) := of_decide_eq_true (by first | (with_reducible assumption) | assumption)
                                        have q32 : x9_3 < (((rd_T26 l0 0).f0).size : Int) := of_decide_eq_true (by first | (with_reducible assumption) | assumption)
                                        have hx32 := bt_at ((rd_T26 l0 0).f0) x9_3
                                        replace p32 := eq_true p32
                                        replace q32 := eq_true q32
                                        have p36 : 0 ≤ ((ji33) : Int) := of_decide_eq_true (by first | (with_reducible assumption) | assumption)
                                        have q36 : (ji33) < (a1.size : Int) := of_decide_eq_true (by first | (with_reducible assumption) | assumption)
                                        have hx36 := bt_at a1 (ji33)
                                        replace p36 := eq_true p36
                                        replace q36 := eq_true q36
                                        go_wp2_with (first | (go_at_call 75; (with_reducible refine (spec_l07Sign.calls (bt ((rd_T26 l0 0).f0) x9_3) (bt a1 (ji33)) false _ A37.out).mono ?_); rintro e w' ⟨rfl, ⟨nd, rfl⟩⟩; (try first | exact ⟨rfl, _, World.drewN_drewN _ _ _⟩ | exact ⟨rfl, _, Eq.trans (World.drewN_drewN _ _ _) (congrArg (World.drewN _) (Nat.add_assoc _ _ _))⟩)))
                                        repeat (go_quiet (first | (go_at_call 75; (with_reducible refine (spec_l07Sign.calls (bt ((rd_T26 l0 0).f0) x9_3) (bt a1 (ji33)) false _ A37.out).mono ?_); rintro e w' ⟨rfl, ⟨nd, rfl⟩⟩; (try first | exact ⟨rfl, _, World.drewN_drewN _ _ _⟩ | exact ⟨rfl, _, Eq.trans (World.drewN_drewN _ _ _) (congrArg (World.drewN _) (Nat.add_assoc _ _ _))⟩))); try go_wp2_with (first | (go_at_call 75; (with_reducible refine (spec_l07Sign.calls (bt ((rd_T26 l0 0).f0) x9_3) (bt a1 (ji33)) false _ A37.out).mono ?_); rintro e w' ⟨rfl, ⟨nd, rfl⟩⟩; (try first | exact ⟨rfl, _, World.drewN_drewN _ _ _⟩ | exact ⟨rfl, _, Eq.trans (World.drewN_drewN _ _ _) (congrArg (World.drewN _) (Nat.add_assoc _ _ _))⟩))))
                                        go_ret
                                        exact ⟨by first | rfl | (simp; done) | (simp only [← hji33] <;> (first | rfl | simp)) | (simp [*]; done), by repeat (first | exact Drawn0.refl _ | apply Drawn0.step)⟩
                                    · rw [if_neg c35] at H
                                      exact absurd H (by simp)
                                  · rw [if_neg c34] at H
                                    exact absurd H (by simp)
                            · rw [if_neg c27] at H
                              exact absurd H (by simp)
                          · rw [if_neg c26] at H
                            exact absurd H (by simp)
                        · rw [if_neg c25] at H
                          exact absurd H (by simp)
                      · rw [if_neg c24] at H
                        have c24b0 : decide (0 ≤ x9_3) = false := decide_eq_false c24
                        clear c24
                        obtain rfl := Option.some.inj H
                        go_wp2
                        repeat (go_quiet (fail); try go_wp2)
                        go_ret
                        exact ⟨by first | rfl | (simp; done) | (simp [*]; done), by repeat (first | exact Drawn0.refl _ | apply Drawn0.step)⟩
              · rw [if_neg c11] at H
                exact absurd H (by simp)
  · rw [if_neg c4] at H
    exact absurd H (by simp)
end Go.Proofs.YtjkpbmdkkdofkaaDoor.PFnExactSpellText
