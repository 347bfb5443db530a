import Derived.Test.YteooifighndmkaaPFnExactFrameAtx0
namespace Go.Proofs.Yteooifighndmkaa.PFnExactFrameAt
open Go.RowKit Go.Proofs.YteooifighndmkaaW.PrintWords Go.Proofs.YteooifighndmkaaW.PrintLast Go.Proofs.YteooifighndmkaaW.PrintMore
open Go.Proofs.YteooifighndmkaaW.PrintFl
attribute [local go_sem high] binOp_feq binOp_fne binOp_fls binOp_fle binOp_fgr binOp_fge binOp_sle binOp_sgt
attribute [local go_sem] run_fopr run_fconv run_fint run_stf run_stc
attribute [local go_sem] max2_int min2_int max_two min_two max_three min_three max_four min_four
set_option linter.unusedVariables false
set_option linter.unusedSimpArgs false
def spec_l06Ramp.f (a0 : Nat) : Option (Nat) := if (fls .f32 a0 0) = true then (some 0) else (if (fgr .f32 a0 1065353216) = true then (some 1065353216) else (if (foprOk .mul .f32 a0 a0) = true then (if (foprOk .mul .f32 1073741824 a0) = true then (if (foprOk .sub .f32 1077936128 (fopr .mul .f32 1073741824 a0)) = true then (if (foprOk .mul .f32 (fopr .mul .f32 a0 a0) (fopr .sub .f32 1077936128 (fopr .mul .f32 1073741824 a0))) = true then (some (fopr .mul .f32 (fopr .mul .f32 a0 a0) (fopr .sub .f32 1077936128 (fopr .mul .f32 1073741824 a0)))) else (none)) else (none)) else (none)) else (none)))
set_option maxHeartbeats 8000000 in
set_option maxRecDepth 100000 in
theorem spec_l06Ramp.calls (a0 : Nat) (r : Nat) (w : World) (h : spec_l06Ramp.f a0 = some r) :
    Calls Try.prog 77 #[.float .f32 a0] w fun e w' => e = .returned (.float .f32 r) ∧ Drawn0 w w' := by
  have H : (if (fls .f32 a0 0) = true then (some 0) else (if (fgr .f32 a0 1065353216) = true then (some 1065353216) else (if (foprOk .mul .f32 a0 a0) = true then (if (foprOk .mul .f32 1073741824 a0) = true then (if (foprOk .sub .f32 1077936128 (fopr .mul .f32 1073741824 a0)) = true then (if (foprOk .mul .f32 (fopr .mul .f32 a0 a0) (fopr .sub .f32 1077936128 (fopr .mul .f32 1073741824 a0))) = true then (some (fopr .mul .f32 (fopr .mul .f32 a0 a0) (fopr .sub .f32 1077936128 (fopr .mul .f32 1073741824 a0)))) else (none)) else (none)) else (none)) else (none)))) = some r := h
  clear h
  by_cases c2 : (fls .f32 a0 0) = true
  · rw [if_pos c2] at H
    have c2b0 : (fls .f32 a0 0) = true := c2
    clear c2
    obtain rfl := Option.some.inj H
    go_enter Try.func77, Try.ntmps77
    go_wp2
    go_ret
    exact ⟨by first | rfl | (simp; done) | (simp [*]; done), by repeat (first | exact Drawn0.refl _ | apply Drawn0.step)⟩
  · rw [if_neg c2] at H
    have c2b0 : (fls .f32 a0 0) = false := by simpa using c2
    clear c2
    by_cases c3 : (fgr .f32 a0 1065353216) = true
    · rw [if_pos c3] at H
      have c3b0 : (fgr .f32 a0 1065353216) = true := c3
      clear c3
      obtain rfl := Option.some.inj H
      go_enter Try.func77, Try.ntmps77
      go_wp2
      go_ret
      exact ⟨by first | rfl | (simp; done) | (simp [*]; done), by repeat (first | exact Drawn0.refl _ | apply Drawn0.step)⟩
    · rw [if_neg c3] at H
      have c3b0 : (fgr .f32 a0 1065353216) = false := by simpa using c3
      clear c3
      by_cases c4 : (foprOk .mul .f32 a0 a0) = true
      · rw [if_pos c4] at H
        have c4b0 : (foprOk .mul .f32 a0 a0) = true := c4
        clear c4
        by_cases c5 : (foprOk .mul .f32 1073741824 a0) = true
        · rw [if_pos c5] at H
          have c5b0 : (foprOk .mul .f32 1073741824 a0) = true := c5
          clear c5
          by_cases c6 : (foprOk .sub .f32 1077936128 (fopr .mul .f32 1073741824 a0)) = true
          · rw [if_pos c6] at H
            have c6b0 : (foprOk .sub .f32 1077936128 (fopr .mul .f32 1073741824 a0)) = true := c6
            clear c6
            by_cases c7 : (foprOk .mul .f32 (fopr .mul .f32 a0 a0) (fopr .sub .f32 1077936128 (fopr .mul .f32 1073741824 a0))) = true
            · rw [if_pos c7] at H
              have c7b0 : (foprOk .mul .f32 (fopr .mul .f32 a0 a0) (fopr .sub .f32 1077936128 (fopr .mul .f32 1073741824 a0))) = true := c7
              clear c7
              obtain rfl := Option.some.inj H
              go_enter Try.func77, Try.ntmps77
              go_wp2
              go_ret
              exact ⟨by first | rfl | (simp; done) | (simp [*]; done), by repeat (first | exact Drawn0.refl _ | apply Drawn0.step)⟩
            · rw [if_neg c7] at H
              exact absurd H (by simp)
          · rw [if_neg c6] at H
            exact absurd H (by simp)
        · rw [if_neg c5] at H
          exact absurd H (by simp)
      · rw [if_neg c4] at H
        exact absurd H (by simp)
end Go.Proofs.Yteooifighndmkaa.PFnExactFrameAt
