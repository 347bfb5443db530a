import Derived.Test.YteooifighndmkaaFp
import Derived.Test.YteooifighndmkaaWAll
import Derived.Test.YteooifighndmkaaProg
import Derived.Deep.QuietTactic
import Derived.BigQuiet
import Derived.WalkKit
import Derived.Lib.Hide
set_option linter.unusedVariables false
set_option linter.unusedSimpArgs false
namespace Go.Proofs.Yteooifighndmkaa
open Go.RowKit Go.Proofs.YteooifighndmkaaW.PrintWords Go.Proofs.YteooifighndmkaaW.PrintLast Go.Proofs.YteooifighndmkaaW.PrintMore Go.Proofs.YteooifighndmkaaW.PrintFl
def finB (x : Nat) : Bool := foprOk .sub .f32 x x && feq .f32 (fopr .sub .f32 x x) 0
theorem nanD (x y t : Nat) : (FloatKind.f32.format.read ((Question.nanBits .f32 x y).cut t)).isNaN = true := by
  have e : (Question.nanBits .f32 x y).cut t = (t % 2) * 2 ^ 31 + 0x7f800000 + 1 + (t / 2) % (2 ^ 23 - 1) := rfl
  rw [e]
  unfold Ieee.Format.read
  have hs : FloatKind.f32.format.signWeight = 2147483648 := rfl
  have hbi : FloatKind.f32.format.binade = 8388608 := rfl
  have hi : FloatKind.f32.format.infRung = 2139095040 := rfl
  simp only [hs, hbi, hi]
  have h2 : ((t % 2) * 2 ^ 31 + 0x7f800000 + 1 + (t / 2) % (2 ^ 23 - 1)) % 2147483648 = 0x7f800000 + 1 + (t / 2) % (2 ^ 23 - 1) := by omega
  rw [h2, if_neg (by omega), if_neg (by omega), if_neg (by omega)]
  rfl
theorem feq_nan (b y : Nat) (h : (FloatKind.f32.format.read b).isNaN = true) : feq .f32 b y = false := by
  unfold feq Ieee.Format.order
  cases hr : FloatKind.f32.format.read b with
  | nan s t => cases FloatKind.f32.format.read y <;> rfl
  | number s m e => rw [hr] at h; cases h
  | infinity s => rw [hr] at h; cases h
theorem fin_run {P : Program} (w : World) (t : TypeId) (x : Nat) : ∃ r n, (binOp .sub t (.float .f32 x) (.float .f32 x)).run P w = .ok (.float .f32 r) (w.drewN n) ∧ feq .f32 r 0 = finB x := by
  cases hf : floatBits .sub .f32 x x with
  | some r =>
    refine ⟨r, 0, run_float_arith w .sub t .f32 x x r hf, ?_⟩
    unfold finB foprOk fopr; rw [hf]; rfl
  | none =>
    refine ⟨(Question.nanBits .f32 x x).cut (w.tape w.drawn (.nanBits .f32 x x)), 1, ?_, ?_⟩
    · show _ = Result.ok _ { w with drawn := w.drawn + 1 }
      unfold floatBits at hf
      simp only at hf
      simp [binOp, Op.floatArith, hf, choose, Sem.run, Question.forced]
    · rw [feq_nan _ _ (nanD _ _ _)]; unfold finB foprOk; rw [hf]; rfl
set_option maxHeartbeats 800000 in
set_option maxRecDepth 100000 in
theorem fin_impl (x : Nat) (w : World) : Calls Try.prog 46 #[.float .f32 x] w fun e w' => e = .returned (.bool (finB x)) ∧ Drawn0 w w' := by
  go_enter Try.func46, Try.ntmps46
  go_wp2
  obtain ⟨r, n, h1, h2⟩ := fin_run (P := Try.prog) w 25 x
  rw [h1]
  go_wp2
  go_ret
  exact ⟨by rw [← h2]; rfl, ⟨n, rfl⟩⟩
set_option maxHeartbeats 800000 in
set_option maxRecDepth 100000 in
theorem fin_spec (x : Nat) (w : World) : Calls Try.prog 66 #[.float .f32 x] w fun e w' => e = .returned (.bool (finB x)) ∧ Drawn0 w w' := by
  go_enter Try.func66, Try.ntmps66
  go_wp2
  obtain ⟨r, n, h1, h2⟩ := fin_run (P := Try.prog) w 25 x
  rw [h1]
  go_wp2
  go_ret
  exact ⟨by rw [← h2]; rfl, ⟨n, rfl⟩⟩
end Go.Proofs.Yteooifighndmkaa
