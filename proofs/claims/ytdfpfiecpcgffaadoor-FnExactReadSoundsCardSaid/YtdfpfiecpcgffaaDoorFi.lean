import Derived.Test.YtdfpfiecpcgffaaDoorHx
set_option linter.unusedVariables false
set_option linter.unusedSimpArgs false
namespace Go.Proofs.YtdfpfiecpcgffaaDoor
open Go.RowKit Go.Proofs.YtdfpfiecpcgffaaDoorW.PrintWords Go.Proofs.YtdfpfiecpcgffaaDoorW.PrintLast Go.Proofs.YtdfpfiecpcgffaaDoorW.PrintMore Go.Proofs.YtdfpfiecpcgffaaDoorW.PrintFl
def GLh (w : World) : Prop := dbAt w
theorem GLh_below {w w' : World} (h : GLh w) (hb : Below w.heap.size w w') : GLh w' := dbAt_below h hb
theorem GLh_alloc {w : World} (h : GLh w) (o : Obj) : GLh (w.alloc o) := GLh_below h (Below.alloc (Below.refl _ _) (Nat.le_refl _) o)
theorem GLh_drew {w : World} (h : GLh w) : GLh w.drew := GLh_below h (Below.drew (Below.refl _ _))
theorem GLh_drewN {w : World} (h : GLh w) (m : Nat) : GLh (w.drewN m) := GLh_below h (pw_below_drewN (Below.refl _ _) m)
theorem GLh_tab {w : World} (h : GLh w) : dbAt w := h
def finB (x : Nat) : Bool := foprOk .sub .f32 x x && feq .f32 (fopr .sub .f32 x x) 0
theorem nanD (x y t : Nat) : (FloatKind.f32.format.read ((Question.nanBits .f32 x y).cut t)).isNaN = true := by
  have e : (Question.nanBits .f32 x y).cut t = (t % 2) * 2 ^ 31 + 0x7f800000 + 1 + (t / 2) % (2 ^ 23 - 1) := rfl
  rw [e]
  unfold Ieee.Format.read
  have hs : FloatKind.f32.format.signWeight = 2147483648 := rfl
  have hbi : FloatKind.f32.format.binade = 8388608 := rfl
  have hi : FloatKind.f32.format.infRung = 2139095040 := rfl
  simp only [hs, hbi, hi]
  have h2 : ((t % 2) * 2 ^ 31 + 0x7f800000 + 1 + (t / 2) % (2 ^ 23 - 1)) % 2147483648 = 0x7f800000 + 1 + (t / 2) % (2 ^ 23 - 1) := by omega
  rw [h2, if_neg (by omega), if_neg (by omega), if_neg (by omega)]
  rfl
theorem feq_nan (b y : Nat) (h : (FloatKind.f32.format.read b).isNaN = true) : feq .f32 b y = false := by
  unfold feq Ieee.Format.order
  cases hr : FloatKind.f32.format.read b with
  | nan s t => cases FloatKind.f32.format.read y <;> rfl
  | number s m e => rw [hr] at h; cases h
  | infinity s => rw [hr] at h; cases h
theorem fin_run {P : Program} (w : World) (t : TypeId) (x : Nat) : ∃ r n, (binOp .sub t (.float .f32 x) (.float .f32 x)).run P w = .ok (.float .f32 r) (w.drewN n) ∧ feq .f32 r 0 = finB x := by
  cases hf : floatBits .sub .f32 x x with
  | some r =>
    refine ⟨r, 0, run_float_arith w .sub t .f32 x x r hf, ?_⟩
    unfold finB foprOk fopr; rw [hf]; rfl
  | none =>
    refine ⟨(Question.nanBits .f32 x x).cut (w.tape w.drawn (.nanBits .f32 x x)), 1, ?_, ?_⟩
    · show _ = Result.ok _ { w with drawn := w.drawn + 1 }
      unfold floatBits at hf
      simp only at hf
      simp [binOp, Op.floatArith, hf, choose, Sem.run, Question.forced]
    · rw [feq_nan _ _ (nanD _ _ _)]; unfold finB foprOk; rw [hf]; rfl
set_option maxHeartbeats 800000 in
set_option maxRecDepth 100000 in
theorem fin_impl (x : Nat) (w : World) : Calls Tryd.prog 64 #[.float .f32 x] w fun e w' => e = .returned (.bool (finB x)) ∧ Drawn0 w w' := by
  go_enter Tryd.func64, Tryd.ntmps64
  go_wp2
  obtain ⟨r, n, h1, h2⟩ := fin_run (P := Tryd.prog) w 30 x
  rw [h1]
  go_wp2
  go_ret
  exact ⟨by rw [← h2]; rfl, ⟨n, rfl⟩⟩
set_option maxHeartbeats 800000 in
set_option maxRecDepth 100000 in
theorem fin_spec (x : Nat) (w : World) : Calls Tryd.prog 98 #[.float .f32 x] w fun e w' => e = .returned (.bool (finB x)) ∧ Drawn0 w w' := by
  go_enter Tryd.func98, Tryd.ntmps98
  go_wp2
  obtain ⟨r, n, h1, h2⟩ := fin_run (P := Tryd.prog) w 30 x
  rw [h1]
  go_wp2
  go_ret
  exact ⟨by rw [← h2]; rfl, ⟨n, rfl⟩⟩
end Go.Proofs.YtdfpfiecpcgffaaDoor
