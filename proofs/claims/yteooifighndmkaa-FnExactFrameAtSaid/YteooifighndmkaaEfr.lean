import Derived.Test.YteooifighndmkaaEf
set_option linter.unusedVariables false
set_option linter.unusedSimpArgs false
namespace Go.Proofs.Yteooifighndmkaa
open Go.RowKit Go.Proofs.YteooifighndmkaaW.PrintWords Go.Proofs.YteooifighndmkaaW.PrintFl
attribute [local go_sem] run_store_float run_store_complex
attribute [local go_sem ↓] Go.wp_at_zero Go.wp_at_succ
set_option maxHeartbeats 800000 in
theorem giv_eqFrame (A B : Option Addr) (c d : Nat) (xs : List Nat) (x0 x1 x2 : Nat) (w : World) (ha : (Kd.float .f32).C w A xs.length xs) (hb : (Kd.float .f32).C w B xs.length xs) (hl : xs.length ≤ 1048576) (hx : ∀ x ∈ xs, x < 4294967296) (hx0 : x0 < 4294967296) (hx1 : x1 < 4294967296) (hx2 : x2 < 4294967296) :
    Calls Try.prog 13 #[.agg #[.slice A xs.length c, .float .f32 x0, .float .f32 x1, .float .f32 x2], .agg #[.slice B xs.length d, .float .f32 x0, .float .f32 x1, .float .f32 x2]] w fun e w' => e = .returned (.bool true) ∧ Below w.heap.size w w' := by
  have HA := Lib.hid ha
  have HB := Lib.hid hb
  have HX := Lib.hid hx
  clear ha hb hx
  obtain ⟨Rx0, Nx0, hrx0, hfx0⟩ := wid_fun (P := Try.prog) Try.underlying25 Try.underlying78 (IsF.mk' (k := .f32) hx0)
  have HFx0 := Lib.hid hfx0
  clear hfx0
  obtain ⟨Rx1, Nx1, hrx1, hfx1⟩ := wid_fun (P := Try.prog) Try.underlying25 Try.underlying78 (IsF.mk' (k := .f32) hx1)
  have HFx1 := Lib.hid hfx1
  clear hfx1
  obtain ⟨Rx2, Nx2, hrx2, hfx2⟩ := wid_fun (P := Try.prog) Try.underlying25 Try.underlying78 (IsF.mk' (k := .f32) hx2)
  have HFx2 := Lib.hid hfx2
  clear hfx2
  clear hx0 hx1 hx2
  go_enter Try.func13, Try.ntmps13
  go_wp2_with (first | (go_at_call 16; (with_reducible refine (giv_eqFloat32S A B c d xs _ (Kd.C_below HA.out (by repeat (first | exact Below.refl _ _ | apply below_alloc | apply pw_below_drewN))) (Kd.C_below HB.out (by repeat (first | exact Below.refl _ _ | apply below_alloc | apply pw_below_drewN))) hl HX.out).mono ?_); rintro e w1 ⟨rfl, ⟨m, rfl⟩⟩) | (go_at_call 50; (with_reducible refine (sameFloat_c _ _ _ (by first | exact HFx0.out _ | exact HFx1.out _ | exact HFx2.out _) (by first | exact HFx0.out _ | exact HFx1.out _ | exact HFx2.out _) _).mono ?_); rintro e w1 ⟨rfl, ⟨m2, rfl⟩⟩))
  go_ret
  exact ⟨rfl, by repeat (first | exact Below.refl _ _ | apply below_alloc | apply pw_below_drewN | apply below_drew1)⟩
end Go.Proofs.Yteooifighndmkaa
