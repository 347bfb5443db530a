import Derived.Test.YteooifighndmkaaEf
set_option linter.unusedVariables false
set_option linter.unusedSimpArgs false
namespace Go.Proofs.Yteooifighndmkaa
open Go.RowKit Go.Proofs.YteooifighndmkaaW.PrintWords Go.Proofs.YteooifighndmkaaW.PrintFl
attribute [local go_sem] run_store_float run_store_complex
attribute [local go_sem ↓] Go.wp_at_zero Go.wp_at_succ
set_option maxHeartbeats 1600000 in
theorem giv_eqAccent (x0 x1 x2 : Nat) (w : World) (hx0 : x0 < 4294967296) (hx1 : x1 < 4294967296) (hx2 : x2 < 4294967296) :
    Calls Try.prog 109 #[.agg #[.float .f32 x0, .float .f32 x1, .float .f32 x2], .agg #[.float .f32 x0, .float .f32 x1, .float .f32 x2]] w fun e w' => e = .returned (.bool true) ∧ Below w.heap.size w w' := by
  obtain ⟨Rx0, Nx0, hrx0, hfx0⟩ := wid_fun (P := Try.prog) Try.underlying25 Try.underlying78 (IsF.mk' (k := .f32) hx0)
  have HFx0 := Lib.hid hfx0
  clear hfx0
  obtain ⟨Rx1, Nx1, hrx1, hfx1⟩ := wid_fun (P := Try.prog) Try.underlying25 Try.underlying78 (IsF.mk' (k := .f32) hx1)
  have HFx1 := Lib.hid hfx1
  clear hfx1
  obtain ⟨Rx2, Nx2, hrx2, hfx2⟩ := wid_fun (P := Try.prog) Try.underlying25 Try.underlying78 (IsF.mk' (k := .f32) hx2)
  have HFx2 := Lib.hid hfx2
  clear hfx2
  clear hx0 hx1 hx2
  go_enter Try.func109, Try.ntmps109
  go_wp2_with (first | (go_at_call 50; (with_reducible refine (sameFloat_c _ _ _ (by first | exact HFx0.out _ | exact HFx1.out _ | exact HFx2.out _) (by first | exact HFx0.out _ | exact HFx1.out _ | exact HFx2.out _) _).mono ?_); rintro e w1 ⟨rfl, ⟨m2, rfl⟩⟩))
  go_ret
  exact ⟨rfl, by repeat (first | exact Below.refl _ _ | apply below_alloc | apply pw_below_drewN | apply below_drew1)⟩
set_option maxHeartbeats 1600000 in
theorem giv_eqTune (A B : Option Addr) (c d n m : Nat) (x0 x1 x2 : Nat) (w : World) (hx0 : x0 < 4294967296) (hx1 : x1 < 4294967296) (hx2 : x2 < 4294967296) (hS : ∀ W, Below w.heap.size w W → Calls Try.prog 72 #[.slice A n c, .slice B m d] W fun e w' => e = .returned (.bool true) ∧ Below W.heap.size W w') :
    Calls Try.prog 36 #[.agg #[.float .f32 x0, .float .f32 x1, .float .f32 x2, .slice A n c], .agg #[.float .f32 x0, .float .f32 x1, .float .f32 x2, .slice B m d]] w fun e w' => e = .returned (.bool true) ∧ Below w.heap.size w w' := by
  have HS := Lib.hid hS
  clear hS
  obtain ⟨Rx0, Nx0, hrx0, hfx0⟩ := wid_fun (P := Try.prog) Try.underlying25 Try.underlying78 (IsF.mk' (k := .f32) hx0)
  have HFx0 := Lib.hid hfx0
  clear hfx0
  obtain ⟨Rx1, Nx1, hrx1, hfx1⟩ := wid_fun (P := Try.prog) Try.underlying25 Try.underlying78 (IsF.mk' (k := .f32) hx1)
  have HFx1 := Lib.hid hfx1
  clear hfx1
  obtain ⟨Rx2, Nx2, hrx2, hfx2⟩ := wid_fun (P := Try.prog) Try.underlying25 Try.underlying78 (IsF.mk' (k := .f32) hx2)
  have HFx2 := Lib.hid hfx2
  clear hfx2
  clear hx0 hx1 hx2
  go_enter Try.func36, Try.ntmps36
  go_wp2_with (first | (go_at_call 72; (with_reducible refine (HS.out _ (by repeat (first | exact Below.refl _ _ | apply below_alloc | apply pw_below_drewN | apply below_drew1))).mono ?_); rintro e w3 ⟨rfl, hb3⟩; have HB3 := Lib.hid hb3; clear hb3) | (go_at_call 50; (with_reducible refine (sameFloat_c _ _ _ (by first | exact HFx0.out _ | exact HFx1.out _ | exact HFx2.out _) (by first | exact HFx0.out _ | exact HFx1.out _ | exact HFx2.out _) _).mono ?_); rintro e w1 ⟨rfl, ⟨m2, rfl⟩⟩))
  go_ret
  exact ⟨rfl, below_step (by repeat (first | exact Below.refl _ _ | apply below_alloc | apply pw_below_drewN | apply below_drew1)) HB3.out⟩
end Go.Proofs.Yteooifighndmkaa
