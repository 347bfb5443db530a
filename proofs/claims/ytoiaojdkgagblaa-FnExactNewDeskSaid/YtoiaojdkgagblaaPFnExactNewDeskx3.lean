/- Printed by a program of this session (the kit's print, with contracts of this session's own): what functions come to, and that their code comes to it. -/
import Derived.Test.YtoiaojdkgagblaaPFnExactNewDeskx0
namespace Go.Proofs.Ytoiaojdkgagblaa.PFnExactNewDesk
open Go.RowKit Go.Proofs.YtoiaojdkgagblaaW.PrintWords Go.Proofs.YtoiaojdkgagblaaW.PrintLast Go.Proofs.YtoiaojdkgagblaaW.PrintMore
open Go.Proofs.YtoiaojdkgagblaaW.PrintFl
attribute [local go_sem high] binOp_feq binOp_fne binOp_fls binOp_fle binOp_fgr binOp_fge binOp_sle binOp_sgt
attribute [local go_sem] run_fopr run_fconv run_fint run_stf run_stc ext_f32bits ext_f64bits ext_f32frombits 
attribute [local go_sem] max2_int min2_int max_two min_two max_three min_three max_four min_four   -- for this text's walks alone
set_option linter.unusedVariables false
set_option linter.unusedSimpArgs false

/-! ### laws_eqTube: function 108 (given: equal values are the same) -/
def laws_eqTube.f (l0_0 : List Nat) (a0_1 a0_2 a0_3 : Nat) (l1_0 : List Nat) (a1_1 a1_2 a1_3 : Nat) : Option Bool := if l0_0 = l1_0 ∧ a0_1 = a1_1 ∧ a0_2 = a1_2 ∧ a0_3 = a1_3 ∧ l0_0.length ≤ 1048576 ∧ (∀ x ∈ l0_0, x < 4294967296) ∧ a0_1 < 4294967296 ∧ a0_2 < 4294967296 ∧ a0_3 < 4294967296 then some true else none
theorem laws_eqTube.calls (A0_0 : Option Addr) (c0_0 : Nat) (l0_0 : List Nat) (a0_1 a0_2 a0_3 : Nat) (A1_0 : Option Addr) (c1_0 : Nat) (l1_0 : List Nat) (a1_1 a1_2 a1_3 : Nat) (r : Bool) (w : World) (hr0_0 : Kd.C (Kd.float .f32) w A0_0 l0_0.length l0_0) (hc0_0 : l0_0.length ≤ c0_0) (hr1_0 : Kd.C (Kd.float .f32) w A1_0 l1_0.length l1_0) (hc1_0 : l1_0.length ≤ c1_0) (h : laws_eqTube.f l0_0 a0_1 a0_2 a0_3 l1_0 a1_1 a1_2 a1_3 = some r) :
    Calls Try.prog 108 #[.agg #[.slice A0_0 l0_0.length c0_0, .float .f32 a0_1, .float .f32 a0_2, .float .f32 a0_3], .agg #[.slice A1_0 l1_0.length c1_0, .float .f32 a1_1, .float .f32 a1_2, .float .f32 a1_3]] w fun e w' => e = .returned (.bool r) ∧ Below w.heap.size w w' := by
  unfold laws_eqTube.f at h
  split at h
  · rename_i hh
    obtain rfl := Option.some.inj h
    obtain ⟨rfl, rfl, rfl, rfl, hl, hx, ha0_1, ha0_2, ha0_3⟩ := hh
    exact giv_eqTube A0_0 A1_0 c0_0 c1_0 l0_0 a0_1 a0_2 a0_3 w hr0_0 hr1_0 hl hx ha0_1 ha0_2 ha0_3
  · cases h
/-! ### laws_eqThroat: function 109 (given: equal values are the same) -/
def laws_eqThroat.f (a0_0 a0_1 a0_2 a0_3 a0_4 : Nat) (a1_0 a1_1 a1_2 a1_3 a1_4 : Nat) : Option Bool := if a0_0 = a1_0 ∧ a0_1 = a1_1 ∧ a0_2 = a1_2 ∧ a0_3 = a1_3 ∧ a0_4 = a1_4 ∧ a0_0 < 4294967296 ∧ a0_1 < 4294967296 ∧ a0_2 < 4294967296 ∧ a0_3 < 4294967296 ∧ a0_4 < 4294967296 then some true else none
theorem laws_eqThroat.calls (a0_0 a0_1 a0_2 a0_3 a0_4 : Nat) (a1_0 a1_1 a1_2 a1_3 a1_4 : Nat) (r : Bool) (w : World) (h : laws_eqThroat.f a0_0 a0_1 a0_2 a0_3 a0_4 a1_0 a1_1 a1_2 a1_3 a1_4 = some r) :
    Calls Try.prog 109 #[.agg #[.float .f32 a0_0, .float .f32 a0_1, .float .f32 a0_2, .float .f32 a0_3, .float .f32 a0_4], .agg #[.float .f32 a1_0, .float .f32 a1_1, .float .f32 a1_2, .float .f32 a1_3, .float .f32 a1_4]] w fun e w' => e = .returned (.bool r) ∧ Below w.heap.size w w' := by
  unfold laws_eqThroat.f at h
  split at h
  · rename_i hh
    obtain rfl := Option.some.inj h
    obtain ⟨rfl, rfl, rfl, rfl, rfl, h0, h1, h2, h3, h4⟩ := hh
    exact giv_eqThroat a0_0 a0_1 a0_2 a0_3 a0_4 w h0 h1 h2 h3 h4
  · cases h
/-! ### laws_eqPredictor: function 110 (given: equal values are the same) -/
def laws_eqPredictor.f (l0_0 : List Nat) (a0_1 : Nat) (l1_0 : List Nat) (a1_1 : Nat) : Option Bool := if l0_0 = l1_0 ∧ a0_1 = a1_1 ∧ l0_0.length ≤ 1048576 ∧ (∀ x ∈ l0_0, x < 4294967296) ∧ a0_1 < 4294967296 then some true else none
theorem laws_eqPredictor.calls (A0_0 : Option Addr) (c0_0 : Nat) (l0_0 : List Nat) (a0_1 : Nat) (A1_0 : Option Addr) (c1_0 : Nat) (l1_0 : List Nat) (a1_1 : Nat) (r : Bool) (w : World) (hr0_0 : Kd.C (Kd.float .f32) w A0_0 l0_0.length l0_0) (hc0_0 : l0_0.length ≤ c0_0) (hr1_0 : Kd.C (Kd.float .f32) w A1_0 l1_0.length l1_0) (hc1_0 : l1_0.length ≤ c1_0) (h : laws_eqPredictor.f l0_0 a0_1 l1_0 a1_1 = some r) :
    Calls Try.prog 110 #[.agg #[.slice A0_0 l0_0.length c0_0, .float .f32 a0_1], .agg #[.slice A1_0 l1_0.length c1_0, .float .f32 a1_1]] w fun e w' => e = .returned (.bool r) ∧ Below w.heap.size w w' := by
  unfold laws_eqPredictor.f at h
  split at h
  · rename_i hh
    obtain rfl := Option.some.inj h
    obtain ⟨rfl, rfl, hl, hx, ha0_1⟩ := hh
    exact giv_eqPredictor A0_0 A1_0 c0_0 c1_0 l0_0 a0_1 w hr0_0 hr1_0 hl hx ha0_1
  · cases h

end Go.Proofs.Ytoiaojdkgagblaa.PFnExactNewDesk
