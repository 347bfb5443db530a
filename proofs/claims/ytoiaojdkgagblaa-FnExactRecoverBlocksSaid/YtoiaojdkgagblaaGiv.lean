/- Contracts of this session's own, for the print: functions over floats whose bits are left open. -/
import Derived.Test.YtoiaojdkgagblaaFp
import Derived.Test.YtoiaojdkgagblaaB2
set_option linter.unusedVariables false
set_option linter.unusedSimpArgs false
namespace Go.Proofs.Ytoiaojdkgagblaa
open Go.RowKit Go.Proofs.YtoiaojdkgagblaaW.PrintWords Go.Proofs.YtoiaojdkgagblaaW.PrintFl
theorem flt_of_raw {k : FloatKind} {w : World} {A : Option Addr} {n : Nat} {xs : List Nat} (h : (Kd.float k).C w A n xs) (hb : ∀ x ∈ xs, x < fw k) : (fltK k).C w A n (xs.map (cn k)) := by
  refine ⟨by rw [List.length_map]; exact h.1, h.2.1, fun hn => ?_⟩
  obtain ⟨ad, e, hc⟩ := h.2.2 hn
  refine ⟨ad, e, fun j p hj => ?_⟩
  rw [List.getElem?_map] at hj
  rcases hx : xs[j]? with _ | x
  · rw [hx] at hj; cases hj
  · rw [hx] at hj
    obtain rfl := Option.some.inj hj
    obtain ⟨c, hl, hk, hcell⟩ := hc j x hx
    exact ⟨c, hl, ⟨x, hk, IsF.mk' (hb x (List.mem_of_getElem? hx))⟩, hcell⟩
theorem giv_eqFloat32S (A B : Option Addr) (c d : Nat) (xs : List Nat) (w : World) (ha : (Kd.float .f32).C w A xs.length xs) (hb : (Kd.float .f32).C w B xs.length xs) (hl : xs.length ≤ 1048576) (hx : ∀ x ∈ xs, x < 4294967296) :
    Calls Try.prog 23 #[.slice A xs.length c, .slice B xs.length d] w fun e w' => e = .returned (.bool true) ∧ Drawn0 w w' := by
  have h := eqFloat32S_c A B c d (xs.map (cn .f32)) w (by rw [List.length_map]; exact flt_of_raw ha hx) (by rw [List.length_map]; exact flt_of_raw hb hx) (by rw [List.length_map]; exact hl)
  rw [List.length_map] at h
  exact h
end Go.Proofs.Ytoiaojdkgagblaa
