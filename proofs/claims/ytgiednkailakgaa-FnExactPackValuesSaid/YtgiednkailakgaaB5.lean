/- PackValues, and its law walked. -/
import Derived.Test.YtgiednkailakgaaB4
set_option linter.unusedVariables false
set_option linter.unusedSimpArgs false
namespace Go.Proofs.Ytgiednkailakgaa
open Go.RowKit Go.Proofs.YtgiednkailakgaaW.PrintWords
attribute [local go_sem] run_store_float run_store_complex

def packOk (xs : List Nat) : Bool := decide (1 ≤ xs.length) && decide (xs.length ≤ 256)
def packS (xs : List Nat) : ByteArray := if packOk xs = true then strOfNums (packFrom 0 xs) else ⟨#[]⟩

set_option maxHeartbeats 400000 in
theorem sPackValues_c (A : Option Addr) (c : Nat) (xs : List Nat) (w : World) (hr : F32.C w A xs.length xs) (hc : xs.length ≤ c) :
    Calls Try.prog 18 #[.slice A xs.length c] w fun e w' => e = .returned (.tuple #[.string (packS xs), .bool (packOk xs)]) ∧ Below w.heap.size w w' := by
  have HR := Lib.hid hr
  clear hr
  by_cases hp : packOk xs = true
  · have hq : (decide (1 ≤ xs.length) && decide (xs.length ≤ 256)) = true := hp
    have hl : xs.length ≤ 1024 := by simp at hq; omega
    have HS : Hid (packS xs = strOfNums (packFrom 0 xs)) := by unfold packS; rw [if_pos hp]; exact rfl
    have HP := Lib.hid hp
    clear hp
    go_enter Try.func18, Try.ntmps18
    go_wp2_with (first | (go_at_call 50; refine (l07Values_c _ _ _ _).mono ?_; rintro e w' ⟨rfl, rfl⟩) | (go_at_call 51; refine (l07Pack_c _ _ xs _ HR.out hc hl).mono ?_; rintro e w' ⟨rfl, hb⟩))
    go_ret2
    rw [HS.out, HP.out]
    exact ⟨rfl, hb⟩
  · have hq : (decide (1 ≤ xs.length) && decide (xs.length ≤ 256)) = false := by simpa [packOk] using hp
    have HS : Hid (packS xs = ⟨#[]⟩) := by unfold packS; rw [if_neg hp]; exact rfl
    have HP : Hid (packOk xs = false) := by exact Lib.hid (by simpa using hp)
    clear hp
    go_enter Try.func18, Try.ntmps18
    go_wp2_with (first | (go_at_call 50; refine (l07Values_c _ _ _ _).mono ?_; rintro e w' ⟨rfl, rfl⟩))
    go_ret2
    rw [HS.out, HP.out]
    exact ⟨rfl, Below.refl _ _⟩

set_option maxHeartbeats 400000 in
theorem iPackValues_c (A : Option Addr) (c : Nat) (xs : List Nat) (w : World) (hr : F32.C w A xs.length xs) (hc : xs.length ≤ c) (hl0 : xs.length ≤ 1048576) :
    Calls Try.prog 20 #[.slice A xs.length c] w fun e w' => e = .returned (.tuple #[.string (packS xs), .bool (packOk xs)]) ∧ Below w.heap.size w w' := by
  have HR := Lib.hid hr
  clear hr
  have hl1 : (xs.length : Int) ≤ 1048576 := by omega
  by_cases hp : packOk xs = true
  · have hq : (decide (1 ≤ xs.length) && decide (xs.length ≤ 256)) = true := hp
    have hl : xs.length ≤ 1024 := by simp at hq; omega
    have hq' : (decide ((1 : Int) ≤ (xs.length : Int)) && decide ((xs.length : Int) ≤ 256)) = true := by simp at hq ⊢; omega
    have HS : Hid (packS xs = strOfNums (packFrom 0 xs)) := by unfold packS; rw [if_pos hp]; exact rfl
    have HP := Lib.hid hp
    clear hp hq
    go_enter Try.func20, Try.ntmps20
    go_wp2_with (first | (go_at_call 49; refine (within_c _ _ _ _).mono ?_; rintro e w' ⟨rfl, rfl⟩) | (go_at_call 52; refine (packValues_c _ _ xs _ HR.out hc hl).mono ?_; rintro e w' ⟨rfl, hb⟩))
    go_ret2
    rw [HS.out, HP.out]
    exact ⟨rfl, hb⟩
  · have hq : (decide (1 ≤ xs.length) && decide (xs.length ≤ 256)) = false := by simpa [packOk] using hp
    have hq' : (decide ((1 : Int) ≤ (xs.length : Int)) && decide ((xs.length : Int) ≤ 256)) = false := by simp at hq ⊢; omega
    have HS : Hid (packS xs = ⟨#[]⟩) := by unfold packS; rw [if_neg hp]; exact rfl
    have HP : Hid (packOk xs = false) := by exact Lib.hid (by simpa using hp)
    clear hp hq
    go_enter Try.func20, Try.ntmps20
    go_wp2_with (first | (go_at_call 49; refine (within_c _ _ _ _).mono ?_; rintro e w' ⟨rfl, rfl⟩))
    go_ret2
    rw [HS.out, HP.out]
    exact ⟨rfl, Below.refl _ _⟩

set_option maxHeartbeats 400000 in
theorem lPackValues_c (A : Option Addr) (n c : Nat) (xs : List Nat) (w : World) (hr : F32.C w A n xs) (hc : n ≤ c) :
    Calls Try.prog 4 #[.slice A n c] w fun e w' => e = .returned (.bool true) ∧ Below w.heap.size w w' := by
  obtain rfl := Kd.C_len hr
  have HR := Lib.hid hr
  clear hr
  by_cases hl : xs.length ≤ 1048576
  · have hl1 : (xs.length : Int) ≤ 1048576 := by omega
    go_enter Try.func4, Try.ntmps4
    go_wp2_with fail
    refine (toFloat32S_c A c xs _ HR.out hc hl).mono ?_
    rintro e w1 ⟨v1, rfl, hR1, hB1⟩
    obtain ⟨A1, c1, rfl, hc1, hC1⟩ := Kd.R_reads hR1
    have H1 := Lib.hid (And.intro hC1 hB1)
    clear hR1 hC1 hB1
    go_wp2_with fail
    refine (sPackValues_c A1 c1 xs _ H1.out.1 hc1).mono ?_
    rintro e w2 ⟨rfl, hB2⟩
    have H2 := Lib.hid (below_step H1.out.2 hB2)
    clear hB2
    go_wp2_with fail
    refine (toFloat32S_c A c xs _ (Kd.C_below HR.out H2.out) hc hl).mono ?_
    rintro e w3 ⟨v3, rfl, hR3, hB3⟩
    obtain ⟨A3, c3, rfl, hc3, hC3⟩ := Kd.R_reads hR3
    have H3 := Lib.hid (And.intro hC3 (below_step H2.out hB3))
    clear hR3 hC3 hB3
    go_wp2_with fail
    refine (iPackValues_c A3 c3 xs _ H3.out.1 hc3 hl).mono ?_
    rintro e w4 ⟨rfl, hB4⟩
    have H4 := Lib.hid (And.intro (Kd.C_below H3.out.1 hB4) (below_step H3.out.2 hB4))
    clear hB4
    go_wp2_with fail
    refine (toFloat32S_c A c xs _ (Kd.C_below HR.out H4.out.2) hc hl).mono ?_
    rintro e w5 ⟨v5, rfl, hR5, hB5⟩
    obtain ⟨A5, c5, rfl, hc5, hC5⟩ := Kd.R_reads hR5
    have H5 := Lib.hid (And.intro hC5 (And.intro (Kd.C_below H4.out.1 hB5) (below_step H4.out.2 hB5)))
    clear hR5 hC5 hB5
    go_wp2_with fail
    refine (eqFloat32S_c A3 A5 c3 c5 xs _ H5.out.2.1 H5.out.1 hl).mono ?_
    rintro e w6 ⟨rfl, hB6⟩
    have H6 := Lib.hid (below_step H5.out.2.2 hB6.below)
    clear hB6
    go_wp2_with fail
    go_ret
    exact ⟨rfl, H6.out⟩
  · go_enter Try.func4, Try.ntmps4
    go_wp2
    go_ret
    exact ⟨rfl, Below.refl _ _⟩
end Go.Proofs.Ytgiednkailakgaa
