/- The leaves of the blocks: bounds, bits. -/
import Derived.Test.YtoiaojdkgagblaaFl
set_option linter.unusedVariables false
set_option linter.unusedSimpArgs false
namespace Go.Proofs.Ytoiaojdkgagblaa
open Go.RowKit Go.Proofs.YtoiaojdkgagblaaW.PrintWords

theorem ret_bool {a b : Bool} (h : a = b) : Ending.returned (.bool a) = .returned (.bool b) := by rw [h]
theorem ret_int {k : IntKind} {a b : Int} (h : a = b) : Ending.returned (.int k a) = .returned (.int k b) := by rw [h]
theorem ret_str {a b : ByteArray} (h : a = b) : Ending.returned (.string a) = .returned (.string b) := by rw [h]

set_option maxHeartbeats 400000 in
theorem within_c (n a b : Int) (w : World) :
    Calls Try.prog 81 #[.int .i64 n, .int .i64 a, .int .i64 b] w fun e w' => e = .returned (.bool (decide (a ≤ n) && decide (n ≤ b))) ∧ w = w' := by
  go_enter Try.func81, Try.ntmps81
  go_wp2
  all_goals (go_ret; exact ⟨ret_bool (by grind), rfl⟩)
set_option maxHeartbeats 400000 in
theorem l00In_c (n a b : Int) (w : World) :
    Calls Try.prog 75 #[.int .i64 n, .int .i64 a, .int .i64 b] w fun e w' => e = .returned (.bool (decide (a ≤ n) && decide (n ≤ b))) ∧ w = w' := by
  go_enter Try.func75, Try.ntmps75
  go_wp2
  all_goals (go_ret; exact ⟨ret_bool (by grind), rfl⟩)

theorem run_f32bits (b : Nat) (w : World) : (callFunc 194 #[.float .f32 b]).run Try.prog w = .ok (.value (.int .u32 b)) w :=
  run_callFunc_extern (e := Extern.MathFloatBits.float32bits) Try.func194 (by kernel_rfl) (by kernel_rfl) (by kernel_rfl) (by kernel_rfl) _ _

set_option maxHeartbeats 400000 in
theorem BitsOf_c (b x : Nat) (h : IsF .f32 b x) (w : World) :
    Calls Try.prog 160 #[.float .f32 b] w fun e w' => e = .returned (.int .i64 x) ∧ w = w' := by
  have hr := run_f32bits b
  have ho := Lib.hid h.order_self
  go_enter Try.func160, Try.ntmps160
  go_wp2
  · rename_i h1
    rw [ho.out] at h1
    go_ret
    refine ⟨ret_int ?_, rfl⟩
    by_cases hn : isN .f32 x = true
    · rw [h.qnan hn]; simp [qn]
    · rw [if_neg hn] at h1; cases h1
  · rename_i h1
    rw [ho.out] at h1
    go_ret
    refine ⟨ret_int ?_, rfl⟩
    by_cases hn : isN .f32 x = true
    · rw [if_pos hn] at h1; cases h1
    · rw [← h.raw (by simpa using hn)]; have := h.lt; simp only [fw] at this; unfold wrap64; omega
set_option maxHeartbeats 400000 in
theorem l01Bits_c (b x : Nat) (h : IsF .f32 b x) (w : World) :
    Calls Try.prog 186 #[.float .f32 b] w fun e w' => e = .returned (.int .i64 x) ∧ w = w' := by
  have hr := run_f32bits b
  have ho := Lib.hid h.order_self
  go_enter Try.func186, Try.ntmps186
  go_wp2
  · rename_i h1
    rw [ho.out] at h1
    go_ret
    refine ⟨ret_int ?_, rfl⟩
    by_cases hn : isN .f32 x = true
    · rw [h.qnan hn]; simp [qn]
    · rw [if_neg hn] at h1; cases h1
  · rename_i h1
    rw [ho.out] at h1
    go_ret
    refine ⟨ret_int ?_, rfl⟩
    by_cases hn : isN .f32 x = true
    · rw [if_pos hn] at h1; cases h1
    · rw [← h.raw (by simpa using hn)]; have := h.lt; simp only [fw] at this; unfold wrap64; omega
end Go.Proofs.Ytoiaojdkgagblaa
