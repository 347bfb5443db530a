/- Packing: the bytes of numbers. -/
import Derived.Test.YtoiaojdkgagblaaB2
import Derived.Test.YtoiaojdkgagblaaM1
set_option linter.unusedVariables false
set_option linter.unusedSimpArgs false
namespace Go.Proofs.Ytoiaojdkgagblaa
open Go.RowKit Go.Proofs.YtoiaojdkgagblaaW.PrintWords
attribute [local go_sem] run_store_float run_store_complex

abbrev U8 : Kd Int := Kd.int .u8
theorem zig_hi (x b : Nat) (hx : x < 4294967296) (hb : b < 4294967296) (h : (2147483648 : Int) ≤ (wrap64 (wrap64 ((x : Int) - (b : Int)) + 4294967296)).tmod 4294967296) :
    wrap64 (wrap64 (-2 * wrap64 ((wrap64 (wrap64 ((x : Int) - (b : Int)) + 4294967296)).tmod 4294967296 - 4294967296)) - 1) = ((zig b x : Nat) : Int) := by
  rw [change_walk x b hx hb] at h ⊢
  have hz : zig b x = if (x + 4294967296 - b) % 4294967296 ≥ 2147483648 then 2 * (4294967296 - (x + 4294967296 - b) % 4294967296) - 1 else 2 * ((x + 4294967296 - b) % 4294967296) := zig_def b x
  have hd : (x + 4294967296 - b) % 4294967296 < 4294967296 := Nat.mod_lt _ (by decide)
  rw [hz]
  generalize (x + 4294967296 - b) % 4294967296 = d at *
  rw [if_pos (by omega)]
  unfold wrap64
  omega
theorem zig_lo (x b : Nat) (hx : x < 4294967296) (hb : b < 4294967296) (h : (wrap64 (wrap64 ((x : Int) - (b : Int)) + 4294967296)).tmod 4294967296 < (2147483648 : Int)) :
    wrap64 (2 * (wrap64 (wrap64 ((x : Int) - (b : Int)) + 4294967296)).tmod 4294967296) = ((zig b x : Nat) : Int) := by
  rw [change_walk x b hx hb] at h ⊢
  have hz : zig b x = if (x + 4294967296 - b) % 4294967296 ≥ 2147483648 then 2 * (4294967296 - (x + 4294967296 - b) % 4294967296) - 1 else 2 * ((x + 4294967296 - b) % 4294967296) := zig_def b x
  have hd : (x + 4294967296 - b) % 4294967296 < 4294967296 := Nat.mod_lt _ (by decide)
  rw [hz]
  generalize (x + 4294967296 - b) % 4294967296 = d at *
  rw [if_neg (by omega)]
  unfold wrap64
  omega
theorem zig_no2 (x b : Nat) (hx : x < 4294967296) (hb : b < 4294967296) (h : (0 : Int) ≤ wrap64 ((wrap64 (wrap64 ((x : Int) - (b : Int)) + 4294967296)).tmod 4294967296 - 4294967296)) : False := by
  rw [change_walk x b hx hb] at h
  have hd : (x + 4294967296 - b) % 4294967296 < 4294967296 := Nat.mod_lt _ (by decide)
  generalize (x + 4294967296 - b) % 4294967296 = d at *
  unfold wrap64 at h
  omega
theorem zig_no3 (x b : Nat) (hx : x < 4294967296) (hb : b < 4294967296) (h : (wrap64 (wrap64 ((x : Int) - (b : Int)) + 4294967296)).tmod 4294967296 < 0) : False := by
  rw [change_walk x b hx hb] at h
  omega
set_option maxHeartbeats 400000 in
theorem l07Values_c (A : Option Addr) (c n : Nat) (w : World) :
    Calls Try.prog 142 #[.slice A n c] w fun e w' => e = .returned (.bool (decide (1 ≤ n) && decide (n ≤ 256))) ∧ w = w' := by
  go_enter Try.func142, Try.ntmps142
  go_wp2
  all_goals (go_ret; exact ⟨ret_bool (by grind), rfl⟩)

theorem info_u8 : (Try.prog.info? 5).map (fun i => (i.zero, i.size, i.bytes)) = some (some (.int .u8 0), 1, 1) := by kernel_rfl

-- 'l07Bytes' appends to a row of the caller's own.
set_option maxHeartbeats 400000 in
set_option maxRecDepth 100000 in
theorem l07Bytes_c (B : Nat) (v : Value) (xs : List Int) (n : Nat) (hn : n < 4294967296) (w w0 : World) (hr : U8.R 5 w B (fun _ => True) v xs) (hb : Below B w0 w) (hB : B ≤ w.heap.size) (hl : xs.length ≤ 1048576) :
    Calls Try.prog 187 #[v, .int .i64 n] w fun e w' => ∃ v', e = .returned v' ∧ U8.R 5 w' B (fun _ => True) v' (xs ++ vb n) ∧ Below B w0 w' ∧ B ≤ w'.heap.size := by
  have Hn := Lib.hid hn
  clear hn
  go_enter Try.func187, Try.ntmps187
  go_wp2
  go_loopw [0, 1] (fun q i wr => ∃ (u : Value) (m : Nat) (ys : List Int), u = q ∧ i = .int .i64 m ∧ Hid (m ≤ n ∧ xs ++ vb n = ys ++ vb m ∧ U8.R 5 wr B (fun _ => True) u ys ∧ Below B w0 wr ∧ B ≤ wr.heap.size)) (fun _ i _ => (intOf i).toNat)
  case atStart => exact ⟨v, n, xs, rfl, rfl, Nat.le_refl _, rfl, hr, hb, hB⟩
  case round =>
    obtain ⟨u, m, ys, rfl, rfl, H⟩ := hrel
    have hm0 : (0 : Int) ≤ (m : Int) := by omega
    by_cases hlt : m < 128
    · go_wp2_with (first | ((with_reducible refine gate_builtin (b := .append) rfl ?_); refine Kd.R_append U8 (w0 := w0) B rfl _ _ 34 5 (.int .u8 0) 1 rfl Try.underlying34 info_u8 rfl (by decide) (by decide) u ys _ _ (fun _ => True) (fun k => some k ≠ u.ownBlock) rfl rfl rfl (fun _ h => ⟨trivial, h⟩) (fun _ _ => trivial) H.out.2.2.1 H.out.2.2.2.1 H.out.2.2.2.2 (by have := app_len H.out.2.1 Hn.out; omega) ?_; intro v1 w1 ho1 hb1 hg1 hat1))
      go_ret
      refine ⟨v1, rfl, ?_, hb1, Nat.le_trans H.out.2.2.2.2 hg1.size⟩
      rw [H.out.2.1, vb_small hlt]
      exact ho1
    · go_wp2_with (first | ((with_reducible refine gate_builtin (b := .append) rfl ?_); refine Kd.R_append U8 (w0 := w0) B rfl _ _ 34 5 (.int .u8 0) 1 rfl Try.underlying34 info_u8 rfl (by decide) (by decide) u ys _ _ (fun _ => True) (fun k => some k ≠ u.ownBlock) rfl rfl rfl (fun _ h => ⟨trivial, h⟩) (fun _ _ => trivial) H.out.2.2.1 H.out.2.2.2.1 H.out.2.2.2.2 (by have := app_len H.out.2.1 Hn.out; omega) ?_; intro v1 w1 ho1 hb1 hg1 hat1))
      go_roundw
      case rel =>
        exact ⟨v1, m / 128, ys ++ [(m : Int) % 128 + 128], rfl, congrArg _ (wrap_div H.out.1 Hn.out 128), Nat.le_trans (Nat.div_le_self _ _) H.out.1, app_step H.out.2.1 hlt, ho1, hb1, Nat.le_trans H.out.2.2.2.2 hg1.size⟩
      case measure =>
        have h9 := wrap_div_lt H.out.1 Hn.out hlt
        rw [intOf, intOf]
        exact h9
end Go.Proofs.Ytoiaojdkgagblaa
