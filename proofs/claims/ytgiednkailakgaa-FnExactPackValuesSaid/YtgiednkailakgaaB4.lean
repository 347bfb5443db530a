/- Packing: the bytes of numbers, walked. -/
import Derived.Test.YtgiednkailakgaaB3
set_option linter.unusedVariables false
set_option linter.unusedSimpArgs false
namespace Go.Proofs.Ytgiednkailakgaa
open Go.RowKit Go.Proofs.YtgiednkailakgaaW.PrintWords
attribute [local go_sem] run_store_float run_store_complex

theorem C_flt_nth {w : World} {A : Option Addr} {xs : List Nat} (h : F32.C w A xs.length xs) (k : Nat) (hk : k < xs.length) : xs[k] < 4294967296 := by
  have := C_flt_lt h k hk
  rw [List.getD_eq_getElem?_getD, List.getElem?_eq_getElem hk] at this
  exact this
theorem C_flt_all {w : World} {A : Option Addr} {xs : List Nat} (h : F32.C w A xs.length xs) : ∀ x ∈ xs, x < 4294967296 := by
  intro x hx
  obtain ⟨i, hi, rfl⟩ := List.getElem_of_mem hx
  exact C_flt_nth h i hi
theorem C_last_lt {w : World} {A : Option Addr} {xs : List Nat} (h : F32.C w A xs.length xs) (k : Nat) : lastOf 0 (xs.take k) < 4294967296 :=
  lastOf_lt _ _ 0 (by decide) (fun x hx => C_flt_all h x (List.mem_of_mem_take hx))
set_option maxHeartbeats 400000 in
set_option maxRecDepth 100000 in
theorem l07Pack_c (A : Option Addr) (c : Nat) (xs : List Nat) (w : World) (hr : F32.C w A xs.length xs) (hc : xs.length ≤ c) (hl : xs.length ≤ 1024) :
    Calls Try.prog 51 #[.slice A xs.length c] w fun e w' => e = .returned (.string (strOfNums (packFrom 0 xs))) ∧ Below w.heap.size w w' := by
  have HR := Lib.hid hr
  clear hr
  have hl2 : (xs.length : Int) ≤ 1024 := by omega
  go_enter Try.func51, Try.ntmps51
  go_wp2
  go_loopw [3, 4, 12] (fun q3 q4 q12 wr => ∃ (u : Value) (k b : Nat), u = q3 ∧ q4 = .int .i64 b ∧ q12 = .int .i64 k ∧ Hid (k ≤ xs.length ∧ b = lastOf 0 (xs.take k) ∧ U8.R 5 wr w.heap.size (fun _ => True) u (packFrom 0 (xs.take k)) ∧ Below w.heap.size w wr)) (fun _ _ i _ => xs.length - (intOf i).toNat)
  case atStart => exact ⟨_, 0, 0, rfl, rfl, rfl, Nat.zero_le _, rfl, R_empty _ _ _ _ trivial, (Below.refl _ _).alloc (Nat.le_refl _) _⟩
  case round =>
    obtain ⟨u, k, b, rfl, rfl, rfl, H⟩ := hrel
    by_cases hlt : k < xs.length
    · obtain ⟨ad, b0, rfl, hcb, hb1⟩ := at_flt (Kd.C_below HR.out H.out.2.2.2) k hlt
      have Hx := Lib.hid (C_flt_nth HR.out k hlt)
      have Hb := Lib.hid (C_last_lt HR.out k)
      go_wp2_with (first | (go_at_call 68; refine (l01Bits_c _ _ hb1 _).mono ?_; rintro e w' ⟨rfl, rfl⟩))
      · rw [zig_hi xs[k] b Hx.out (by rw [H.out.2.1]; exact Hb.out) (by with_reducible assumption)]
        refine (l07Bytes_c w.heap.size u _ _ (zig_lt _ _) _ w H.out.2.2.1 H.out.2.2.2 H.out.2.2.2.size ?_).mono ?_
        · have := packFrom_len (xs.take k) 0; have := List.length_take_le k xs; omega
        · rintro e w' ⟨v', rfl, ho, hb2, hs2⟩
          have HO := Lib.hid ho
          clear ho
          go_wp2
          go_roundw
          case rel => exact ⟨v', k + 1, xs[k], rfl, rfl, by go_num, by omega, (lastOf_take hlt 0).symm, by rw [packFrom_take hlt, ← H.out.2.1]; exact HO.out, hb2⟩
          case measure => rw [intOf, intOf]; omega
      · rw [zig_lo xs[k] b Hx.out (by rw [H.out.2.1]; exact Hb.out) (by with_reducible assumption)]
        refine (l07Bytes_c w.heap.size u _ _ (zig_lt _ _) _ w H.out.2.2.1 H.out.2.2.2 H.out.2.2.2.size ?_).mono ?_
        · have := packFrom_len (xs.take k) 0; have := List.length_take_le k xs; omega
        · rintro e w' ⟨v', rfl, ho, hb2, hs2⟩
          have HO := Lib.hid ho
          clear ho
          go_wp2
          go_roundw
          case rel => exact ⟨v', k + 1, xs[k], rfl, rfl, by go_num, by omega, (lastOf_take hlt 0).symm, by rw [packFrom_take hlt, ← H.out.2.1]; exact HO.out, hb2⟩
          case measure => rw [intOf, intOf]; omega
    · have hcv := own_string (P := Try.prog) Try.underlying49 Try.underlying5 Try.underlying9 (Kd.own_of_R H.out.2.2.1)
      go_wp2
      go_ret
      have : k = xs.length := by have := H.out.1; omega
      subst this
      rw [List.take_length]
      exact ⟨rfl, H.out.2.2.2⟩
set_option maxHeartbeats 400000 in
set_option maxRecDepth 100000 in
theorem packValues_c (A : Option Addr) (c : Nat) (xs : List Nat) (w : World) (hr : F32.C w A xs.length xs) (hc : xs.length ≤ c) (hl : xs.length ≤ 1024) :
    Calls Try.prog 52 #[.slice A xs.length c] w fun e w' => e = .returned (.string (strOfNums (packFrom 0 xs))) ∧ Below w.heap.size w w' := by
  have HR := Lib.hid hr
  clear hr
  have hl2 : (xs.length : Int) ≤ 1024 := by omega
  go_enter Try.func52, Try.ntmps52
  go_wp2
  go_loopw [3, 4, 12] (fun q3 q4 q12 wr => ∃ (u : Value) (k b : Nat), u = q3 ∧ q4 = .int .i64 b ∧ q12 = .int .i64 k ∧ Hid (k ≤ xs.length ∧ b = lastOf 0 (xs.take k) ∧ U8.R 5 wr w.heap.size (fun _ => True) u (packFrom 0 (xs.take k)) ∧ Below w.heap.size w wr)) (fun _ _ i _ => xs.length - (intOf i).toNat)
  case atStart => exact ⟨_, 0, 0, rfl, rfl, rfl, Nat.zero_le _, rfl, Kd.R_nil _ _ _ _ _, Below.refl _ _⟩
  case round =>
    obtain ⟨u, k, b, rfl, rfl, rfl, H⟩ := hrel
    by_cases hlt : k < xs.length
    · obtain ⟨ad, b0, rfl, hcb, hb1⟩ := at_flt (Kd.C_below HR.out H.out.2.2.2) k hlt
      have Hx := Lib.hid (C_flt_nth HR.out k hlt)
      have Hb := Lib.hid (C_last_lt HR.out k)
      go_wp2_with (first | (go_at_call 70; refine (BitsOf_c _ _ hb1 _).mono ?_; rintro e w' ⟨rfl, rfl⟩))
      · rw [zig_hi xs[k] b Hx.out (by rw [H.out.2.1]; exact Hb.out) (by with_reducible assumption)]
        go_simp
        go_loopw [3, 9] (fun q3 q9 wi => ∃ (u2 : Value) (m : Nat) (ys : List Int), u2 = q3 ∧ q9 = .int .i64 m ∧ Hid (m ≤ zig b xs[k] ∧ packFrom 0 (xs.take k) ++ vb (zig b xs[k]) = ys ++ vb m ∧ U8.R 5 wi w.heap.size (fun _ => True) u2 ys ∧ Below w.heap.size w wi)) (fun _ i _ => (intOf i).toNat)
        case atStart => exact ⟨u, _, _, rfl, rfl, Nat.le_refl _, rfl, H.out.2.2.1, H.out.2.2.2⟩
        case round =>
          obtain ⟨u2, m, ys, rfl, rfl, H2⟩ := hrel
          have hm0 : (0 : Int) ≤ (m : Int) := by omega
          have HL : Hid (ys.length ≤ 10000) := by have h1 := app_len H2.out.2.1 (zig_lt _ _); have h2 := packFrom_len (xs.take k) 0; have h3 := List.length_take_le k xs; exact Lib.hid (by omega)
          by_cases hlt2 : m < 128
          · go_wp2_with (first | ((with_reducible refine gate_builtin (b := .append) rfl ?_); refine Kd.R_append U8 (w0 := w) w.heap.size rfl _ _ 49 5 (.int .u8 0) 1 rfl Try.underlying49 info_u8 rfl (by decide) (by decide) u2 ys _ _ (fun _ => True) (fun k => some k ≠ u2.ownBlock) rfl rfl rfl (fun _ h => ⟨trivial, h⟩) (fun _ _ => trivial) H2.out.2.2.1 H2.out.2.2.2 H2.out.2.2.2.size (by have := HL.out; omega) ?_; intro v1 w1 ho1 hb1 hg1 hat1))
            go_roundw
            case rel =>
              have e := H2.out.2.1
              rw [vb_small hlt2] at e
              exact ⟨v1, k + 1, xs[k], rfl, rfl, by go_num, by omega, (lastOf_take hlt 0).symm, by rw [packFrom_take hlt, ← H.out.2.1, e]; exact ho1, hb1⟩
            case measure => rw [intOf, intOf]; omega
          · go_wp2_with (first | ((with_reducible refine gate_builtin (b := .append) rfl ?_); refine Kd.R_append U8 (w0 := w) w.heap.size rfl _ _ 49 5 (.int .u8 0) 1 rfl Try.underlying49 info_u8 rfl (by decide) (by decide) u2 ys _ _ (fun _ => True) (fun k => some k ≠ u2.ownBlock) rfl rfl rfl (fun _ h => ⟨trivial, h⟩) (fun _ _ => trivial) H2.out.2.2.1 H2.out.2.2.2 H2.out.2.2.2.size (by have := HL.out; omega) ?_; intro v1 w1 ho1 hb1 hg1 hat1))
            go_roundw
            case rel => exact ⟨v1, m / 128, ys ++ [(m : Int) % 128 + 128], rfl, congrArg _ (wrap_div H2.out.1 (zig_lt _ _) 128), Nat.le_trans (Nat.div_le_self _ _) H2.out.1, app_step H2.out.2.1 hlt2, ho1, hb1⟩
            case measure =>
              have h9 := wrap_div_lt H2.out.1 (zig_lt _ _) hlt2
              rw [intOf, intOf]
              exact h9
      · exact (zig_no2 xs[k] b Hx.out (by rw [H.out.2.1]; exact Hb.out) (by with_reducible assumption)).elim
      · exact (zig_no3 xs[k] b Hx.out (by rw [H.out.2.1]; exact Hb.out) (by with_reducible assumption)).elim
      · rw [zig_lo xs[k] b Hx.out (by rw [H.out.2.1]; exact Hb.out) (by with_reducible assumption)]
        go_loopw [3, 9] (fun q3 q9 wi => ∃ (u2 : Value) (m : Nat) (ys : List Int), u2 = q3 ∧ q9 = .int .i64 m ∧ Hid (m ≤ zig b xs[k] ∧ packFrom 0 (xs.take k) ++ vb (zig b xs[k]) = ys ++ vb m ∧ U8.R 5 wi w.heap.size (fun _ => True) u2 ys ∧ Below w.heap.size w wi)) (fun _ i _ => (intOf i).toNat)
        case atStart => exact ⟨u, _, _, rfl, rfl, Nat.le_refl _, rfl, H.out.2.2.1, H.out.2.2.2⟩
        case round =>
          obtain ⟨u2, m, ys, rfl, rfl, H2⟩ := hrel
          have hm0 : (0 : Int) ≤ (m : Int) := by omega
          have HL : Hid (ys.length ≤ 10000) := by have h1 := app_len H2.out.2.1 (zig_lt _ _); have h2 := packFrom_len (xs.take k) 0; have h3 := List.length_take_le k xs; exact Lib.hid (by omega)
          by_cases hlt2 : m < 128
          · go_wp2_with (first | ((with_reducible refine gate_builtin (b := .append) rfl ?_); refine Kd.R_append U8 (w0 := w) w.heap.size rfl _ _ 49 5 (.int .u8 0) 1 rfl Try.underlying49 info_u8 rfl (by decide) (by decide) u2 ys _ _ (fun _ => True) (fun k => some k ≠ u2.ownBlock) rfl rfl rfl (fun _ h => ⟨trivial, h⟩) (fun _ _ => trivial) H2.out.2.2.1 H2.out.2.2.2 H2.out.2.2.2.size (by have := HL.out; omega) ?_; intro v1 w1 ho1 hb1 hg1 hat1))
            go_roundw
            case rel =>
              have e := H2.out.2.1
              rw [vb_small hlt2] at e
              exact ⟨v1, k + 1, xs[k], rfl, rfl, by go_num, by omega, (lastOf_take hlt 0).symm, by rw [packFrom_take hlt, ← H.out.2.1, e]; exact ho1, hb1⟩
            case measure => rw [intOf, intOf]; omega
          · go_wp2_with (first | ((with_reducible refine gate_builtin (b := .append) rfl ?_); refine Kd.R_append U8 (w0 := w) w.heap.size rfl _ _ 49 5 (.int .u8 0) 1 rfl Try.underlying49 info_u8 rfl (by decide) (by decide) u2 ys _ _ (fun _ => True) (fun k => some k ≠ u2.ownBlock) rfl rfl rfl (fun _ h => ⟨trivial, h⟩) (fun _ _ => trivial) H2.out.2.2.1 H2.out.2.2.2 H2.out.2.2.2.size (by have := HL.out; omega) ?_; intro v1 w1 ho1 hb1 hg1 hat1))
            go_roundw
            case rel => exact ⟨v1, m / 128, ys ++ [(m : Int) % 128 + 128], rfl, congrArg _ (wrap_div H2.out.1 (zig_lt _ _) 128), Nat.le_trans (Nat.div_le_self _ _) H2.out.1, app_step H2.out.2.1 hlt2, ho1, hb1⟩
            case measure =>
              have h9 := wrap_div_lt H2.out.1 (zig_lt _ _) hlt2
              rw [intOf, intOf]
              exact h9
    · have hcv := own_string (P := Try.prog) Try.underlying49 Try.underlying5 Try.underlying9 (Kd.own_of_R H.out.2.2.1)
      go_wp2
      go_ret
      have : k = xs.length := by have := H.out.1; omega
      subst this
      rw [List.take_length]
      exact ⟨rfl, H.out.2.2.2⟩
end Go.Proofs.Ytgiednkailakgaa
