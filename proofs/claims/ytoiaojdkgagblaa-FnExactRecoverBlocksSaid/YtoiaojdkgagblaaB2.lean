/- Floats' rows: made, compared, marked. -/
import Derived.Test.YtoiaojdkgagblaaB1
import Derived.Deep.RegionWith
import Derived.Deep.DrawnRows
set_option linter.unusedVariables false
set_option linter.unusedSimpArgs false
namespace Go.Proofs.Ytoiaojdkgagblaa
open Go.RowKit Go.Proofs.YtoiaojdkgagblaaW.PrintWords
attribute [local go_sem] run_store_float run_store_complex
attribute [local go_sem ↓] Go.wp_at_zero Go.wp_at_succ

theorem info_f32 : (Try.prog.info? 36).map (fun i => (i.zero, i.size, i.bytes)) = some (some (.float .f32 0), 1, 4) := by kernel_rfl

set_option maxHeartbeats 400000 in
theorem toFloat32S_c (A : Option Addr) (c : Nat) (xs : List Nat) (w : World) (hr : F32.C w A xs.length xs) (hc : xs.length ≤ c) (hl : xs.length ≤ 1048576) :
    Calls Try.prog 167 #[.slice A xs.length c] w fun e w' => ∃ v, e = .returned v ∧ F32.R 36 w' w.heap.size (fun _ => True) v xs ∧ Below w.heap.size w w' := by
  have HR := Lib.hid hr
  clear hr
  have hl2 : (xs.length : Int) ≤ 1048576 := by omega
  go_enter Try.func167, Try.ntmps167
  go_wp2_with (first | ((with_reducible refine gate_make rfl ?_); refine Kd.R_make F32 _ 36 rfl rfl 26 _ _ rfl (xs.length : Int) rfl rfl Try.underlying26 (.float .f32 0) 4 info_f32 rfl (by decide) (by omega) 0 (ok := fun _ => True) (okp := fun _ => True) ⟨0, rfl, flt_zero _⟩ (fun _ hk => hk) trivial (by omega) (by omega) (Below.refl _ _) (Nat.le_refl _) ?_; intro v1 w1 ho hb _ _))
  go_loopw [4] (fun i wr => ∃ (k : Nat) (ys : List Nat), k ≤ xs.length ∧ i = .int .i64 k ∧ Hid (F32.R 36 wr w.heap.size (fun _ => True) v1 ys ∧ ys.length = xs.length ∧ ys.take k = xs.take k ∧ Below w.heap.size w wr)) (fun i _ => xs.length - (intOf i).toNat)
  case atStart => exact ⟨0, List.replicate xs.length 0, Nat.zero_le _, rfl, ho, by simp, by simp, hb⟩
  case round =>
    obtain ⟨k, ys, hk, rfl, H⟩ := hrel
    by_cases hlt : k < xs.length
    · obtain ⟨hR, hyl, hyt, hB⟩ := H.out
      obtain ⟨g, cap, rfl, hg1, hg2, _⟩ := Kd.R_form hR (by omega)
      obtain ⟨b0, hc0, _, hf0⟩ := flt_cell hR k (by omega)
      obtain ⟨ad, b, rfl, hcb, hb1⟩ := at_flt (Kd.C_below HR.out hB) k hlt
      have H2 := Lib.hid (And.intro hR (And.intro hyl (And.intro hyt hB)))
      have HC := Lib.hid hb1
      have HG := Lib.hid hg1
      have hyk : (k : Int) < ys.length := by omega
      clear hR hyl hyt hB hb1 hg1 ho
      go_wp2
      go_roundw
      case rel =>
        obtain ⟨hR, hyl, hyt, hB⟩ := H2.out
        exact ⟨k + 1, ys.set k (xs.getD k 0), by omega, by go_num, flt_put hR k b _ HC.out, by simp [hyl], take_set_succ hlt hyl hyt (getD_of hlt 0), hB.setCell HG.out _⟩
      case measure => simp [intOf]; omega
    · go_wp2
      go_ret
      obtain ⟨hR, hyl, hyt, hB⟩ := H.out
      have : k = xs.length := by omega
      subst this
      rw [List.take_of_length_le (by omega), List.take_of_length_le (by omega)] at hyt
      subst hyt
      exact ⟨_, rfl, hR, hB⟩

-- equal words: the same
theorem one_f64 : IsF .f64 4607182418800017408 4607182418800017408 := ⟨by decide, by decide +kernel⟩
set_option maxHeartbeats 400000 in
theorem sameFloat_c (b c x : Nat) (hb : IsF .f64 b x) (hc : IsF .f64 c x) (w : World) :
    Calls Try.prog 84 #[.float .f64 b, .float .f64 c] w fun e w' => e = .returned (.bool true) ∧ Drawn0 w w' := by
  have ob := hb.order_self
  have oc := hc.order_self
  by_cases hn : isN .f64 x = true
  · rw [if_pos hn] at ob oc
    clear hb hc hn
    go_enter Try.func84, Try.ntmps84
    go_wp2
    go_ret
    exact ⟨ret_bool (by simp), Drawn0.refl _⟩
  · rw [if_neg hn] at ob oc
    have hn' : isN .f64 x = false := by simpa using hn
    obtain rfl := hb.raw hn'
    obtain rfl := hc.raw hn'
    clear hn hn' hc oc
    by_cases hz : FloatKind.f64.format.order c 0 = some .eq
    · go_enter Try.func84, Try.ntmps84
      go_wp2_with (first | ((with_reducible refine gate_dst (N := 28) rfl ?_); refine arm_fop .quo .f64 rfl rfl rfl rfl rfl one_f64 hb ?_; intro r1 n1 hr1) | ((with_reducible refine gate_dst (N := 31) rfl ?_); refine arm_fop .quo .f64 rfl rfl rfl rfl rfl one_f64 hb ?_; intro r2 n2 hr2))
      go_ret
      exact ⟨ret_bool (by rw [hr1.order (flt_zero .f64), hr2.order (flt_zero .f64)]; simp), by repeat (first | exact Drawn0.refl _ | apply Drawn0.step)⟩
    · go_enter Try.func84, Try.ntmps84
      go_wp2
      all_goals go_ret
      all_goals exact ⟨ret_bool (by simp [ob]), Drawn0.refl _⟩

set_option maxHeartbeats 400000 in
theorem eqFloat32S_c (A B : Option Addr) (c d : Nat) (xs : List Nat) (w : World) (ha : F32.C w A xs.length xs) (hb : F32.C w B xs.length xs) (hl : xs.length ≤ 1048576) :
    Calls Try.prog 23 #[.slice A xs.length c, .slice B xs.length d] w fun e w' => e = .returned (.bool true) ∧ Drawn0 w w' := by
  have HA := Lib.hid ha
  have HB := Lib.hid hb
  clear ha hb
  have hl2 : (xs.length : Int) ≤ 1048576 := by omega
  go_enter Try.func23, Try.ntmps23
  go_wp2
  go_loopw [5] (fun i wr => ∃ (k : Nat), k ≤ xs.length ∧ i = .int .i64 k ∧ Hid (Drawn0 w wr)) (fun i _ => xs.length - (intOf i).toNat)
  case atStart => exact ⟨0, Nat.zero_le _, rfl, Drawn0.refl _⟩
  case round =>
    obtain ⟨k, hk, rfl, H⟩ := hrel
    by_cases hlt : k < xs.length
    · obtain ⟨n, rfl⟩ := H.out.out
      obtain ⟨ad, b, rfl, hcb, hb1⟩ := at_flt HA.out k hlt
      obtain ⟨ad2, b2, rfl, hcb2, hb2⟩ := at_flt HB.out k hlt
      clear H
      have hk0 : (0 : Int) ≤ (k : Int) := by omega
      have hk1 : (k : Int) < (xs.length : Int) := by omega
      obtain ⟨R1, N1, hr1, hf1⟩ := wid_fun (P := Try.prog) Try.underlying36 Try.underlying123 hb1
      obtain ⟨R2, N2, hr2, hf2⟩ := wid_fun (P := Try.prog) Try.underlying36 Try.underlying123 hb2
      have HF1 := Lib.hid hf1
      have HF2 := Lib.hid hf2
      clear hf1 hf2 hb1 hb2
      go_wp2_with fail
      go_region_with (first | (go_at_call 84; refine (sameFloat_c _ _ _ (HF1.out _) (HF2.out _) _).mono ?_; rintro e w' ⟨rfl, hd⟩))
      all_goals
        obtain ⟨m, rfl⟩ := hd.out
        go_wp2
        go_roundw
        case rel => exact ⟨k + 1, by omega, by go_num, by repeat (first | exact Drawn0.refl _ | apply Drawn0.step)⟩
        case measure => simp [intOf]; omega
    · go_wp2
      go_ret
      exact ⟨rfl, H.out⟩
end Go.Proofs.Ytoiaojdkgagblaa
