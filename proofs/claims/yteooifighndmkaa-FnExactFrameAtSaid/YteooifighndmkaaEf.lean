import Derived.Test.YteooifighndmkaaFl
import Derived.Test.YteooifighndmkaaFp
import Derived.Deep.RegionWith
import Derived.Deep.DrawnRows
set_option linter.unusedVariables false
set_option linter.unusedSimpArgs false
namespace Go.Proofs.Yteooifighndmkaa
open Go.RowKit Go.Proofs.YteooifighndmkaaW.PrintWords Go.Proofs.YteooifighndmkaaW.PrintFl
attribute [local go_sem] run_store_float run_store_complex
attribute [local go_sem ↓] Go.wp_at_zero Go.wp_at_succ
theorem ret_bool {a b : Bool} (h : a = b) : Ending.returned (.bool a) = .returned (.bool b) := by rw [h]
theorem one_f64 : IsF .f64 4607182418800017408 4607182418800017408 := ⟨by decide, by decide +kernel⟩
set_option maxHeartbeats 400000 in
theorem sameFloat_c (b c x : Nat) (hb : IsF .f64 b x) (hc : IsF .f64 c x) (w : World) :
    Calls Try.prog 50 #[.float .f64 b, .float .f64 c] w fun e w' => e = .returned (.bool true) ∧ Drawn0 w w' := by
  have ob := hb.order_self
  have oc := hc.order_self
  by_cases hn : isN .f64 x = true
  · rw [if_pos hn] at ob oc
    clear hb hc hn
    go_enter Try.func50, Try.ntmps50
    go_wp2
    go_ret
    exact ⟨ret_bool (by simp), Drawn0.refl _⟩
  · rw [if_neg hn] at ob oc
    have hn' : isN .f64 x = false := by simpa using hn
    obtain rfl := hb.raw hn'
    obtain rfl := hc.raw hn'
    clear hn hn' hc oc
    by_cases hz : FloatKind.f64.format.order c 0 = some .eq
    · go_enter Try.func50, Try.ntmps50
      go_wp2_with (first | ((with_reducible refine gate_dst (N := 28) rfl ?_); refine arm_fop .quo .f64 rfl rfl rfl rfl rfl one_f64 hb ?_; intro r1 n1 hr1) | ((with_reducible refine gate_dst (N := 31) rfl ?_); refine arm_fop .quo .f64 rfl rfl rfl rfl rfl one_f64 hb ?_; intro r2 n2 hr2))
      go_ret
      exact ⟨ret_bool (by rw [hr1.order (flt_zero .f64), hr2.order (flt_zero .f64)]; simp), by repeat (first | exact Drawn0.refl _ | apply Drawn0.step)⟩
    · go_enter Try.func50, Try.ntmps50
      go_wp2
      all_goals go_ret
      all_goals exact ⟨ret_bool (by simp [ob]), Drawn0.refl _⟩
set_option maxHeartbeats 400000 in
theorem eqFloat32S_c (A B : Option Addr) (c d : Nat) (xs : List Nat) (w : World) (ha : F32.C w A xs.length xs) (hb : F32.C w B xs.length xs) (hl : xs.length ≤ 1048576) :
    Calls Try.prog 16 #[.slice A xs.length c, .slice B xs.length d] w fun e w' => e = .returned (.bool true) ∧ Drawn0 w w' := by
  have HA := Lib.hid ha
  have HB := Lib.hid hb
  clear ha hb
  have hl2 : (xs.length : Int) ≤ 1048576 := by omega
  go_enter Try.func16, Try.ntmps16
  go_wp2
  go_loopw [5] (fun i wr => ∃ (k : Nat), k ≤ xs.length ∧ i = .int .i64 k ∧ Hid (Drawn0 w wr)) (fun i _ => xs.length - (intOf i).toNat)
  case atStart => exact ⟨0, Nat.zero_le _, rfl, Drawn0.refl _⟩
  case round =>
    obtain ⟨k, hk, rfl, H⟩ := hrel
    by_cases hlt : k < xs.length
    · obtain ⟨n, rfl⟩ := H.out.out
      obtain ⟨ad, b, rfl, hcb, hb1⟩ := at_flt HA.out k hlt
      obtain ⟨ad2, b2, rfl, hcb2, hb2⟩ := at_flt HB.out k hlt
      clear H
      have hk0 : (0 : Int) ≤ (k : Int) := by omega
      have hk1 : (k : Int) < (xs.length : Int) := by omega
      obtain ⟨R1, N1, hr1, hf1⟩ := wid_fun (P := Try.prog) Try.underlying25 Try.underlying78 hb1
      obtain ⟨R2, N2, hr2, hf2⟩ := wid_fun (P := Try.prog) Try.underlying25 Try.underlying78 hb2
      have HF1 := Lib.hid hf1
      have HF2 := Lib.hid hf2
      clear hf1 hf2 hb1 hb2
      go_wp2_with fail
      go_region_with (first | (go_at_call 50; refine (sameFloat_c _ _ _ (HF1.out _) (HF2.out _) _).mono ?_; rintro e w' ⟨rfl, hd⟩))
      all_goals
        obtain ⟨m, rfl⟩ := hd.out
        go_wp2
        go_roundw
        case rel => exact ⟨k + 1, by omega, by go_num, by repeat (first | exact Drawn0.refl _ | apply Drawn0.step)⟩
        case measure => simp [intOf]; omega
    · go_wp2
      go_ret
      exact ⟨rfl, H.out⟩
theorem flt_of_raw {k : FloatKind} {w : World} {A : Option Addr} {n : Nat} {xs : List Nat} (h : (Kd.float k).C w A n xs) (hb : ∀ x ∈ xs, x < fw k) : (fltK k).C w A n (xs.map (cn k)) := by
  refine ⟨by rw [List.length_map]; exact h.1, h.2.1, fun hn => ?_⟩
  obtain ⟨ad, e, hc⟩ := h.2.2 hn
  refine ⟨ad, e, fun j p hj => ?_⟩
  rw [List.getElem?_map] at hj
  rcases hx : xs[j]? with _ | x
  · rw [hx] at hj; cases hj
  · rw [hx] at hj
    obtain rfl := Option.some.inj hj
    obtain ⟨c, hl, hk, hcell⟩ := hc j x hx
    exact ⟨c, hl, ⟨x, hk, IsF.mk' (hb x (List.mem_of_getElem? hx))⟩, hcell⟩
theorem giv_eqFloat32S (A B : Option Addr) (c d : Nat) (xs : List Nat) (w : World) (ha : (Kd.float .f32).C w A xs.length xs) (hb : (Kd.float .f32).C w B xs.length xs) (hl : xs.length ≤ 1048576) (hx : ∀ x ∈ xs, x < 4294967296) :
    Calls Try.prog 16 #[.slice A xs.length c, .slice B xs.length d] w fun e w' => e = .returned (.bool true) ∧ Drawn0 w w' := by
  have h := eqFloat32S_c A B c d (xs.map (cn .f32)) w (by rw [List.length_map]; exact flt_of_raw ha hx) (by rw [List.length_map]; exact flt_of_raw hb hx) (by rw [List.length_map]; exact hl)
  rw [List.length_map] at h
  exact h
end Go.Proofs.Yteooifighndmkaa
