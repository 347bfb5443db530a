import Derived.Test.YtjkpbmdkkdofkaaDoorRfBase
import Derived.Test.YtjkpbmdkkdofkaaDoorLm
import Derived.Test.YtjkpbmdkkdofkaaDoorOp
import Derived.Lib.IndexBytes
set_option linter.unusedVariables false
set_option linter.unusedSimpArgs false
namespace Go.Proofs.YtjkpbmdkkdofkaaDoor.RfPure
open Go.RowKit Go.Proofs.YtjkpbmdkkdofkaaDoorW.PrintWords Go.Proofs.YtjkpbmdkkdofkaaDoor.PFnExactRulesFor Go.Proofs.YtjkpbmdkkdofkaaDoor.Lm
abbrev W9 := S9
abbrev W3 := S3
def mR (w : ByteArray) (p : Nat) (x : SI) : Bool := matB x.f0 x.f1 x.f2 w p
def fi (m : SI → Bool) : List SI → Nat → Option Nat
  | [], _ => none
  | x :: xs, i => if m x = true then some i else fi m xs (i + 1)
theorem fi_lt (m : SI → Bool) (l : List SI) (e : Nat) : ∀ (i j : Nat), i + e = l.length → fi m (l.drop i) i = some j → ∃ h : j < l.length, m (l[j]'h) = true := by
  induction e with
  | zero =>
    intro i j h1 h2
    rw [List.drop_of_length_le (by omega), fi] at h2
    cases h2
  | succ e ih =>
    intro i j h1 h2
    have hi : i < l.length := by omega
    rw [List.drop_eq_getElem_cons hi, fi] at h2
    by_cases c : m (l[i]'hi) = true
    · rw [if_pos c] at h2
      cases h2
      exact ⟨hi, c⟩
    · rw [if_neg c] at h2
      exact ih (i + 1) j (by omega) h2
theorem ixF (w : ByteArray) (hw : w.size ≤ 1048576) (p : Nat) (hp : p ≤ w.size) (l : List SI) (hl : l.length ≤ 1048576) (ho : ∀ x ∈ l, okR x) (e : Nat) : ∀ (k i : Nat), i + e = l.length → e + 8388630 < k →
    slices_IndexFunc_v_impl_rulesFor_1.l0 k l (l.length : Int) (i : Int) [(⟨w⟩ : W9)] [(⟨(p : Int)⟩ : W3)] = some (match fi (mR w p) (l.drop i) i with | some j => (j : Int) | none => -1) := by
  induction e with
  | zero =>
    intro k i h1 hk
    obtain ⟨k, rfl⟩ : ∃ m, k = m + 1 := ⟨k - 1, by omega⟩
    rw [slices_IndexFunc_v_impl_rulesFor_1.l0, if_neg (nlt (by omega)), List.drop_of_length_le (by omega)]
    rfl
  | succ e ih =>
    intro k i h1 hk
    obtain ⟨k, rfl⟩ : ∃ m, k = m + 1 := ⟨k - 1, by omega⟩
    have hi : i < l.length := by omega
    obtain ⟨o1, o2, o3, o4⟩ := ho _ (List.getElem_mem hi)
    have e1 := up hi (by omega)
    have hr : impl_rulesFor_1.f k (l[i]'hi).f0 (l[i]'hi).f1 (l[i]'hi).f2 (l[i]'hi).f3 [(⟨w⟩ : W9)] [(⟨(p : Int)⟩ : W3)] = some (mR w p (l[i]'hi)) := by
      have hm := matches_i (l[i]'hi).f0 (l[i]'hi).f1 (l[i]'hi).f2 (l[i]'hi).f3 w o1 o2 o3 hw p hp k (by omega)
      unfold impl_rulesFor_1.f
      rw [if_pos (show (0 : Int) < (([(⟨w⟩ : W9)] : List W9).length : Int) by show (0 : Int) < 1; decide), if_pos (show (0 : Int) < (([(⟨(p : Int)⟩ : W3)] : List W3).length : Int) by show (0 : Int) < 1; decide)]
      rw [show (rd_T9 [(⟨w⟩ : W9)] 0).f0 = w from rfl, show (rd_T3 [(⟨(p : Int)⟩ : W3)] 0).f0 = (p : Int) from rfl, hm]
      rfl
    rw [slices_IndexFunc_v_impl_rulesFor_1.l0, if_pos (lt' hi), if_pos (nn i), if_pos (lt' hi), rdI_at hi, hr, Option.bind_some, List.drop_eq_getElem_cons hi, fi]
    by_cases c : mR w p (l[i]'hi) = true
    · rw [if_pos c, if_pos c]
    · rw [if_neg c, if_neg c, e1]
      exact ih k (i + 1) (by omega) (by omega)
theorem inF (w : ByteArray) (hw : w.size ≤ 1048576) (p : Nat) (hp : p ≤ w.size) (l : List SI) (hl : l.length ≤ 1048576) (ho : ∀ x ∈ l, okR x) (x6 : List Int) (e : Nat) : ∀ (k i : Nat), i + e = l.length → 2 * e + 8388640 < k →
    ∃ k', k ≤ k' + 2 * e + 2 ∧ spec_l07For.l1 k l w x6 (p : Int) (-1) (i : Int) = (match fi (mR w p) (l.drop i) i with
      | some j => if x6.length < 17592186044416 then spec_l07For.l0 k' l w (x6 ++ [(j : Int)]) (wrap64 ((p : Int) + (((rd_T26 l (j : Int)).f1).size : Int))) else none
      | none => some ([], false)) := by
  induction e with
  | zero =>
    intro k i h1 hk
    obtain ⟨k, rfl⟩ : ∃ m, k = m + 1 + 1 := ⟨k - 2, by omega⟩
    refine ⟨k, by omega, ?_⟩
    rw [spec_l07For.l1, if_neg (nlt (by omega)), spec_l07For.j2, if_neg Bool.false_ne_true, if_pos (by decide), List.drop_of_length_le (by omega)]
    rfl
  | succ e ih =>
    intro k i h1 hk
    obtain ⟨k, rfl⟩ : ∃ m, k = m + 1 + 1 + 1 + 1 := ⟨k - 4, by omega⟩
    have hi : i < l.length := by omega
    have hA : k + 1 + 1 + 1 + 1 ≤ k + 2 * (e + 1) + 2 := by omega
    have hk2 : 8388620 < k + 1 + 1 := by omega
    obtain ⟨k', h2, h3⟩ := ih (k + 1 + 1) (i + 1) (by omega) (by omega)
    have hB : k + 1 + 1 + 1 + 1 ≤ k' + 2 * (e + 1) + 2 := by omega
    obtain ⟨o1, o2, o3, o4⟩ := ho _ (List.getElem_mem hi)
    clear ih hk h1 h2
    have n0 : ¬ ((i : Int) < 0) := Int.not_lt.mpr (nn i)
    have e1 := up hi (Nat.le_trans hl (by decide))
    have hm : spec_l07Matches.f (k + 1 + 1) [l[i]'hi] w (p : Int) = some (mR w p (l[i]'hi)) := matches_s (l[i]'hi).f0 (l[i]'hi).f1 (l[i]'hi).f2 (l[i]'hi).f3 w o1 o2 o3 hw p hp (k + 1 + 1) hk2
    have hd : decide ((-1 : Int) < 0) = true := rfl
    rw [spec_l07For.l1, if_pos (lt' hi), hd, spec_l07For.j2, if_pos rfl, if_pos (nn i), if_pos (lt' hi), rdI_at hi, hm, Option.bind_some, List.drop_eq_getElem_cons hi, fi]
    by_cases c : mR w p (l[i]'hi) = true
    · refine ⟨k, hA, ?_⟩
      rw [if_pos c, if_pos c, e1]
      have hj : spec_l07For.j2 (k + 1) l w x6 (p : Int) (i : Int) ((i + 1 : Nat) : Int) false = if x6.length < 17592186044416 then spec_l07For.l0 k l w (x6 ++ [(i : Int)]) (wrap64 ((p : Int) + (((rd_T26 l (i : Int)).f1).size : Int))) else none := by
        rw [spec_l07For.j2, if_neg Bool.false_ne_true, if_neg n0]
        by_cases c2 : x6.length < 17592186044416
        · rw [if_pos c2, if_pos c2, if_pos (nn i), if_pos (lt' hi)]
        · rw [if_neg c2, if_neg c2]
      rw [spec_l07For.l1, decide_eq_false n0]
      dsimp only
      rw [← hj]
      by_cases c3 : ((i + 1 : Nat) : Int) < (l.length : Int)
      · rw [if_pos c3]
      · rw [if_neg c3]
    · refine ⟨k', hB, ?_⟩
      rw [if_neg c, if_neg c, e1]
      exact h3
theorem mR_size {w : ByteArray} {p : Nat} {x : SI} (h : mR w p x = true) (hp : p ≤ w.size) : p + x.f1.size ≤ w.size := by
  unfold mR matB at h
  rw [Bool.and_eq_true, pre_iff, decide_eq_true_iff, List.length_drop, size_list, size_list] at h
  omega
theorem nums (x p w d n k1 k2 k' l : Nat) (hw : w ≤ 24) (hl : l ≤ 48) (hp : p ≤ w) (hd : w ≤ p + (d + 1)) (hx : x ≤ p) (h1 : 200 * (d + 1) + 8388800 < k1 + 1) (h2 : d + 1 + 8388800 < k2 + 1) (h3 : k1 ≤ k' + 2 * l + 2) (z1 : p + n ≤ w) (z2 : 1 ≤ n) :
    x < 17592186044416 ∧ w ≤ p + n + d ∧ x + 1 ≤ p + n ∧ 200 * d + 8388800 < k' ∧ d + 8388800 < k2 := by omega
theorem upn {p n w : Nat} (h : p + n ≤ w) (hw : w ≤ 24) : wrap64 ((p : Int) + (n : Int)) = ((p + n : Nat) : Int) := by rw [w64 (by omega) (by omega)]; omega
theorem for_both (w : ByteArray) (hw : w.size ≤ 24) (l : List SI) (hl : l.length ≤ 48) (ho : ∀ x ∈ l, okR x) (hn : ∀ x ∈ l, 1 ≤ x.f1.size) (d : Nat) : ∀ (k1 k2 : Nat) (x6 : List Int) (p : Nat), p ≤ w.size → w.size ≤ p + d → x6.length ≤ p → 200 * d + 8388800 < k1 → d + 8388800 < k2 →
    ∃ r : List Int × Bool, (r.1.length ≤ 24 ∧ (r.2 = true ∨ r = ([], false)) ∧ ∀ x ∈ r.1, x ∈ x6 ∨ (0 ≤ x ∧ x < (l.length : Int))) ∧ spec_l07For.l0 k1 l w x6 (p : Int) = some r ∧ impl_rulesFor.l0 k2 l x6 w (p : Int) = some r := by
  induction d with
  | zero =>
    intro k1 k2 x6 p hp hd hx h1 h2
    obtain ⟨k1, rfl⟩ : ∃ m, k1 = m + 1 := ⟨k1 - 1, by omega⟩
    obtain ⟨k2, rfl⟩ : ∃ m, k2 = m + 1 := ⟨k2 - 1, by omega⟩
    refine ⟨(x6, true), ⟨by show x6.length ≤ 24; omega, .inl rfl, fun x h => .inl h⟩, ?_, ?_⟩
    · rw [spec_l07For.l0, if_neg (by omega)]
    · rw [impl_rulesFor.l0, if_neg (by omega)]
  | succ d ih =>
    intro k1 k2 x6 p hp hd hx h1 h2
    obtain ⟨k1, rfl⟩ : ∃ m, k1 = m + 1 := ⟨k1 - 1, by omega⟩
    obtain ⟨k2, rfl⟩ : ∃ m, k2 = m + 1 := ⟨k2 - 1, by omega⟩
    by_cases c : (p : Int) < (w.size : Int)
    · obtain ⟨k', h3, h4⟩ := inF w (by omega) p hp l (by omega) ho x6 l.length k1 0 (by omega) (by omega)
      have h5 := ixF w (by omega) p hp l (by omega) ho l.length k2 0 (by omega) (by omega)
      have h4' : spec_l07For.l1 k1 l w x6 (p : Int) (-1) 0 = _ := h4
      have h5' : slices_IndexFunc_v_impl_rulesFor_1.l0 k2 l (l.length : Int) 0 [(⟨w⟩ : W9)] [(⟨(p : Int)⟩ : W3)] = _ := h5
      rw [spec_l07For.l0, if_pos c, h4', impl_rulesFor.l0, if_pos c]
      unfold slices_IndexFunc_v_impl_rulesFor_1.f
      rw [h5', Option.bind_some]
      cases hf : fi (mR w p) (l.drop 0) 0 with
      | none => exact ⟨([], false), ⟨by show 0 ≤ 24; decide, .inr rfl, fun x h => by cases h⟩, rfl, by dsimp only; rw [if_pos (by decide)]⟩
      | some j =>
        obtain ⟨hj, hm⟩ := fi_lt (mR w p) l l.length 0 j (Nat.zero_add _) hf
        have z1 := mR_size hm hp
        have z2 := hn _ (List.getElem_mem hj)
        obtain ⟨n, hnn⟩ : ∃ n, (l[j]'hj).f1.size = n := ⟨_, rfl⟩
        rw [hnn] at z1 z2
        obtain ⟨hx4, g1, g2, g3, g4⟩ := nums x6.length p w.size d n k1 k2 k' l.length hw hl hp hd hx h1 h2 h3 z1 z2
        have g2' : (x6 ++ [(j : Int)]).length ≤ p + n := by rw [List.length_append, List.length_singleton]; exact g2
        obtain ⟨r, ⟨hr1, hr0, hr2⟩, hr3⟩ := ih k' k2 (x6 ++ [(j : Int)]) (p + n) z1 g1 g2' g3 g4
        have e2 : wrap64 ((p : Int) + (n : Int)) = ((p + n : Nat) : Int) := upn z1 hw
        dsimp only
        rw [if_pos hx4, if_neg (Int.not_lt.mpr (nn j)), if_pos hx4, if_pos (nn j), if_pos (lt' hj), rdI_at hj, hnn, e2]
        refine ⟨r, ⟨hr1, hr0, fun x h => ?_⟩, hr3⟩
        rcases hr2 x h with h | h
        · rcases List.mem_append.1 h with h | h
          · exact .inl h
          · rw [List.mem_singleton] at h
            exact .inr ⟨by rw [h]; exact nn j, by rw [h]; exact lt' hj⟩
        · exact .inr h
    · refine ⟨(x6, true), ⟨by show x6.length ≤ 24; omega, .inl rfl, fun x h => .inl h⟩, ?_, ?_⟩
      · rw [spec_l07For.l0, if_neg c]
      · rw [impl_rulesFor.l0, if_neg c]
theorem rB_name {x : SI} (h : rB x = true) : 1 ≤ x.f1.size := by
  unfold rB ruleB nameB at h
  simp only [Bool.and_eq_true, decide_eq_true_eq] at h
  exact h.1.1.2.2.1
theorem wordB_size {w : ByteArray} (h : wordB w = true) : w.size ≤ 24 := by
  unfold wordB at h
  rw [Bool.and_eq_true, decide_eq_true_iff] at h
  omega
theorem both (l : List SI) (hl : l.length ≤ 1048576) (ho : ∀ x ∈ l, okR x) (w : ByteArray) (hw : w.size ≤ 1048576) : ∃ r : List Int × Bool, r.1.length ≤ 48 ∧ ∀ k, 12000001 ≤ k → spec_RulesFor.f k l w = some r ∧ impl_RulesFor.f k l w = some r := by
  by_cases c : rulesB l = true
  · by_cases d : wordB w = true
    · have hc := c
      unfold rulesB at hc
      rw [Bool.and_eq_true] at hc
      have hlen : l.length ≤ 48 := of_decide_eq_true hc.1
      have hn : ∀ x ∈ l, 1 ≤ x.f1.size := fun x hx => rB_name (List.all_eq_true.1 hc.2 x hx)
      obtain ⟨r, ⟨h0, _⟩, h1, h2⟩ := for_both w (wordB_size d) l hlen ho hn 24 12000001 12000001 [] 0 (by omega) (by have := wordB_size d; omega) (by decide) (by omega) (by omega)
      refine ⟨r, by omega, fun k hk => ⟨at_rounds (g := fun k => spec_RulesFor.f k l w) (spec_RulesFor.mono l w) hk ?_, at_rounds (g := fun k => impl_RulesFor.f k l w) (impl_RulesFor.mono l w) hk ?_⟩⟩
      · have h1' : spec_l07For.f 12000001 l w = some r := h1
        unfold spec_RulesFor.f
        rw [rules_f l hl ho _ (by omega), Option.bind_some, if_pos c, word_s w (by omega) _ (by omega), Option.bind_some, if_pos d, h1', Option.bind_some]
      · have h2' : impl_rulesFor.f 12000001 l w = some r := h2
        unfold impl_RulesFor.f
        rw [areRules_f l hl ho _ (by omega), Option.bind_some, if_pos c, word_i w (by omega) _ (by omega), Option.bind_some, if_pos d, h2', Option.bind_some]
    · refine ⟨([], false), by decide, fun k hk => ⟨?_, ?_⟩⟩
      · unfold spec_RulesFor.f
        rw [rules_f l hl ho _ (by omega), Option.bind_some, if_pos c, word_s w (by omega) _ (by omega), Option.bind_some, if_neg d]
      · unfold impl_RulesFor.f
        rw [areRules_f l hl ho _ (by omega), Option.bind_some, if_pos c, word_i w (by omega) _ (by omega), Option.bind_some, if_neg d]
  · refine ⟨([], false), by decide, fun k hk => ⟨?_, ?_⟩⟩
    · unfold spec_RulesFor.f
      rw [rules_f l hl ho _ (by omega), Option.bind_some, if_neg c]
    · unfold impl_RulesFor.f
      rw [areRules_f l hl ho _ (by omega), Option.bind_some, if_neg c]
theorem pure (l : List SL) (hl : l.length ≤ 9223372036854775807) (ho : ∀ x ∈ l, okS x) (w : ByteArray) : ∃ k, laws_FnExactRulesFor.f k l w = some true := by
  obtain ⟨K, hK⟩ : ∃ K : Nat, K = 12000001 := ⟨_, rfl⟩
  refine ⟨K + 1 + 1 + 1, ?_⟩
  unfold laws_FnExactRulesFor.f
  by_cases cw : (w.size : Int) > 1048576
  · rw [if_pos cw]
  obtain ⟨r0, h0, hr⟩ := szs l hl ho 1048576 (by decide) (by decide)
  rw [if_neg cw, hr _ (by omega), Option.bind_some]
  by_cases c : r0 < 0
  · rw [if_pos c]
  · obtain ⟨hlen, hok⟩ := h0.resolve_left c
    have hcl : (convR l).length ≤ 1048576 := by rw [convR_len]; exact hlen
    obtain ⟨⟨r, ok⟩, hr48, h⟩ := both (convR l) hcl hok w (by omega)
    replace hr48 : r.length ≤ 48 := hr48
    obtain ⟨m, zs, hm, hm0⟩ := mr_some (convR l) hcl (K + 1 + 1) (by omega)
    have n0 : ¬ (((1 + r.length : Nat) : Int) < 0) := by omega
    rw [if_neg c, tos l hlen _ (by omega), Option.bind_some, (h _ (by omega)).1, Option.bind_some, Option.bind_some, (h _ (by omega)).2, Option.bind_some]
    dsimp only
    rw [eqIs r (by omega) _ (by omega), Option.bind_some, if_pos rfl, laws_FnExactRulesFor.j0, if_neg (by simp), tos l hlen _ (by omega), Option.bind_some, eqRs _ hcl _ (by omega), Option.bind_some, if_pos rfl, hm, Option.bind_some]
    dsimp only
    rw [if_neg hm0, eqIs r (by omega) _ (by omega), Option.bind_some, if_pos rfl, laws_FnExactRulesFor.j1, if_neg (by simp), markI_some r (by omega) _ (by omega), Option.bind_some]
    dsimp only
    rw [heldI_some r.length (by omega) _ (by omega), Option.bind_some, if_neg n0, if_pos rfl, tos l hlen _ (by omega), Option.bind_some, (h _ (by omega)).2, Option.bind_some]
    dsimp only
    rw [eqIs r (by omega) _ (by omega), Option.bind_some, if_pos rfl, laws_FnExactRulesFor.j2, if_neg (by simp), heldI_some r.length (by omega) _ (by omega), Option.bind_some, if_neg n0, if_pos rfl]
end Go.Proofs.YtjkpbmdkkdofkaaDoor.RfPure
namespace Go.Proofs.YtjkpbmdkkdofkaaDoor
open Go.RowKit Go.Proofs.YtjkpbmdkkdofkaaDoorW.PrintWords Go.Proofs.YtjkpbmdkkdofkaaDoor.PFnExactRulesFor Go.ChangeShapes Go.WideShapes
theorem opens_ruleS_rf : Opens Tryd.prog 23 k23 RfPure.okS :=
  opens_imp (opens_struct (P := Tryd.prog) (fun x : S23 => (x.f0, x.f1, x.f2, x.f3)) (fun x => ⟨x.1, x.2.1, x.2.2.1, x.2.2.2⟩) (fun _ => rfl) Tryd.underlying23 rfl (N := 4) (by kernel_rfl)
    (opensF_cons rfl (off' := 1) (by kernel_rfl) (opens_str Tryd.underlying9) (opensF_cons rfl (off' := 2) (by kernel_rfl) (opens_str Tryd.underlying9) (opensF_cons rfl (off' := 3) (by kernel_rfl) (opens_str Tryd.underlying9) (opensF_last rfl (by kernel_rfl) (opens_str Tryd.underlying9))))))
    (fun x h => h)
theorem opens_rules_rf : Opens Tryd.prog 37 (Kd.slice 23 k23) (fun l => l.length ≤ 9223372036854775807 ∧ l.length * 64 ≤ 140737488351232 ∧ ∀ x ∈ l, RfPure.okS x) :=
  opens_slice _ Tryd.underlying37 (by kernel_rfl) (by kernel_rfl) opens_ruleS_rf
theorem rulesFor_w (A0 : Option Addr) (c0 : Nat) (l0 : List S23) (a1 : ByteArray) (w : World) (hr0 : Kd.C k23 w A0 l0.length l0) (hc0 : l0.length ≤ c0) (z0 : l0.length ≤ 9223372036854775807 ∧ l0.length * 64 ≤ 140737488351232 ∧ ∀ x ∈ l0, RfPure.okS x) (w1 : a1.size ≤ 140737488351232) :
    Calls Tryd.prog 8 #[.slice A0 l0.length c0, .string a1] w fun e w' => e = .returned (.bool true) ∧ Below w.heap.size w w' := by
  obtain ⟨k, hk⟩ := RfPure.pure l0 z0.1 z0.2.2 a1
  exact laws_FnExactRulesFor.calls k A0 c0 l0 a1 true w hr0 hc0 hk
end Go.Proofs.YtjkpbmdkkdofkaaDoor
