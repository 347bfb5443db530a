import Derived.Test.YtjkpbmdkkdofkaaDoorSpBase
import Derived.Test.YtjkpbmdkkdofkaaDoorLm
import Derived.Test.YtjkpbmdkkdofkaaDoorOp
import Derived.Lib.IndexBytes
set_option linter.unusedVariables false
set_option linter.unusedSimpArgs false
namespace Go.Proofs.YtjkpbmdkkdofkaaDoor.SpPure
open Go.RowKit Go.Proofs.YtjkpbmdkkdofkaaDoorW.PrintWords Go.Proofs.YtjkpbmdkkdofkaaDoor.PFnExactSpellText Go.Proofs.YtjkpbmdkkdofkaaDoor.Lm
theorem nums3 {a b i d n k1 k2 : Nat} (ha : a ≤ 601 * i) (hb : b ≤ 600) (h1 : i + (d + 1) = n) (hn : n ≤ 257) (h2 : d + 1 + 12000001 < k1 + 1) (h3 : d + 1 + 12000001 < k2 + 1) :
    a < 8796093022208 ∧ a + b < 8796093022208 ∧ a + 1 + b < 8796093022208 ∧ a + b ≤ 601 * (i + 1) ∧ a + 1 + b ≤ 601 * (i + 1) ∧ i + 1 + d = n ∧ d + 12000001 < k1 ∧ d + 12000001 < k2 ∧ i < n ∧ n ≤ 4194304 ∧ 12000001 ≤ k1 ∧ 12000001 ≤ k2 ∧ 256 < k1 ∧ 256 < k2 := by omega
theorem sp_l (l : List SI) (hl : l.length ≤ 48) (ho : ∀ x ∈ l, okR x) (hr : ∀ x ∈ l, rB x = true) (ws : List ByteArray) (hw : ws.length ≤ 257) (hp : ∀ p ∈ ws, p.size ≤ 256) (d : Nat) : ∀ (k1 k2 : Nat) (x6 : List ByteArray) (i : Nat), i + d = ws.length → x6.length ≤ 601 * i → d + 12000001 < k1 → d + 12000001 < k2 →
    ∃ r : List ByteArray × Bool, r.1.length ≤ 160000 ∧ spec_SpellText.l0 k1 l x6 ws (ws.length : Int) (i : Int) = some r ∧ impl_SpellText.l0 k2 l x6 ws (ws.length : Int) (i : Int) = some r := by
  induction d with
  | zero =>
    intro k1 k2 x6 i h1 h2 h3 h4
    obtain ⟨k1, rfl⟩ : ∃ m, k1 = m + 1 := ⟨k1 - 1, by omega⟩
    obtain ⟨k2, rfl⟩ : ∃ m, k2 = m + 1 := ⟨k2 - 1, by omega⟩
    refine ⟨(x6, true), by show x6.length ≤ 160000; omega, ?_, ?_⟩
    · rw [spec_SpellText.l0, if_neg (nlt (by omega))]
    · rw [impl_SpellText.l0, if_neg (nlt (by omega))]
  | succ d ih =>
    intro k1 k2 x6 i h1 h2 h3 h4
    obtain ⟨k1, rfl⟩ : ∃ m, k1 = m + 1 := ⟨k1 - 1, by omega⟩
    obtain ⟨k2, rfl⟩ : ∃ m, k2 = m + 1 := ⟨k2 - 1, by omega⟩
    have hi : i < ws.length := by omega
    have hz : (ws[i]'hi).size ≤ 256 := hp _ (List.getElem_mem hi)
    have hzb : (ws[i]'hi).size ≤ 4194304 := Nat.le_trans hz (by decide)
    obtain ⟨q1, q2, q3, q4, q5, q6, q7, q8, q9, q10, q11, q12, q13, q14⟩ := nums3 h2 (Nat.le_refl 600) h1 hw h3 h4
    have w1 := word_s (ws[i]'hi) hzb k1 (Nat.lt_of_le_of_lt hz q13)
    have w2 := word_i (ws[i]'hi) hzb k2 (Nat.lt_of_le_of_lt hz q14)
    have e1 := up hi q10
    rw [spec_SpellText.l0, if_pos (lt' hi), if_pos (nn i), if_pos (lt' hi), rdS_at hi, w1, Option.bind_some, impl_SpellText.l0, if_pos (lt' hi), if_pos (nn i), if_pos (lt' hi), rdS_at hi, w2, Option.bind_some]
    by_cases cw : wordB (ws[i]'hi) = true
    · obtain ⟨⟨s, ok⟩, s0, sb⟩ := sounds_both l hl ho hr (ws[i]'hi) (wordB_size cw)
      replace s0 : s.length ≤ 600 := s0
      rw [if_pos cw, if_pos cw, (sb k1 q11).1, (sb k2 q12).2, e1]
      clear w1 w2 e1 sb
      simp only [Option.bind_some]
      obtain ⟨-, n2, n3, n4, n5, -⟩ := nums3 h2 s0 h1 hw h3 h4
      cases ok with
      | false => exact ⟨([], false), by decide, by rw [if_neg Bool.false_ne_true], by rw [if_neg Bool.false_ne_true]⟩
      | true =>
        rw [if_pos rfl, if_pos rfl]
        by_cases c0 : (i : Int) > 0
        · have hy : (x6 ++ [(⟨#[114, 101, 115, 116]⟩ : ByteArray)]).length + s.length < 8796093022208 := by rw [List.length_append]; exact n3
          have hy2 : (x6 ++ [(⟨#[114, 101, 115, 116]⟩ : ByteArray)] ++ s).length ≤ 601 * (i + 1) := by rw [List.length_append, List.length_append]; exact n5
          rw [if_pos c0, if_pos q1, if_pos hy, if_pos c0, if_pos q1, if_pos hy]
          exact ih k1 k2 _ (i + 1) q6 hy2 q7 q8
        · have hy2 : (x6 ++ s).length ≤ 601 * (i + 1) := by rw [List.length_append]; exact n4
          rw [if_neg c0, if_pos n2, if_neg c0, if_pos n2]
          exact ih k1 k2 _ (i + 1) q6 hy2 q7 q8
    · exact ⟨([], false), by decide, by rw [if_neg cw], by rw [if_neg cw]⟩
theorem words_ok (t : ByteArray) (ht : t.size ≤ 256) : (cutB 32 t).length ≤ 257 ∧ ∀ p ∈ cutB 32 t, p.size ≤ 256 := by
  unfold cutB
  constructor
  · rw [List.length_map, cut_len]
    have : t.data.toList.count 32 ≤ t.data.toList.length := List.count_le_length
    rw [size_list] at this
    omega
  · intro p hp
    obtain ⟨q, hq, rfl⟩ := List.mem_map.1 hp
    have := cut_piece hq
    rw [size_list] at this
    rw [size_ba]
    omega
theorem both (l : List SI) (hl : l.length ≤ 1048576) (ho : ∀ x ∈ l, okR x) (t : ByteArray) (ht : t.size ≤ 1048576) : ∃ r : List ByteArray × Bool, r.1.length ≤ 160000 ∧ ∀ k, 14000001 ≤ k → spec_SpellText.f k l t = some r ∧ impl_SpellText.f k l t = some r := by
  by_cases c : rulesB l = true
  · by_cases d : (t.size : Int) > 256
    · refine ⟨([], false), by decide, fun k hk => ?_⟩
      obtain ⟨k, rfl⟩ : ∃ m, k = m + 1 := ⟨k - 1, by omega⟩
      unfold spec_SpellText.f impl_SpellText.f
      rw [rules_f l hl ho _ (by omega), Option.bind_some, if_pos c, areRules_f l hl ho _ (by omega), Option.bind_some, if_pos c, decide_eq_true d, spec_SpellText.j0, if_pos rfl, impl_SpellText.j0, if_pos rfl]
      exact ⟨rfl, rfl⟩
    · obtain ⟨hlen, hr⟩ := rulesB_parts c
      have ht2 : t.size ≤ 256 := by omega
      obtain ⟨p1, p2⟩ := words_ok t ht2
      obtain ⟨r, r0, r1, r2⟩ := sp_l l hlen ho hr (cutB 32 t) p1 p2 (cutB 32 t).length 14000000 14000000 [] 0 (by omega) (by decide) (by omega) (by omega)
      refine ⟨r, r0, fun k hk => ⟨at_rounds (g := fun k => spec_SpellText.f k l t) (spec_SpellText.mono l t) hk ?_, at_rounds (g := fun k => impl_SpellText.f k l t) (impl_SpellText.mono l t) hk ?_⟩⟩
      · have hc : spec_l01Cut.f 14000000 t 32 = some (cutB 32 t) := cut_spec t (by omega) 32 14000000 (by omega)
        have hj : spec_SpellText.j0 (14000000 + 1) l t false = some r := by
          rw [spec_SpellText.j0, if_neg Bool.false_ne_true, hc, Option.bind_some]; exact r1
        unfold spec_SpellText.f
        rw [rules_f l hl ho _ (by decide), Option.bind_some, if_pos c, decide_eq_false d]
        exact hj
      · have hc : strings_Split.f 14000000 t (⟨#[32]⟩ : ByteArray) = some (cutB 32 t) := split_some t (by omega) 32 14000000 (by omega)
        have hj : impl_SpellText.j0 (14000000 + 1) l t false = some r := by
          rw [impl_SpellText.j0, if_neg Bool.false_ne_true, hc, Option.bind_some]; exact r2
        unfold impl_SpellText.f
        rw [areRules_f l hl ho _ (by decide), Option.bind_some, if_pos c, decide_eq_false d]
        exact hj
  · refine ⟨([], false), by decide, fun k hk => ?_⟩
    obtain ⟨k, rfl⟩ : ∃ m, k = m + 1 := ⟨k - 1, by omega⟩
    unfold spec_SpellText.f impl_SpellText.f
    rw [rules_f l hl ho _ (by omega), Option.bind_some, if_neg c, areRules_f l hl ho _ (by omega), Option.bind_some, if_neg c, spec_SpellText.j0, if_pos rfl, impl_SpellText.j0, if_pos rfl]
    exact ⟨rfl, rfl⟩
theorem pure (l : List SL) (hl : l.length ≤ 9223372036854775807) (ho : ∀ x ∈ l, okS x) (w : ByteArray) : ∃ k, laws_FnExactSpellText.f k l w = some true := by
  obtain ⟨K, hK⟩ : ∃ K : Nat, K = 14000001 := ⟨_, rfl⟩
  refine ⟨K + 1 + 1 + 1, ?_⟩
  unfold laws_FnExactSpellText.f
  by_cases cw : (w.size : Int) > 1048576
  · rw [if_pos cw]
  obtain ⟨r0, h0, hr⟩ := szs l hl ho 1048576 (by decide) (by decide)
  rw [if_neg cw, hr _ (by omega), Option.bind_some]
  by_cases c : r0 < 0
  · rw [if_pos c]
  · obtain ⟨hlen, hok⟩ := h0.resolve_left c
    have hcl : (convR l).length ≤ 1048576 := by rw [convR_len]; exact hlen
    obtain ⟨⟨r, ok⟩, hr48, h⟩ := both (convR l) hcl hok w (by omega)
    replace hr48 : r.length ≤ 160000 := hr48
    obtain ⟨m, zs, hm, hm0⟩ := mr_some (convR l) hcl (K + 1 + 1) (by omega)
    have n0 : ¬ (((1 + r.length : Nat) : Int) < 0) := by omega
    rw [if_neg c, tos l hlen _ (by omega), Option.bind_some, (h _ (by omega)).1, Option.bind_some, Option.bind_some, (h _ (by omega)).2, Option.bind_some]
    dsimp only
    rw [eqSs r (by omega) _ (by omega), Option.bind_some, if_pos rfl, laws_FnExactSpellText.j0, if_neg (by simp), tos l hlen _ (by omega), Option.bind_some, eqRs _ hcl _ (by omega), Option.bind_some, if_pos rfl, hm, Option.bind_some]
    dsimp only
    rw [if_neg hm0, eqSs r (by omega) _ (by omega), Option.bind_some, if_pos rfl, laws_FnExactSpellText.j1, if_neg (by simp), markS_some r (by omega) _ (by omega), Option.bind_some]
    dsimp only
    rw [heldS_some r.length (by omega) _ (by omega), Option.bind_some, if_neg n0, if_pos rfl, tos l hlen _ (by omega), Option.bind_some, (h _ (by omega)).2, Option.bind_some]
    dsimp only
    rw [eqSs r (by omega) _ (by omega), Option.bind_some, if_pos rfl, laws_FnExactSpellText.j2, if_neg (by simp), heldS_some r.length (by omega) _ (by omega), Option.bind_some, if_neg n0, if_pos rfl]
end Go.Proofs.YtjkpbmdkkdofkaaDoor.SpPure
namespace Go.Proofs.YtjkpbmdkkdofkaaDoor
open Go.RowKit Go.Proofs.YtjkpbmdkkdofkaaDoorW.PrintWords Go.Proofs.YtjkpbmdkkdofkaaDoor.PFnExactSpellText Go.ChangeShapes Go.WideShapes
theorem opens_ruleS_spx : Opens Tryd.prog 23 k23 SpPure.okS :=
  opens_imp (opens_struct (P := Tryd.prog) (fun x : S23 => (x.f0, x.f1, x.f2, x.f3)) (fun x => ⟨x.1, x.2.1, x.2.2.1, x.2.2.2⟩) (fun _ => rfl) Tryd.underlying23 rfl (N := 4) (by kernel_rfl)
    (opensF_cons rfl (off' := 1) (by kernel_rfl) (opens_str Tryd.underlying9) (opensF_cons rfl (off' := 2) (by kernel_rfl) (opens_str Tryd.underlying9) (opensF_cons rfl (off' := 3) (by kernel_rfl) (opens_str Tryd.underlying9) (opensF_last rfl (by kernel_rfl) (opens_str Tryd.underlying9))))))
    (fun x h => h)
theorem opens_rules_spx : Opens Tryd.prog 37 (Kd.slice 23 k23) (fun l => l.length ≤ 9223372036854775807 ∧ l.length * 64 ≤ 140737488351232 ∧ ∀ x ∈ l, SpPure.okS x) :=
  opens_slice _ Tryd.underlying37 (by kernel_rfl) (by kernel_rfl) opens_ruleS_spx
theorem spellText_w (A0 : Option Addr) (c0 : Nat) (l0 : List S23) (a1 : ByteArray) (w : World) (hr0 : Kd.C k23 w A0 l0.length l0) (hc0 : l0.length ≤ c0) (z0 : l0.length ≤ 9223372036854775807 ∧ l0.length * 64 ≤ 140737488351232 ∧ ∀ x ∈ l0, SpPure.okS x) (w1 : a1.size ≤ 140737488351232) :
    Calls Tryd.prog 10 #[.slice A0 l0.length c0, .string a1] w fun e w' => e = .returned (.bool true) ∧ Below w.heap.size w w' := by
  obtain ⟨k, hk⟩ := SpPure.pure l0 z0.1 z0.2.2 a1
  exact laws_FnExactSpellText.calls k A0 c0 l0 a1 true w hr0 hc0 hk
end Go.Proofs.YtjkpbmdkkdofkaaDoor
