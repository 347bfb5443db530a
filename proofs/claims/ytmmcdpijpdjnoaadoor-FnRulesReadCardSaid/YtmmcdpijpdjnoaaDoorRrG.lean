import Derived.Test.YtmmcdpijpdjnoaaDoorRrF
set_option linter.unusedVariables false
set_option linter.unusedSimpArgs false
namespace Go.Proofs.YtmmcdpijpdjnoaaDoor.RrPure
open Go.RowKit Go.Proofs.YtmmcdpijpdjnoaaDoorW.PrintWords Go.Proofs.YtmmcdpijpdjnoaaDoor.PFnRulesRead Go.Proofs.YtmmcdpijpdjnoaaDoor.Lm
def Byts (l : List Int) : Prop := ∀ x ∈ l, 0 ≤ x ∧ x < 256
theorem byts_rd {l : List Int} (h : Byts l) (i : Int) : 0 ≤ rd l i ∧ rd l i < 256 := by
  unfold rd
  rw [List.getD_eq_getElem?_getD]
  rcases hh : l[i.toNat]? with _ | x
  · decide
  · exact h x (List.mem_of_getElem? hh)
theorem bits255 (x : Int) : 0 ≤ wrap64 (Go.bits .and .u64 x 255) ∧ wrap64 (Go.bits .and .u64 x 255) < 256 := by
  have h : Go.bits .and .u64 x 255 = IntKind.u64.wrap ((BitVec.ofInt 64 x &&& BitVec.ofInt 64 255).toNat : Int) := rfl
  have h2 : (BitVec.ofInt 64 x &&& BitVec.ofInt 64 255).toNat < 256 := by
    rw [BitVec.toNat_and]
    exact Nat.lt_of_le_of_lt Nat.and_le_right (by decide)
  generalize (BitVec.ofInt 64 x &&& BitVec.ofInt 64 255).toNat = y at h h2
  rw [h]
  have h3 : IntKind.u64.wrap (y : Int) = (y : Int) := by rw [IntKind.wrap_u64]; omega
  rw [h3]
  unfold wrap64
  omega
theorem next_some (c : List Int) (hb : Byts c) (hc : c.length ≤ 1048576) (a s : Int) (h0 : 0 ≤ a) (h1 : a ≤ 100000000) : ∃ r s', spec_l00Src_next.f c a s = some (r, a + 1, s') ∧ 0 ≤ r ∧ r < 256 := by
  have e1 : wrap64 (a + 1) = a + 1 := by unfold wrap64; omega
  unfold spec_l00Src_next.f
  rw [e1]
  by_cases c1 : a < (c.length : Int)
  · rw [if_pos c1, if_pos h0, if_pos (by omega)]
    obtain ⟨g0, g1⟩ := byts_rd hb a
    refine ⟨_, _, rfl, ?_⟩
    generalize rd c a = z at *
    have : wrap64 z = z := by unfold wrap64; omega
    rw [this]; exact ⟨g0, g1⟩
  · rw [if_neg c1, if_neg (by omega)]
    exact ⟨_, _, rfl, bits255 _⟩
theorem pick_some (c : List Int) (hb : Byts c) (hc : c.length ≤ 1048576) (a s n : Int) (h0 : 0 ≤ a) (h1 : a ≤ 90000000) (hn : 1 < n) (hn2 : n ≤ 65536) : ∃ r a' s', spec_l00Src_pick.f c a s n = some (r, a', s') ∧ 0 ≤ r ∧ r < n ∧ a ≤ a' ∧ a' ≤ a + 2 := by
  obtain ⟨r, s1, e1, g1, g2⟩ := next_some c hb hc a s h0 (by omega)
  unfold spec_l00Src_pick.f
  rw [if_neg (by omega), e1, Option.bind_some]
  dsimp only
  by_cases c1 : n > 200
  · obtain ⟨r2, s2, e2, g3, g4⟩ := next_some c hb hc (a + 1) s1 (by omega) (by omega)
    rw [if_pos c1, e2, Option.bind_some, if_neg (by omega)]
    have h3 : wrap64 (wrap64 (r * 256) + r2) = r * 256 + r2 := by unfold wrap64; omega
    refine ⟨_, _, _, rfl, ?_, ?_, by dsimp only; clear h3; omega, by dsimp only; clear h3; omega⟩
    · dsimp only; rw [h3, Int.tmod_eq_emod_of_nonneg (by omega)]; exact Int.emod_nonneg _ (by omega)
    · dsimp only; rw [h3, Int.tmod_eq_emod_of_nonneg (by omega)]; exact Int.emod_lt_of_pos _ (by omega)
  · rw [if_neg c1, if_neg (by omega)]
    refine ⟨_, _, _, rfl, ?_, ?_, by omega, by omega⟩
    · rw [Int.tmod_eq_emod_of_nonneg g1]; exact Int.emod_nonneg _ (by omega)
    · rw [Int.tmod_eq_emod_of_nonneg g1]; exact Int.emod_lt_of_pos _ (by omega)
theorem one_some (c : List Int) (hb : Byts c) (hc : c.length ≤ 1048576) (a s n : Int) (h0 : 0 ≤ a) (h1 : a ≤ 90000000) (hn : 1 < n) (hn2 : n ≤ 65536) : ∃ r a' s', spec_l00Src_one.f c a s n = some (r, a', s') ∧ a ≤ a' ∧ a' ≤ a + 2 := by
  obtain ⟨r, a', s', e, -, -, g1, g2⟩ := pick_some c hb hc a s n h0 h1 hn hn2
  unfold spec_l00Src_one.f
  rw [e]
  exact ⟨_, _, _, rfl, g1, g2⟩
theorem text_some (c : List Int) (hb : Byts c) (hc : c.length ≤ 1048576) (a s : Int) (l : List ByteArray) (hl : 1 < l.length) (hl2 : l.length ≤ 65536) (h0 : 0 ≤ a) (h1 : a ≤ 90000000) : ∃ (r : ByteArray) (a' s' : Int), spec_l00Src_text.f c a s l = some (r, a', s') ∧ r ∈ l ∧ a ≤ a' ∧ a' ≤ a + 2 := by
  obtain ⟨r, a', s', e, g3, g4, g1, g2⟩ := pick_some c hb hc a s (l.length : Int) h0 h1 (by omega) (by omega)
  unfold spec_l00Src_text.f
  rw [e, Option.bind_some, if_pos g3, if_pos g4]
  refine ⟨_, _, _, rfl, ?_, g1, g2⟩
  dsimp only
  unfold rdOf
  rw [List.getD_eq_getElem?_getD, List.getElem?_eq_getElem (by omega)]
  exact List.getElem_mem _
theorem small_mem {l : List ByteArray} (h : l.all (fun t => decide (t.size ≤ 10)) = true) {r : ByteArray} (hr : r ∈ l) : r.size ≤ 10 := of_decide_eq_true (List.all_eq_true.1 h r hr)
theorem j1_some (c : List Int) (hb : Byts c) (hc : c.length ≤ 1048576) (a s : Int) (b l af : ByteArray) (x3 : ByteArray) (hs : b.size ≤ 10 ∧ l.size ≤ 10 ∧ af.size ≤ 10) (h0 : 0 ≤ a) (h1 : a ≤ 80000000) (k : Nat) :
    ∃ (x : SI) (a' s' : Int), spec_l07DrawRule.j1 (k + 1) c a s b l af x3 = some (x.f0, x.f1, x.f2, x.f3, a', s') ∧ (x.f0.size ≤ 10 ∧ x.f1.size ≤ 10 ∧ x.f2.size ≤ 10 ∧ x.f3.size ≤ 10) ∧ a ≤ a' ∧ a' ≤ a + 8 := by
  rw [spec_l07DrawRule.j1]
  obtain ⟨t, a1, s1, e1, m1, g1, g2⟩ := text_some c hb hc a s ([(⟨#[]⟩ : ByteArray), (⟨#[97]⟩ : ByteArray), (⟨#[101, 101]⟩ : ByteArray), (⟨#[116, 46, 104]⟩ : ByteArray), (⟨#[115]⟩ : ByteArray), (⟨#[111, 104, 46, 109]⟩ : ByteArray), (⟨#[110]⟩ : ByteArray)] : List ByteArray) (by simp) (by simp) h0 (by omega)
  have z1 := small_mem (by decide) m1
  obtain ⟨r, a2, s2, e2, -, -, g3, g4⟩ := pick_some c hb hc a1 s1 36 (by omega) (by omega) (by decide) (by decide)
  rw [e1, Option.bind_some]
  dsimp only
  rw [e2, Option.bind_some]
  dsimp only
  by_cases c1 : r = 0
  · obtain ⟨u, a3, s3, e3, m3, g5, g6⟩ := text_some c hb hc a2 s2 ([(⟨#[118]⟩ : ByteArray), (⟨#[88]⟩ : ByteArray), (⟨#[86, 86, 86, 86]⟩ : ByteArray), (⟨#[91]⟩ : ByteArray)] : List ByteArray) (by simp) (by simp) (by omega) (by omega)
    rw [if_pos c1, e3]
    exact ⟨⟨u, l, af, t⟩, _, _, rfl, ⟨small_mem (by decide) m3, hs.2.1, hs.2.2, z1⟩, by dsimp only; omega, by dsimp only; omega⟩
  · rw [if_neg c1]
    by_cases c2 : r = 1
    · obtain ⟨u, a3, s3, e3, m3, g5, g6⟩ := text_some c hb hc a2 s2 ([(⟨#[]⟩ : ByteArray), (⟨#[65]⟩ : ByteArray), (⟨#[97, 98, 99, 100, 101]⟩ : ByteArray)] : List ByteArray) (by simp) (by simp) (by omega) (by omega)
      rw [if_pos c2, e3]
      exact ⟨⟨b, u, af, t⟩, _, _, rfl, ⟨hs.1, small_mem (by decide) m3, hs.2.2, z1⟩, by dsimp only; omega, by dsimp only; omega⟩
    · rw [if_neg c2]
      by_cases c3 : r = 2
      · obtain ⟨u, a3, s3, e3, m3, g5, g6⟩ := text_some c hb hc a2 s2 ([(⟨#[46]⟩ : ByteArray), (⟨#[97, 46]⟩ : ByteArray), (⟨#[97, 98, 99, 100, 101]⟩ : ByteArray), (⟨#[97, 46, 46, 98]⟩ : ByteArray), (⟨#[65]⟩ : ByteArray)] : List ByteArray) (by simp) (by simp) (by omega) (by omega)
        rw [if_pos c3, e3]
        exact ⟨⟨b, l, af, u⟩, _, _, rfl, ⟨hs.1, hs.2.1, hs.2.2, small_mem (by decide) m3⟩, by dsimp only; omega, by dsimp only; omega⟩
      · rw [if_neg c3]
        exact ⟨⟨b, l, af, t⟩, _, _, rfl, ⟨hs.1, hs.2.1, hs.2.2, z1⟩, by omega, by omega⟩
theorem j0_some (c : List Int) (hb : Byts c) (hc : c.length ≤ 1048576) (a s : Int) (b l x2 x3 : ByteArray) (hs : b.size ≤ 10 ∧ l.size ≤ 10 ∧ x2.size ≤ 10) (h0 : 0 ≤ a) (h1 : a ≤ 70000000) (k : Nat) :
    ∃ (x : SI) (a' s' : Int), spec_l07DrawRule.j0 (k + 1 + 1) c a s b l x2 x3 = some (x.f0, x.f1, x.f2, x.f3, a', s') ∧ (x.f0.size ≤ 10 ∧ x.f1.size ≤ 10 ∧ x.f2.size ≤ 10 ∧ x.f3.size ≤ 10) ∧ a ≤ a' ∧ a' ≤ a + 12 := by
  rw [spec_l07DrawRule.j0]
  obtain ⟨q, a1, s1, e1, g1, g2⟩ := one_some c hb hc a s 3 h0 (by omega) (by decide) (by decide)
  rw [e1, Option.bind_some]
  dsimp only
  cases q with
  | true =>
    obtain ⟨u, a3, s3, e3, m3, g5, g6⟩ := text_some c hb hc a1 s1 ([(⟨#[86]⟩ : ByteArray), (⟨#[67]⟩ : ByteArray), (⟨#[45]⟩ : ByteArray), (⟨#[101]⟩ : ByteArray), (⟨#[67, 45]⟩ : ByteArray), (⟨#[86, 67]⟩ : ByteArray), (⟨#[45, 45]⟩ : ByteArray)] : List ByteArray) (by simp) (by simp) (by omega) (by omega)
    rw [if_pos rfl, e3, Option.bind_some]
    dsimp only
    obtain ⟨x, a4, s4, e4, hz, g7, g8⟩ := j1_some c hb hc a3 s3 b l u x3 ⟨hs.1, hs.2.1, small_mem (by decide) m3⟩ (by omega) (by omega) k
    exact ⟨x, a4, s4, e4, hz, by omega, by omega⟩
  | false =>
    rw [if_neg (by decide)]
    obtain ⟨x, a4, s4, e4, hz, g7, g8⟩ := j1_some c hb hc a1 s1 b l x2 x3 hs (by omega) (by omega) k
    exact ⟨x, a4, s4, e4, hz, by omega, by omega⟩
theorem rule_some (c : List Int) (hb : Byts c) (hc : c.length ≤ 1048576) (a s : Int) (h0 : 0 ≤ a) (h1 : a ≤ 60000000) (k : Nat) (hk : 2 ≤ k) :
    ∃ (x : SI) (a' s' : Int), spec_l07DrawRule.f k c a s = some (x.f0, x.f1, x.f2, x.f3, a', s') ∧ (x.f0.size ≤ 10 ∧ x.f1.size ≤ 10 ∧ x.f2.size ≤ 10 ∧ x.f3.size ≤ 10) ∧ a ≤ a' ∧ a' ≤ a + 20 := by
  obtain ⟨k, rfl⟩ : ∃ q, k = q + 1 + 1 := ⟨k - 2, by omega⟩
  obtain ⟨t, a1, s1, e1, m1, g1, g2⟩ := text_some c hb hc a s ([(⟨#[97]⟩ : ByteArray), (⟨#[101]⟩ : ByteArray), (⟨#[111]⟩ : ByteArray), (⟨#[116]⟩ : ByteArray), (⟨#[115]⟩ : ByteArray), (⟨#[109]⟩ : ByteArray), (⟨#[116, 104]⟩ : ByteArray), (⟨#[101, 101]⟩ : ByteArray), (⟨#[110]⟩ : ByteArray), (⟨#[121]⟩ : ByteArray)] : List ByteArray) (by simp) (by simp) h0 (by omega)
  have z1 := small_mem (by decide) m1
  obtain ⟨q, a2, s2, e2, g3, g4⟩ := one_some c hb hc a1 s1 3 (by omega) (by omega) (by decide) (by decide)
  have ze : (⟨#[]⟩ : ByteArray).size ≤ 10 := by decide
  unfold spec_l07DrawRule.f
  rw [e1, Option.bind_some]
  dsimp only
  rw [e2, Option.bind_some]
  dsimp only
  cases q with
  | true =>
    obtain ⟨u, a3, s3, e3, m3, g5, g6⟩ := text_some c hb hc a2 s2 ([(⟨#[86]⟩ : ByteArray), (⟨#[67]⟩ : ByteArray), (⟨#[45]⟩ : ByteArray), (⟨#[97]⟩ : ByteArray), (⟨#[45, 67]⟩ : ByteArray), (⟨#[67, 86]⟩ : ByteArray), (⟨#[116]⟩ : ByteArray)] : List ByteArray) (by simp) (by simp) (by omega) (by omega)
    rw [if_pos rfl, e3, Option.bind_some]
    dsimp only
    obtain ⟨x, a4, s4, e4, hz, g7, g8⟩ := j0_some c hb hc a3 s3 u t ⟨#[]⟩ ⟨#[]⟩ ⟨small_mem (by decide) m3, z1, ze⟩ (by omega) (by omega) k
    exact ⟨x, a4, s4, e4, hz, by omega, by omega⟩
  | false =>
    rw [if_neg (by decide)]
    obtain ⟨x, a4, s4, e4, hz, g7, g8⟩ := j0_some c hb hc a2 s2 ⟨#[]⟩ t ⟨#[]⟩ ⟨#[]⟩ ⟨ze, z1, ze⟩ (by omega) (by omega) k
    exact ⟨x, a4, s4, e4, hz, by omega, by omega⟩
theorem rulesl_some (c : List Int) (hb : Byts c) (hc : c.length ≤ 1048576) : ∀ (d k : Nat) (a s : Int) (x4 : List SI), x4.length + d ≤ 10 → (∀ x ∈ x4, rB x = true) → 0 ≤ a → a + 30 * (d : Int) ≤ 50000000 → d + 8388700 < k →
    ∃ ds : List SI, spec_B10Rules.l0 k x4 (d : Int) c a s = some (ds ++ plain) ∧ ds.length ≤ 10 ∧ ∀ x ∈ ds, rB x = true
  | d, 0, a, s, x4, _, _, _, _, hk => by omega
  | 0, k + 1, a, s, x4, hx, hr, h0, h1, hk => by
    rw [spec_B10Rules.l0, if_neg (by omega), plain_s k (by omega), Option.bind_some, if_pos (by rw [plain_len]; omega)]
    exact ⟨x4, rfl, by omega, hr⟩
  | d + 1, k + 1, a, s, x4, hx, hr, h0, h1, hk => by
    obtain ⟨x, a1, s1, e1, hz, g1, g2⟩ := rule_some c hb hc a s h0 (by omega) k (by omega)
    have hrs : spec_l07Rule.f k [(⟨x.f0, x.f1, x.f2, x.f3⟩ : SI)] = some (rB x) := rule_s x.f0 x.f1 x.f2 x.f3 (by omega) (by omega) (by omega) (by omega) k (by omega)
    have e3 : wrap64 (((d + 1 : Nat) : Int) - 1) = (d : Int) := by unfold wrap64; omega
    rw [spec_B10Rules.l0, if_pos (by omega), e1, Option.bind_some]
    dsimp only
    rw [hrs, Option.bind_some, e3]
    by_cases cb : rB x = true
    · rw [if_pos cb, if_pos (by omega)]
      exact rulesl_some c hb hc d k a1 s1 (x4 ++ [⟨x.f0, x.f1, x.f2, x.f3⟩]) (by rw [List.length_append, List.length_singleton]; omega) (fun y hy => by
        rcases List.mem_append.1 hy with h | h
        · exact hr y h
        · rw [List.mem_singleton.1 h]; exact cb) (by omega) (by omega) (by omega)
    · rw [if_neg cb]
      exact rulesl_some c hb hc d k a1 s1 x4 (by omega) hr (by omega) (by omega) (by omega)
theorem rules_some (c : List Int) (hb : Byts c) (hc : c.length ≤ 1048576) : ∃ ds : List SI, ds.length ≤ 10 ∧ (∀ x ∈ ds, rB x = true) ∧ ∀ k, 8388800 ≤ k → spec_B10Rules.f k c = some (ds ++ plain) := by
  obtain ⟨n, a2, s2, e2, g5, g6, g7, g8⟩ := pick_some c hb hc 0 0 8 (by decide) (by decide) (by decide) (by decide)
  obtain ⟨d, hd⟩ : ∃ d : Nat, n = (d : Int) := ⟨n.toNat, by omega⟩
  obtain ⟨K, hK⟩ : ∃ K : Nat, K = 8388800 := ⟨_, rfl⟩
  obtain ⟨ds, e4, k1, k2⟩ := rulesl_some c hb hc d K a2 s2 [] (by rw [List.length_nil]; omega) (fun x h => by cases h) (by omega) (by omega) (by omega)
  refine ⟨ds, k1, k2, fun k hk => at_rounds (g := fun k => spec_B10Rules.f k c) (spec_B10Rules.mono _) (show K ≤ k by omega) ?_⟩
  unfold spec_B10Rules.f spec_l00From.f
  rw [Option.bind_some]
  dsimp only
  rw [e2, Option.bind_some]
  dsimp only
  rw [hd]
  exact e4
theorem alph_app (a b : ByteArray) : alph (a ++ b) = (alph a && alph b) := by
  unfold alph
  rw [ByteArray.data_append, Array.toList_append, List.all_append]
theorem wordl_some (c : List Int) (hb : Byts c) (hc : c.length ≤ 1048576) : ∀ (d k : Nat) (a s : Int) (x4 : ByteArray) (n : Nat), n + d ≤ 6 → n ≤ x4.size → x4.size ≤ 2 * n → alph x4 = true → 0 ≤ a → a + 30 * (d : Int) ≤ 50000000 → d < k →
    ∃ w : ByteArray, spec_B10Word.l0 k x4 (d : Int) c a s = some w ∧ n + d ≤ w.size ∧ w.size ≤ 12 ∧ alph w = true
  | d, 0, a, s, x4, n, _, _, _, _, _, _, hk => by omega
  | 0, k + 1, a, s, x4, n, hn, h1, h2, ha, h0, _, hk => by
    rw [spec_B10Word.l0, if_neg (by omega)]
    exact ⟨x4, rfl, by omega, by omega, ha⟩
  | d + 1, k + 1, a, s, x4, n, hn, h1, h2, ha, h0, h3, hk => by
    obtain ⟨t, a1, s1, e1, m1, g1, g2⟩ := text_some c hb hc a s ([(⟨#[97]⟩ : ByteArray), (⟨#[101]⟩ : ByteArray), (⟨#[111]⟩ : ByteArray), (⟨#[116]⟩ : ByteArray), (⟨#[115]⟩ : ByteArray), (⟨#[109]⟩ : ByteArray), (⟨#[116, 104]⟩ : ByteArray), (⟨#[101, 101]⟩ : ByteArray), (⟨#[110]⟩ : ByteArray), (⟨#[121]⟩ : ByteArray)] : List ByteArray) (by simp) (by simp) h0 (by omega)
    have hall : (([(⟨#[97]⟩ : ByteArray), (⟨#[101]⟩ : ByteArray), (⟨#[111]⟩ : ByteArray), (⟨#[116]⟩ : ByteArray), (⟨#[115]⟩ : ByteArray), (⟨#[109]⟩ : ByteArray), (⟨#[116, 104]⟩ : ByteArray), (⟨#[101, 101]⟩ : ByteArray), (⟨#[110]⟩ : ByteArray), (⟨#[121]⟩ : ByteArray)] : List ByteArray).all fun t => alph t && decide (1 ≤ t.size ∧ t.size ≤ 2)) = true := by decide
    have ht := List.all_eq_true.1 hall t m1
    rw [Bool.and_eq_true, decide_eq_true_iff] at ht
    obtain ⟨t1, t2, t3⟩ := ht
    have hz : (x4 ++ t).size = x4.size + t.size := ByteArray.size_append
    have e3 : wrap64 (((d + 1 : Nat) : Int) - 1) = (d : Int) := by unfold wrap64; omega
    rw [spec_B10Word.l0, if_pos (by omega), e1, Option.bind_some]
    dsimp only
    rw [if_pos (by omega), e3]
    obtain ⟨w, q1, q2, q3, q4⟩ := wordl_some c hb hc d k a1 s1 (x4 ++ t) (n + 1) (by omega) (by omega) (by omega) (by rw [alph_app, ha, t1]; rfl) (by omega) (by omega) (by omega)
    exact ⟨w, q1, by omega, q3, q4⟩
theorem word_some (c : List Int) (hb : Byts c) (hc : c.length ≤ 1048576) : ∃ w : ByteArray, wordB w = true ∧ ∀ k, 20 ≤ k → spec_B10Word.f k c = some w := by
  obtain ⟨n, a2, s2, e2, g5, g6, g7, g8⟩ := pick_some c hb hc 0 0 6 (by decide) (by decide) (by decide) (by decide)
  obtain ⟨d, hd⟩ : ∃ d : Nat, n = (d : Int) := ⟨n.toNat, by omega⟩
  have e3 : wrap64 (1 + n) = ((d + 1 : Nat) : Int) := by rw [hd]; unfold wrap64; omega
  obtain ⟨w, e4, k1, k2, k3⟩ := wordl_some c hb hc (d + 1) 20 a2 s2 ⟨#[]⟩ 0 (by clear e3; omega) (Nat.zero_le _) (Nat.zero_le _) rfl (by clear e3; omega) (by clear e3; omega) (by clear e3; omega)
  refine ⟨w, ?_, fun k hk => at_rounds (g := fun k => spec_B10Word.f k c) (spec_B10Word.mono _) hk ?_⟩
  · unfold wordB
    rw [k3, decide_eq_true (by clear e3; omega)]
    rfl
  · unfold spec_B10Word.f spec_l00From.f
    rw [Option.bind_some]
    dsimp only
    rw [e2, Option.bind_some]
    dsimp only
    rw [e3]
    exact e4
theorem byts_wf {l : List Int} (h : ∀ n ∈ l, (Lit.int .u8 n).wf = true) : Byts l := fun x hx => by
  have h1 := h x hx
  rw [Lit.wf, Bool.and_eq_true] at h1
  have h2 : (0 : Int) ≤ x := of_decide_eq_true h1.1
  have h3 : x ≤ (255 : Int) := of_decide_eq_true h1.2
  omega
theorem pure : laws_FnRulesRead.Pure := by
  intro l0 l1 _ _ hw0 _ _ hw1
  have hb0 := byts_wf hw0
  have hb1 := byts_wf hw1
  by_cases c0 : (l0.length : Int) > 1048576
  · refine ⟨0, ?_⟩
    unfold laws_FnRulesRead.f laws_b10Long.f
    rw [if_pos c0]; rfl
  by_cases c1 : (l1.length : Int) > 1048576
  · refine ⟨0, ?_⟩
    unfold laws_FnRulesRead.f laws_b10Long.f
    rw [if_neg c0, decide_eq_true c1]; rfl
  obtain ⟨ds, d1, d2, d3⟩ := rules_some l0 hb0 (by omega)
  obtain ⟨w, hw, w2⟩ := word_some l1 hb1 (by omega)
  have hl : (ds ++ plain).length ≤ 48 := by rw [List.length_append, plain_len]; omega
  have hr : ∀ x ∈ ds ++ plain, rB x = true := fun x hx => by
    rcases List.mem_append.1 hx with h | h
    · exact d2 x h
    · exact plain_rB x h
  have hc := cov_plain ds w hw
  obtain ⟨dl, q1, q2, q3⟩ := dead_i (ds ++ plain) hl hr
  have hfl := fr_len (ds ++ plain) w 24 0
  obtain ⟨K, hK⟩ : ∃ K : Nat, K = 14000010 := ⟨_, rfl⟩
  have ht := tail_i (ds ++ plain) hl hr w hw hc dl (fr (ds ++ plain) w 24 0) K (by omega)
  have h1 := l1_i (ds ++ plain) w (snds (ds ++ plain) w) dl hl hr hw hc q1 q2 (fr (ds ++ plain) w 24 0) hfl ⟨K + 1 + 1, by omega, ht⟩ 24 0 0 (by rw [List.drop_zero]) (Nat.zero_le _) (by have := wordB_size hw; omega)
  obtain ⟨k, hk, h⟩ := l0_i (ds ++ plain) w hl hr hw hc dl q3 h1 (ds ++ plain).length 0 (by omega)
  refine ⟨k, ?_⟩
  unfold laws_FnRulesRead.f laws_b10Long.f
  rw [if_neg c0, decide_eq_false c1, Option.bind_some, if_neg (by decide), d3 k (by omega), Option.bind_some, w2 k (by omega), Option.bind_some]
  rw [List.take_zero] at h
  exact h
end Go.Proofs.YtmmcdpijpdjnoaaDoor.RrPure
