import Derived.Test.YtmmcdpijpdjnoaaDoorRrB
set_option linter.unusedVariables false
set_option linter.unusedSimpArgs false
namespace Go.Proofs.YtmmcdpijpdjnoaaDoor.RrPure
open Go.RowKit Go.Proofs.YtmmcdpijpdjnoaaDoorW.PrintWords Go.Proofs.YtmmcdpijpdjnoaaDoor.PFnRulesRead Go.Proofs.YtmmcdpijpdjnoaaDoor.Lm
theorem rB_small {x : SI} (h : rB x = true) : x.f0.size ≤ 3 ∧ x.f1.size ≤ 4 ∧ x.f2.size ≤ 3 ∧ x.f3.size ≤ 24 ∧ 1 ≤ x.f1.size := by
  have hn := rB_name h
  have h2 : ruleB x.f0 x.f1 x.f2 x.f3 = true := h
  obtain ⟨h3, h4, h5⟩ := rule_parts h2
  unfold nameB at h3
  unfold signsB at h4 h5
  rw [Bool.and_eq_true, decide_eq_true_iff] at h3 h4 h5
  refine ⟨h4.2, h3.2.2, h5.2, ?_, hn⟩
  by_cases c : x.f3.size = 0
  · omega
  · exact (sn_split h c).2
theorem rB_ok {x : SI} (h : rB x = true) : okR x := by
  obtain ⟨h1, h2, h3, h4, -⟩ := rB_small h
  exact ⟨by omega, by omega, by omega, by omega⟩
theorem read_back (x : SI) (h : rB x = true) (k : Nat) (hk : 8388620 < k) : impl_RuleText.f k x.f0 x.f1 x.f2 x.f3 = some (rtext x.f0 x.f1 x.f2 x.f3, true) ∧ impl_ReadRule.f k (rtext x.f0 x.f1 x.f2 x.f3) = some (x.f0, x.f1, x.f2, x.f3, true) ∧ impl_ValidRule.f k x.f0 x.f1 x.f2 x.f3 = some true := by
  obtain ⟨s1, s2, s3, s4, -⟩ := rB_small h
  have h2 : ruleB x.f0 x.f1 x.f2 x.f3 = true := h
  obtain ⟨h3, h4, h5⟩ := rule_parts h2
  have hv := rule_i x.f0 x.f1 x.f2 x.f3 (by omega) (by omega) (by omega) (by omega) k hk
  rw [h2] at hv
  have hz := rtext_size x.f0 x.f1 x.f2 x.f3
  refine ⟨?_, ?_, hv⟩
  · rw [text_ii x.f0 x.f1 x.f2 x.f3 (by omega) (by omega) (by omega) (by omega) k hk, if_pos h2]
  · have c1 : strings_Cut.f (rtext x.f0 x.f1 x.f2 x.f3) (⟨#[91]⟩ : ByteArray) = some (ba x.f0.data.toList, ba (x.f1.data.toList ++ 93 :: (x.f2.data.toList ++ 61 :: x.f3.data.toList)), true) :=
      cutF_hit _ (by omega) 91 x.f0.data.toList _ (rtext_list _ _ _ _) (signs_no h4 91 (by decide))
    have c2 : strings_Cut.f (ba (x.f1.data.toList ++ 93 :: (x.f2.data.toList ++ 61 :: x.f3.data.toList))) (⟨#[93]⟩ : ByteArray) = some (ba x.f1.data.toList, ba (x.f2.data.toList ++ 61 :: x.f3.data.toList), true) :=
      cutF_hit _ (by rw [size_ba]; simp only [List.length_append, List.length_cons, size_list]; omega) 93 x.f1.data.toList _ rfl (name_no h3 93 (by decide))
    have c3 : strings_Cut.f (ba (x.f2.data.toList ++ 61 :: x.f3.data.toList)) (⟨#[61]⟩ : ByteArray) = some (ba x.f2.data.toList, ba x.f3.data.toList, true) :=
      cutF_hit _ (by rw [size_ba]; simp only [List.length_append, List.length_cons, size_list]; omega) 61 x.f2.data.toList _ rfl (signs_no h5 61 (by decide))
    unfold impl_ReadRule.f
    rw [c1, Option.bind_some]
    dsimp only
    rw [c2, Option.bind_some]
    dsimp only
    rw [c3, Option.bind_some]
    dsimp only
    rw [ba_list, ba_list, ba_list, ba_list, hv, Option.bind_some, if_pos rfl, text_i x.f0 x.f1 x.f2 x.f3 (by omega) (by omega) (by omega) (by omega), Option.bind_some, if_pos rfl]
theorem fi_first (m : SI → Bool) : ∀ (l : List SI) (i j : Nat), fi m l i = some j → ∃ e, j = i + e ∧ ∃ h : e < l.length, m l[e] = true ∧ ∀ q, (hq : q < e) → m (l[q]'(Nat.lt_trans hq h)) = false
  | [], i, j, h => by rw [fi] at h; cases h
  | x :: xs, i, j, h => by
    rw [fi] at h
    by_cases c : m x = true
    · rw [if_pos c] at h
      cases h
      exact ⟨0, rfl, Nat.zero_lt_succ _, c, fun q hq => absurd hq (Nat.not_lt_zero _)⟩
    · rw [if_neg c] at h
      obtain ⟨e, he, hl, hm, hf⟩ := fi_first m xs (i + 1) j h
      refine ⟨e + 1, by omega, Nat.succ_lt_succ hl, hm, fun q hq => ?_⟩
      cases q with
      | zero => exact Bool.eq_false_iff.mpr c
      | succ q => exact hf q (Nat.lt_of_succ_lt_succ hq)
theorem fi_some (m : SI → Bool) : ∀ (l : List SI) (i : Nat) (x : SI), x ∈ l → m x = true → ∃ j, fi m l i = some j
  | [], i, x, h, _ => by cases h
  | y :: l, i, x, h, hm => by
    rw [fi]
    by_cases c : m y = true
    · rw [if_pos c]; exact ⟨i, rfl⟩
    · rw [if_neg c]
      rcases List.mem_cons.1 h with rfl | h
      · exact absurd hm c
      · exact fi_some m l (i + 1) x h hm
def toI (l : List Nat) : List Int := l.map (fun (j : Nat) => (j : Int))
theorem toI_nil : toI [] = [] := rfl
theorem toI_cons (j : Nat) (l : List Nat) : toI (j :: l) = (j : Int) :: toI l := rfl
theorem toI_len (l : List Nat) : (toI l).length = l.length := List.length_map _
theorem toI_rd (l : List Nat) (i : Nat) (h : i < l.length) : rd (toI l) (i : Int) = (l[i] : Int) := by
  unfold rd toI
  rw [Int.toNat_natCast, List.getD_eq_getElem?_getD, List.getElem?_map, List.getElem?_eq_getElem h]; rfl
def fr (rs : List SI) (w : ByteArray) : Nat → Nat → List Nat
  | 0, _ => []
  | d + 1, p => if p < w.size then (match fi (mR w p) rs 0 with | some j => j :: fr rs w d (p + (rd_T30 rs (j : Int)).f1.size) | none => []) else []
theorem fr_len (rs : List SI) (w : ByteArray) : ∀ d p, (fr rs w d p).length ≤ d
  | 0, p => Nat.zero_le _
  | d + 1, p => by
    rw [fr]
    split
    · split
      · rw [List.length_cons]; have := fr_len rs w d (p + (rd_T30 rs (by assumption : Nat)).f1.size); omega
      · exact Nat.zero_le _
    · exact Nat.zero_le _
def Cov (rs : List SI) (w : ByteArray) : Prop := ∀ p, p < w.size → ∃ j, fi (mR w p) rs 0 = some j
theorem for_i (rs : List SI) (hl : rs.length ≤ 48) (hr : ∀ x ∈ rs, rB x = true) (w : ByteArray) (hw : w.size ≤ 24) (hc : Cov rs w) : ∀ (d k : Nat) (x6 : List Int) (p : Nat), p ≤ w.size → w.size ≤ p + d → x6.length ≤ p → d + 8388800 < k →
    impl_rulesFor.l0 k rs x6 w (p : Int) = some (x6 ++ toI (fr rs w d p), true)
  | d, 0, x6, p, _, _, _, hk => by omega
  | 0, k + 1, x6, p, hp, hd, hx, hk => by
    rw [impl_rulesFor.l0, if_neg (by omega), fr, toI_nil, List.append_nil]
  | d + 1, k + 1, x6, p, hp, hd, hx, hk => by
    rw [impl_rulesFor.l0, fr]
    by_cases c : p < w.size
    · have h5 : slices_IndexFunc_v_impl_rulesFor_1.l0 k rs (rs.length : Int) 0 [(⟨w⟩ : W9)] [(⟨(p : Int)⟩ : W3)] = _ := ixF w (by omega) p hp rs (by omega) (fun x hx => rB_ok (hr x hx)) rs.length k 0 (by omega) (by omega)
      obtain ⟨j, hf⟩ := hc p c
      obtain ⟨e, he, hj, hm, -⟩ := fi_first _ _ _ _ hf
      rw [Nat.zero_add] at he
      subst he
      have z1 := mR_size hm hp
      have z2 := (rB_small (hr _ (List.getElem_mem hj))).2.2.2.2
      have e2 : wrap64 ((p : Int) + ((rs[j]'hj).f1.size : Int)) = ((p + (rs[j]'hj).f1.size : Nat) : Int) := upn z1 hw
      rw [if_pos (by omega), if_pos c]
      unfold slices_IndexFunc_v_impl_rulesFor_1.f
      rw [h5, List.drop_zero, hf, Option.bind_some]
      dsimp only
      rw [if_neg (by omega), if_pos (by omega), if_pos (by omega), if_pos (by omega), rdI_at hj, e2, toI_cons]
      have ih := for_i rs hl hr w hw hc d k (x6 ++ [(j : Int)]) (p + (rs[j]'hj).f1.size) z1 (by omega) (by rw [List.length_append, List.length_singleton]; omega) (by omega)
      rw [ih, List.append_assoc]
      rfl
    · rw [if_neg (by omega), if_neg c, toI_nil, List.append_nil]
theorem rulesFor_i (rs : List SI) (hl : rs.length ≤ 48) (hr : ∀ x ∈ rs, rB x = true) (w : ByteArray) (hw : wordB w = true) (hc : Cov rs w) (k : Nat) (hk : 12000000 < k) : impl_RulesFor.f k rs w = some (toI (fr rs w 24 0), true) ∧ impl_rulesFor.f k rs w = some (toI (fr rs w 24 0), true) := by
  have hw2 := wordB_size hw
  have h1 := for_i rs hl hr w hw2 hc 24 k [] 0 (by omega) (by omega) (Nat.zero_le _) (by omega)
  have h3 : impl_rulesFor.f k rs w = some (toI (fr rs w 24 0), true) := h1
  have hb : rulesB rs = true := by
    unfold rulesB
    rw [decide_eq_true hl, Bool.true_and]
    exact List.all_eq_true.2 hr
  refine ⟨?_, h3⟩
  unfold impl_RulesFor.f
  rw [areRules_f rs (by omega) (fun x hx => rB_ok (hr x hx)) k hk, Option.bind_some, if_pos hb, word_i w (by omega) k (by omega), Option.bind_some, if_pos hw, h3]
  rfl
theorem sn_small {x : SI} (h : rB x = true) : (sn x).length ≤ 25 := sn_len h
theorem nums_s {a b i d n k r : Nat} (ha : a ≤ 25 * i) (hb : b ≤ 25) (h1 : i + (d + 1) = n) (hn : n ≤ 24) (h2 : d + 1 + 8388630 < k + 1) (hr : r ≤ 48) :
    a + b < 8796093022208 ∧ a + b ≤ 25 * (i + 1) ∧ i + 1 + d = n ∧ d + 8388630 < k ∧ i < n ∧ n ≤ 4194304 ∧ 26 < k := by omega
theorem snd_i (rs : List SI) (hl : rs.length ≤ 48) (hr : ∀ x ∈ rs, rB x = true) (ok : Bool) (tk : List Nat) (ht : tk.length ≤ 24) (hm : ∀ j ∈ tk, j < rs.length) : ∀ (d k : Nat) (x8 : List ByteArray) (i : Nat), i + d = tk.length → x8.length ≤ 25 * i → d + 8388630 < k →
    impl_soundsOf.l0 k rs ok x8 (toI tk) ((toI tk).length : Int) (i : Int) = some (x8 ++ (tk.drop i).flatMap (fun (j : Nat) => sn (rd_T30 rs (j : Int))), ok) := by
  intro d
  induction d with
  | zero =>
    intro k x8 i hi hx hk
    obtain ⟨k, rfl⟩ : ∃ q, k = q + 1 := ⟨k - 1, by omega⟩
    rw [impl_soundsOf.l0, toI_len, if_neg (nlt (by omega)), List.drop_of_length_le (by omega), List.flatMap_nil, List.append_nil]
  | succ d ih =>
    intro k x8 i hi hx hk
    obtain ⟨k, rfl⟩ : ∃ q, k = q + 1 := ⟨k - 1, by omega⟩
    have hil : i < tk.length := by omega
    have hj := hm _ (List.getElem_mem hil)
    have hxr := hr _ (List.getElem_mem hj)
    have hs3 : (rs[tk[i]]).f3.size ≤ 24 := (rB_small hxr).2.2.2.1
    obtain ⟨g1, g2, g3, g4, g5, g6, g7⟩ := nums_s hx (sn_len hxr) hi ht hk hl
    have ih2 := ih k (x8 ++ sn rs[tk[i]]) (i + 1) g3 (by rw [List.length_append]; exact g2) g4
    rw [List.append_assoc] at ih2
    have hdr : (tk.drop i).flatMap (fun (j : Nat) => sn (rd_T30 rs (j : Int))) = sn rs[tk[i]] ++ (tk.drop (i + 1)).flatMap (fun (j : Nat) => sn (rd_T30 rs (j : Int))) := by
      rw [List.drop_eq_getElem_cons hil, List.flatMap_cons, rdI_at hj]
    have e1 := up hil g6
    rw [hdr, impl_soundsOf.l0, toI_len, if_pos (lt' hil), if_pos (nn i), if_pos (lt' hil), toI_rd tk i hil, if_pos (nn _), if_pos (lt' hj), rdI_at hj, e1]
    rw [toI_len] at ih2
    by_cases hz : (rs[tk[i]]).f3.toList = ([] : List UInt8)
    · rw [if_pos hz]
      rw [sn_nil (nil_iff.1 hz)] at ih2 ⊢
      rw [List.nil_append, List.append_nil] at ih2
      rw [List.nil_append]
      exact ih2
    · obtain ⟨q1, q2⟩ := sn_split hxr (fun e => hz (nil_iff.2 e))
      have hsp : strings_Split.f k (rs[tk[i]]).f3 (⟨#[46]⟩ : ByteArray) = some (cutB 46 (rs[tk[i]]).f3) := split_some _ (Nat.le_trans hs3 (by decide)) 46 k (Nat.lt_of_le_of_lt (Nat.add_le_add_right hs3 1) (Nat.lt_of_le_of_lt (by decide) g7))
      rw [if_neg hz, hsp, Option.bind_some, ← q1, if_pos g1]
      exact ih2
def snds (rs : List SI) (w : ByteArray) : List ByteArray := (fr rs w 24 0).flatMap (fun (j : Nat) => sn (rd_T30 rs (j : Int)))
theorem fr_lt (rs : List SI) (w : ByteArray) : ∀ d p, ∀ j ∈ fr rs w d p, j < rs.length
  | 0, p, j, h => by cases h
  | d + 1, p, j, h => by
    rw [fr] at h
    split at h
    · split at h
      · rename_i q hq
        rcases List.mem_cons.1 h with rfl | h
        · obtain ⟨e, he, hl, -, -⟩ := fi_first _ _ _ _ hq
          omega
        · exact fr_lt rs w d _ j h
      · cases h
    · cases h
theorem soundsOf_i (rs : List SI) (hl : rs.length ≤ 48) (hr : ∀ x ∈ rs, rB x = true) (w : ByteArray) (hw : wordB w = true) (hc : Cov rs w) (k : Nat) (hk : 12000000 < k) : impl_soundsOf.f k rs w = some (snds rs w, true) ∧ impl_SoundsOf.f k rs w = some (snds rs w, true) := by
  have hw2 := wordB_size hw
  have h1 := (rulesFor_i rs hl hr w hw hc k hk).2
  have h2 := snd_i rs hl hr true (fr rs w 24 0) (fr_len rs w 24 0) (fr_lt rs w 24 0) (fr rs w 24 0).length k [] 0 (by omega) (Nat.zero_le _) (by have := fr_len rs w 24 0; omega)
  rw [List.drop_zero, List.nil_append] at h2
  have h3 : impl_soundsOf.f k rs w = some (snds rs w, true) := by
    unfold impl_soundsOf.f
    rw [h1, Option.bind_some]
    exact h2
  have hb : rulesB rs = true := by
    unfold rulesB
    rw [decide_eq_true hl, Bool.true_and]
    exact List.all_eq_true.2 hr
  refine ⟨h3, ?_⟩
  unfold impl_SoundsOf.f
  rw [areRules_f rs (by omega) (fun x hx => rB_ok (hr x hx)) k hk, Option.bind_some, if_pos hb, word_i w (by omega) k (by omega), Option.bind_some, if_pos hw, h3]
  rfl
theorem dead_l (rs : List SI) (hl : rs.length ≤ 48) : ∀ (d k : Nat) (x4 : List Int) (i : Nat), i + d = rs.length → x4.length ≤ i → (∀ x ∈ x4, ∃ e : Nat, x = (e : Int) ∧ ∃ h : e < rs.length, (rs.take e).any (fun q => dB q rs[e]) = true) → d + 100 < k →
    ∃ dl : List Int, impl_DeadRules.l0 k rs x4 rs (rs.length : Int) (i : Int) = some (dl, true) ∧ dl.length ≤ rs.length ∧ ∀ x ∈ dl, ∃ e : Nat, x = (e : Int) ∧ ∃ h : e < rs.length, (rs.take e).any (fun q => dB q rs[e]) = true
  | d, 0, x4, i, _, _, _, hk => by omega
  | 0, k + 1, x4, i, hi, hx, ha, hk => by
    rw [impl_DeadRules.l0, if_neg (by omega)]
    exact ⟨x4, rfl, by omega, ha⟩
  | d + 1, k + 1, x4, i, hi, hx, ha, hk => by
    have hil : i < rs.length := by omega
    have e1 : wrap64 ((i : Int) + 1) = ((i + 1 : Nat) : Int) := by unfold wrap64; omega
    have hD := hasD rs[i] (rs.take i) (by rw [List.length_take]; omega) k (by rw [List.length_take]; omega)
    rw [impl_DeadRules.l0, if_pos (by omega), if_pos (by omega), if_pos (by omega), if_pos (by omega), rdI_at hil, Int.toNat_natCast]
    have hD' : slices_ContainsFunc_v_impl_DeadRules_1.f k (rs.take i) [(⟨(rs[i]).f0, (rs[i]).f1, (rs[i]).f2, (rs[i]).f3⟩ : SI)] = _ := hD
    rw [hD', Option.bind_some, e1]
    by_cases c : (rs.take i).any (fun q => dB q rs[i]) = true
    · rw [if_pos c, if_pos (by omega)]
      exact dead_l rs hl d k (x4 ++ [(i : Int)]) (i + 1) (by omega) (by rw [List.length_append, List.length_singleton]; omega) (fun x h => by
        rcases List.mem_append.1 h with h | h
        · exact ha x h
        · rw [List.mem_singleton.1 h]; exact ⟨i, rfl, hil, c⟩) (by omega)
    · rw [if_neg c]
      exact dead_l rs hl d k x4 (i + 1) (by omega) (by omega) ha (by omega)
theorem dead_i (rs : List SI) (hl : rs.length ≤ 48) (hr : ∀ x ∈ rs, rB x = true) : ∃ dl : List Int, dl.length ≤ 48 ∧ (∀ x ∈ dl, ∃ e : Nat, x = (e : Int) ∧ ∃ h : e < rs.length, (rs.take e).any (fun q => dB q rs[e]) = true) ∧ ∀ k, 12000000 < k → impl_DeadRules.f k rs = some (dl, true) := by
  have hb : rulesB rs = true := by
    unfold rulesB
    rw [decide_eq_true hl, Bool.true_and]
    exact List.all_eq_true.2 hr
  obtain ⟨K, hK⟩ : ∃ K : Nat, K = 12000001 := ⟨_, rfl⟩
  obtain ⟨dl, h1, h2, h3⟩ := dead_l rs hl rs.length K [] 0 (by omega) (Nat.zero_le _) (fun x h => by cases h) (by omega)
  refine ⟨dl, by omega, h3, fun k hk => at_rounds (g := fun k => impl_DeadRules.f k rs) (impl_DeadRules.mono _) (show K ≤ k by omega) ?_⟩
  unfold impl_DeadRules.f
  rw [areRules_f rs (by omega) (fun x hx => rB_ok (hr x hx)) K (by omega), Option.bind_some, if_pos hb]
  exact h1
theorem dead_m {w : ByteArray} {p : Nat} {q r : SI} (hd : dB q r = true) (hm : mR w p r = true) : mR w p q = true := by
  unfold dB at hd
  rw [Bool.and_eq_true, Bool.and_eq_true, decide_eq_true_iff, decide_eq_true_iff, decide_eq_true_iff] at hd
  obtain ⟨h0, h2, h3, h4⟩ := hd
  unfold mR matB at hm ⊢
  rw [Bool.and_eq_true] at hm
  have e0 : q.f0.data.toList = [] := List.length_eq_zero_iff.1 (by rw [size_list]; exact h0)
  have e2 : q.f2.data.toList = [] := List.length_eq_zero_iff.1 (by rw [size_list]; exact h2)
  rw [e0, e2]
  have hp := hm.1
  rw [pre_iff, decide_eq_true_iff] at hp
  rw [Bool.and_eq_true]
  refine ⟨?_, by simp [mat]⟩
  rw [pre_iff, decide_eq_true_iff]
  have e4 : r.f1.data.toList.take q.f1.size = q.f1.data.toList := by
    have h5 : (r.f1.extract 0 q.f1.size).data.toList = q.f1.data.toList := by rw [h4]
    rw [← h5, extract_ba, list_ba, List.drop_zero, Nat.sub_zero]
  refine ⟨Nat.le_trans (by rw [size_list, size_list]; exact h3) hp.1, ?_⟩
  rw [size_list, ← e4, ← hp.2, List.take_take, size_list, Nat.min_eq_left h3]
end Go.Proofs.YtmmcdpijpdjnoaaDoor.RrPure
