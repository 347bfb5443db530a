import Derived.Test.YtmmcdpijpdjnoaaDoorRrE
import Derived.KernelRfl
set_option linter.unusedVariables false
set_option linter.unusedSimpArgs false
namespace Go.Proofs.YtmmcdpijpdjnoaaDoor.RrPure
open Go.RowKit Go.Proofs.YtmmcdpijpdjnoaaDoorW.PrintWords Go.Proofs.YtmmcdpijpdjnoaaDoor.PFnRulesRead Go.Proofs.YtmmcdpijpdjnoaaDoor.Lm
def lrule (b : UInt8) : SI := ⟨⟨#[]⟩, ba [b], ⟨#[]⟩, ba [b]⟩
def plain : List SI := (List.range 26).map fun i => lrule (UInt8.ofNat (97 + i))
theorem plain_i0 : impl_PlainRules.f 200 = some plain := by kernel_rfl
theorem plain_s0 : spec_PlainRules.f 200 = some plain := by kernel_rfl
theorem plain_i (k : Nat) (hk : 200 ≤ k) : impl_PlainRules.f k = some plain := at_rounds (g := fun k => impl_PlainRules.f k) impl_PlainRules.mono hk plain_i0
theorem plain_s (k : Nat) (hk : 200 ≤ k) : spec_PlainRules.f k = some plain := at_rounds (g := fun k => spec_PlainRules.f k) spec_PlainRules.mono hk plain_s0
theorem plain_all : plain.all rB = true := by decide +kernel
theorem plain_rB : ∀ x ∈ plain, rB x = true := fun x hx => List.all_eq_true.1 plain_all x hx
theorem plain_len : plain.length = 26 := by unfold plain; rw [List.length_map, List.length_range]
theorem plain_mem {x : SI} (h : x ∈ plain) : ∃ b : UInt8, x = lrule b := by
  unfold plain at h
  obtain ⟨i, -, rfl⟩ := List.mem_map.1 h
  exact ⟨_, rfl⟩
theorem mem_plain {b : UInt8} (h0 : 97 ≤ b.toNat) (h1 : b.toNat ≤ 122) : lrule b ∈ plain := by
  unfold plain
  refine List.mem_map.2 ⟨b.toNat - 97, List.mem_range.2 (by omega), ?_⟩
  congr 1
  rw [show 97 + (b.toNat - 97) = b.toNat by omega, UInt8.ofNat_toNat]
theorem m_letter (w : ByteArray) (p : Nat) (hp : p < w.size) (b : UInt8) : mR w p (lrule b) = (b == w.data.toList[p]'hp) := by
  unfold mR matB lrule
  have e0 : (⟨#[]⟩ : ByteArray).data.toList = [] := rfl
  rw [e0, list_ba, List.reverse_nil]
  have hd : w.data.toList.drop p = w.data.toList[p]'hp :: w.data.toList.drop (p + 1) := List.drop_eq_getElem_cons hp
  rw [hd]
  simp [mat, List.isPrefixOf]
theorem sn_letter {b : UInt8} (h : rB (lrule b) = true) (hb : b ≠ 46) : sn (lrule b) = [ba [b]] := by
  obtain ⟨h1, -⟩ := sn_split h (show ¬ (ba [b]).size = 0 by rw [size_ba]; simp)
  rw [h1]
  show (cut 46 [b]).map ba = _
  rw [cut_none (by simp only [List.mem_singleton]; exact fun e => hb e.symm)]
  rfl
theorem alph_at {w : ByteArray} (h : wordB w = true) (p : Nat) (hp : p < w.size) : 97 ≤ (w.data.toList[p]'hp).toNat ∧ (w.data.toList[p]'hp).toNat ≤ 122 := by
  unfold wordB alph at h
  rw [Bool.and_eq_true] at h
  exact of_decide_eq_true (List.all_eq_true.1 h.1 _ (List.getElem_mem hp))
theorem cov_plain (ds : List SI) (w : ByteArray) (h : wordB w = true) : Cov (ds ++ plain) w := fun p hp => by
  obtain ⟨h0, h1⟩ := alph_at h p hp
  exact fi_some _ _ 0 (lrule (w.data.toList[p]'hp)) (List.mem_append.2 (.inr (mem_plain h0 h1))) (by rw [m_letter w p hp]; exact beq_self_eq_true _)
def letters (w : ByteArray) : List ByteArray := w.data.toList.map fun b => ba [b]
theorem fr_plain (w : ByteArray) (h : wordB w = true) : ∀ d p, p ≤ w.size → w.size ≤ p + d → (fr plain w d p).flatMap (fun (j : Nat) => sn (rd_T30 plain (j : Int))) = (w.data.toList.drop p).map fun b => ba [b]
  | 0, p, hp, hd => by
    rw [fr, List.drop_of_length_le (by rw [size_list]; omega)]; rfl
  | d + 1, p, hp, hd => by
    rw [fr]
    by_cases c : p < w.size
    · obtain ⟨h0, h1⟩ := alph_at h p c
      obtain ⟨j, hf⟩ := fi_some (mR w p) plain 0 (lrule (w.data.toList[p]'c)) (mem_plain h0 h1) (by rw [m_letter w p c]; exact beq_self_eq_true _)
      obtain ⟨e, he, hj, hm, -⟩ := fi_first _ _ _ _ hf
      rw [Nat.zero_add] at he
      subst he
      rw [if_pos c, hf]
      dsimp only
      rw [List.flatMap_cons, rdI_at hj]
      obtain ⟨b, hb⟩ := plain_mem (List.getElem_mem hj)
      rw [hb, m_letter w p c, beq_iff_eq] at hm
      have hr := plain_rB _ (List.getElem_mem hj)
      rw [hb] at hr ⊢
      have hz : (lrule b).f1.size = 1 := rfl
      rw [hz, fr_plain w h d (p + 1) (by omega) (by omega), sn_letter hr (by
        intro e
        rw [e] at hm
        rw [← hm] at h0
        revert h0; decide), List.drop_eq_getElem_cons (i := p) c, List.map_cons, ← hm]
      rfl
    · rw [if_neg c, List.drop_of_length_le (by rw [size_list]; omega)]; rfl
theorem snds_plain (w : ByteArray) (h : wordB w = true) : snds plain w = letters w := by
  unfold snds letters
  rw [fr_plain w h 24 0 (Nat.zero_le _) (by have := wordB_size h; omega), List.drop_zero]
theorem snds_len (rs : List SI) (hr : ∀ x ∈ rs, rB x = true) (w : ByteArray) : (snds rs w).length ≤ 600 := by
  have key : ∀ l : List Nat, (∀ j ∈ l, j < rs.length) → (l.flatMap (fun (j : Nat) => sn (rd_T30 rs (j : Int)))).length ≤ 25 * l.length := by
    intro l
    induction l with
    | nil => intro _; exact Nat.zero_le _
    | cons x l ih =>
      intro h
      have hx := h x List.mem_cons_self
      have h1 := sn_len (hr _ (List.getElem_mem hx))
      have h2 := ih (fun j hj => h j (List.mem_cons_of_mem _ hj))
      rw [List.flatMap_cons, List.length_append, rdI_at hx, List.length_cons]
      omega
  have h1 := key (fr rs w 24 0) (fr_lt rs w 24 0)
  have h2 := fr_len rs w 24 0
  unfold snds
  omega
def rest : ByteArray := ⟨#[114, 101, 115, 116]⟩
theorem split_two (w : ByteArray) (h : wordB w = true) (k : Nat) (hk : 200 < k) : strings_Split.f k ((w ++ (⟨#[32]⟩ : ByteArray)) ++ w) (⟨#[32]⟩ : ByteArray) = some [w, w] := by
  have hw := wordB_size h
  have hz : ((w ++ (⟨#[32]⟩ : ByteArray)) ++ w).size = w.size + 1 + w.size := by
    rw [ByteArray.size_append, ByteArray.size_append]; rfl
  have hs : strings_Split.f k ((w ++ (⟨#[32]⟩ : ByteArray)) ++ w) (⟨#[32]⟩ : ByteArray) = some (cutB 32 ((w ++ (⟨#[32]⟩ : ByteArray)) ++ w)) := split_some _ (by omega) 32 k (by omega)
  have hno : (32 : UInt8) ∉ w.data.toList := fun hm => by
    unfold wordB alph at h
    rw [Bool.and_eq_true] at h
    have := of_decide_eq_true (List.all_eq_true.1 h.1 _ hm)
    revert this; decide
  have hl : ((w ++ (⟨#[32]⟩ : ByteArray)) ++ w).data.toList = w.data.toList ++ 32 :: w.data.toList := by
    simp only [ByteArray.data_append, Array.toList_append, List.append_assoc]
    rfl
  rw [hs]
  unfold cutB
  rw [hl, cut_hit _ hno, cut_none hno]
  rfl
theorem spell_i (rs : List SI) (hl : rs.length ≤ 48) (hr : ∀ x ∈ rs, rB x = true) (w : ByteArray) (hw : wordB w = true) (hc : Cov rs w) (k : Nat) (hk : 12000010 < k) : impl_SpellText.f k rs ((w ++ (⟨#[32]⟩ : ByteArray)) ++ w) = some ((snds rs w ++ [rest]) ++ snds rs w, true) := by
  have hw2 := wordB_size hw
  have hn := snds_len rs hr w
  have hz : ((w ++ (⟨#[32]⟩ : ByteArray)) ++ w).size = w.size + 1 + w.size := by
    rw [ByteArray.size_append, ByteArray.size_append]; rfl
  have hb : rulesB rs = true := by
    unfold rulesB
    rw [decide_eq_true hl, Bool.true_and]
    exact List.all_eq_true.2 hr
  obtain ⟨k, rfl⟩ : ∃ q, k = q + 1 + 1 + 1 + 1 := ⟨k - 4, by omega⟩
  have h1 : ∀ q, 12000000 < q → impl_soundsOf.f q rs w = some (snds rs w, true) := fun q hq => (soundsOf_i rs hl hr w hw hc q hq).1
  have h2 : ∀ q, 12000000 < q → impl_isWord.f q w = some true := fun q hq => by rw [word_i w (by omega) q (by omega), hw]
  have hr0 : rdOf ByteArray.empty [w, w] 0 = w := rfl
  have hr1 : rdOf ByteArray.empty [w, w] 1 = w := rfl
  have hlen : (((snds rs w ++ [rest]) : List ByteArray).length) = (snds rs w).length + 1 := by rw [List.length_append]; rfl
  unfold impl_SpellText.f
  rw [areRules_f rs (by omega) (fun x hx => rB_ok (hr x hx)) _ (by omega), Option.bind_some, if_pos hb, decide_eq_false (by omega)]
  rw [impl_SpellText.j0, if_neg (by decide), split_two w hw _ (by omega), Option.bind_some]
  have hl2 : (([w, w] : List ByteArray).length : Int) = 2 := rfl
  rw [hl2]
  rw [impl_SpellText.l0, hl2, if_pos (by decide), if_pos (by decide), if_pos (by decide), hr0, h2 _ (by omega), Option.bind_some, if_pos rfl, h1 _ (by omega), Option.bind_some]
  dsimp only
  rw [if_pos rfl, if_neg (by decide), if_pos (by rw [List.length_nil]; omega)]
  have e1 : wrap64 ((0 : Int) + 1) = 1 := by unfold wrap64; omega
  rw [e1, List.nil_append]
  rw [impl_SpellText.l0, hl2, if_pos (by decide), if_pos (by decide), if_pos (by decide), hr1, h2 _ (by omega), Option.bind_some, if_pos rfl, h1 _ (by omega), Option.bind_some]
  dsimp only
  rw [if_pos rfl, if_pos (by decide), if_pos (by omega), Option.bind_some]
  have e2 : wrap64 ((1 : Int) + 1) = 2 := by unfold wrap64; omega
  have hlt : ((snds rs w ++ [(⟨#[114, 101, 115, 116]⟩ : ByteArray)]).length + (snds rs w).length < 8796093022208) := by
    have : (snds rs w ++ [(⟨#[114, 101, 115, 116]⟩ : ByteArray)]).length = (snds rs w).length + 1 := by rw [List.length_append]; rfl
    rw [this]; omega
  rw [if_pos hlt, e2]
  obtain ⟨k, rfl⟩ : ∃ q, k = q + 1 := ⟨k - 1, by omega⟩
  rw [impl_SpellText.l0, if_neg (by decide)]
  rfl
theorem syl_l (w : ByteArray) (hw : w.size ≤ 24) : ∀ (d k c i : Nat), i + d = w.size → c ≤ i → (0 < c ↔ (w.data.toList.take i).any vow = true) → d < k →
    ∃ r : Nat, impl_SyllablesIn.l0 k w (c : Int) (w.size : Int) (i : Int) = some ((r : Int), true) ∧ r ≤ w.size ∧ (0 < r ↔ w.data.toList.any vow = true)
  | d, 0, c, i, _, _, _, hk => by omega
  | 0, k + 1, c, i, hi, hc, hv, hk => by
    rw [impl_SyllablesIn.l0, if_neg (nlt (by omega))]
    rw [List.take_of_length_le (by rw [size_list]; omega)] at hv
    exact ⟨c, rfl, by omega, hv⟩
  | d + 1, k + 1, c, i, hi, hc, hv, hk => by
    have hil : i < w.size := by omega
    have e1 := up hil (by omega : w.size ≤ 4194304)
    have ec : wrap64 ((c : Int) + 1) = ((c + 1 : Nat) : Int) := by unfold wrap64; omega
    have hb := bt_nat w i hil
    have htk : w.data.toList.take (i + 1) = w.data.toList.take i ++ [w.data.toList[i]'hil] := List.take_succ_eq_append_getElem hil
    have hany : (w.data.toList.take (i + 1)).any vow = ((w.data.toList.take i).any vow || vow (w.data.toList[i]'hil)) := by rw [htk, List.any_append]; simp
    rw [impl_SyllablesIn.l0, if_pos (lt' hil), if_pos (nn i), if_pos (lt' hil), hb, vow_i, Option.bind_some, e1, ec]
    by_cases v : vow (w.data.toList[i]'hil) = true
    · rw [if_pos v]
      by_cases c0 : i = 0
      · rw [if_pos (by rw [c0]; rfl)]
        exact syl_l w hw d k (c + 1) (i + 1) (by omega) (by omega) ⟨fun _ => by rw [hany, v, Bool.or_true], fun _ => by omega⟩ (by omega)
      · obtain ⟨m, rfl⟩ : ∃ m, i = m + 1 := ⟨i - 1, by omega⟩
        have hml : m < w.size := by omega
        have hb2 := bt_nat w m hml
        rw [if_neg (show ¬ (((m + 1 : Nat) : Int) = 0) by omega), dn1 (by omega), if_pos (nn m), if_pos (lt' hml), hb2, vow_i, Option.bind_some]
        by_cases v2 : vow (w.data.toList[m]'hml) = true
        · rw [if_pos v2]
          refine syl_l w hw d k c (m + 1 + 1) (by omega) (by omega) ⟨fun _ => by rw [hany, v, Bool.or_true], fun _ => hv.2 ?_⟩ (by omega)
          rw [List.take_succ_eq_append_getElem (by rw [size_list]; exact hml), List.any_append, List.any_cons, v2, Bool.true_or, Bool.or_true]
        · rw [if_neg v2]
          exact syl_l w hw d k (c + 1) (m + 1 + 1) (by omega) (by omega) ⟨fun _ => by rw [hany, v, Bool.or_true], fun _ => by omega⟩ (by omega)
    · rw [if_neg v]
      refine syl_l w hw d k c (i + 1) (by omega) (by omega) ?_ (by omega)
      rw [hany, Bool.eq_false_iff.mpr v, Bool.or_false]
      exact hv
theorem syl_i (w : ByteArray) (hw : wordB w = true) : ∃ r : Nat, r ≤ w.size ∧ (0 < r ↔ w.data.toList.any vow = true) ∧ ∀ k, 100 ≤ k → impl_SyllablesIn.f k w = some ((r : Int), true) := by
  have hw2 := wordB_size hw
  obtain ⟨r, h1, h2, h3⟩ := syl_l w hw2 w.size 100 0 0 (by omega) (Nat.le_refl _) (by simp) (by omega)
  refine ⟨r, h2, h3, fun k hk => at_rounds (g := fun k => impl_SyllablesIn.f k w) (impl_SyllablesIn.mono _) hk ?_⟩
  unfold impl_SyllablesIn.f
  rw [word_i w (by omega) 100 (by omega), Option.bind_some, if_pos hw]
  exact h1
theorem vowel_fin : ∀ n : Fin 256, impl_IsVowel.f (ba [UInt8.ofNat n.1]) = some (vow (UInt8.ofNat n.1)) := by decide +kernel
theorem vowel_i (b : UInt8) : impl_IsVowel.f (ba [b]) = some (vow b) := by
  have h := vowel_fin ⟨b.toNat, b.toNat_lt⟩
  simp only [UInt8.ofNat_toNat] at h
  exact h
theorem letters_len (w : ByteArray) : (letters w).length = w.size := by unfold letters; rw [List.length_map, size_list]
theorem rdS {l : List ByteArray} {i : Nat} (h : i < l.length) : rdOf ByteArray.empty l (i : Int) = l[i] := by
  unfold rdOf
  rw [Int.toNat_natCast, List.getD_eq_getElem?_getD, List.getElem?_eq_getElem h]; rfl
theorem l5_i (N T : List ByteArray) (hN : N.length ≤ 600) (hT : ∀ i, (h : i < N.length) → T[i]? = some N[i]) (c : Int) (v : Bool) (hv : (v == decide (c > 0)) = true) : ∀ (d k i : Nat), i + d = N.length → d < k → laws_FnRulesRead.l5 k N T c v (N.length : Int) (i : Int) = some true
  | d, 0, i, _, hk => by omega
  | 0, k + 1, i, hi, hk => by rw [laws_FnRulesRead.l5, if_neg (nlt (by omega)), hv]
  | d + 1, k + 1, i, hi, hk => by
    have hil : i < N.length := by omega
    obtain ⟨hT1, hT2⟩ := List.getElem?_eq_some_iff.1 (hT i hil)
    rw [laws_FnRulesRead.l5, if_pos (lt' hil), if_pos (nn i), if_pos (lt' hT1), if_pos (lt' hil), rdS hT1, rdS hil, hT2, if_pos rfl, up hil (by omega)]
    exact l5_i N T hN hT c v hv d k (i + 1) (by omega) (by omega)
theorem l4_i (w : ByteArray) (hw : w.size ≤ 24) (N T : List ByteArray) (hN : N.length ≤ 600) (hT : ∀ i, (h : i < N.length) → T[i]? = some N[i]) (c : Int) (hc : (w.data.toList.any vow == decide (c > 0)) = true) : ∀ (d k i : Nat) (v : Bool), i + d = w.size → v = (w.data.toList.take i).any vow → d + 700 < k →
    laws_FnRulesRead.l4 k w N (letters w) T c v ((letters w).length : Int) (i : Int) = some true
  | d, 0, i, v, _, _, hk => by omega
  | 0, k + 1, i, v, hi, hv, hk => by
    rw [laws_FnRulesRead.l4, letters_len, if_neg (nlt (by omega))]
    rw [List.take_of_length_le (by rw [size_list]; omega)] at hv
    have h5 : laws_FnRulesRead.l5 k N T c v (N.length : Int) ((0 : Nat) : Int) = some true := l5_i N T hN hT c v (by rw [hv]; exact hc) N.length k 0 (by omega) (by omega)
    exact h5
  | d + 1, k + 1, i, v, hi, hv, hk => by
    have hil : i < w.size := by omega
    have hll : i < (letters w).length := by rw [letters_len]; exact hil
    have e1 := up hil (by omega : w.size ≤ 4194304)
    have hrd : rdOf ByteArray.empty (letters w) (i : Int) = ba [w.data.toList[i]'hil] := by
      rw [rdS hll]; simp only [letters, List.getElem_map]
    have hex : w.extract i (i + 1) = ba [w.data.toList[i]'hil] := by
      rw [extract_ba, Nat.add_sub_cancel_left, List.drop_eq_getElem_cons (i := i) hil]
      rfl
    have htk : w.data.toList.take (i + 1) = w.data.toList.take i ++ [w.data.toList[i]'hil] := List.take_succ_eq_append_getElem hil
    have hany : (w.data.toList.take (i + 1)).any vow = ((w.data.toList.take i).any vow || vow (w.data.toList[i]'hil)) := by rw [htk, List.any_append]; simp
    rw [laws_FnRulesRead.l4, letters_len, if_pos (lt' hil), if_pos (nn i), if_pos (lt' hil), e1, if_pos (le' (Nat.le_succ i)), if_pos (le' hil), hrd, Int.toNat_natCast, Int.toNat_natCast, hex, if_pos rfl]
    have ih := fun v' hv' => l4_i w hw N T hN hT c hc d k (i + 1) v' (by omega) hv' (by omega)
    rw [letters_len] at ih
    by_cases cv : v = true
    · rw [if_pos cv]
      exact ih true (by rw [hany, ← hv, cv, Bool.true_or])
    · rw [if_neg cv, vowel_i, Option.bind_some]
      exact ih _ (by rw [hany, ← hv, Bool.eq_false_iff.mpr cv, Bool.false_or])
theorem twice_at (N : List ByteArray) (r : ByteArray) : (∀ i, (h : i < N.length) → ((N ++ [r]) ++ N)[i]? = some N[i]) ∧ ((N ++ [r]) ++ N)[N.length]? = some r := by
  constructor
  · intro i h
    rw [List.append_assoc, List.getElem?_append_left h, List.getElem?_eq_getElem h]
  · rw [List.append_assoc, List.getElem?_append_right (Nat.le_refl _), Nat.sub_self]; rfl
theorem tail_i (rs : List SI) (hl : rs.length ≤ 48) (hr : ∀ x ∈ rs, rB x = true) (w : ByteArray) (hw : wordB w = true) (hc : Cov rs w) (dl : List Int) (tk : List Nat) (k : Nat) (hk : 14000010 ≤ k) :
    laws_FnRulesRead.l1 (k + 1 + 1) rs w (toI tk) (snds rs w) dl (w.size : Int) ((toI tk).length : Int) ((toI tk).length : Int) = some true := by
  have hw2 := wordB_size hw
  have hn := snds_len rs hr w
  have hpl : ∀ x ∈ plain, rB x = true := plain_rB
  have hcp : Cov plain w := by
    have := cov_plain [] w hw
    rwa [List.nil_append] at this
  obtain ⟨r, h2, h3, h4⟩ := syl_i w hw
  have s1 := plain_i (k + 1) (by omega)
  have s2 := (soundsOf_i plain (by rw [plain_len]; decide) hpl w hw hcp (k + 1) (by omega)).2
  rw [snds_plain w hw] at s2
  have s3 := spell_i rs hl hr w hw hc (k + 1) (by omega)
  have s4 := h4 (k + 1) (by omega)
  have hz : (w ++ (⟨#[32]⟩ : ByteArray)).size + w.size = w.size + 1 + w.size := by rw [ByteArray.size_append]; rfl
  obtain ⟨t1, t2⟩ := twice_at (snds rs w) rest
  have hlen : ((snds rs w ++ [rest]) ++ snds rs w).length = 2 * (snds rs w).length + 1 := by
    rw [List.length_append, List.length_append]; simp only [List.length_singleton]; omega
  have e1 : wrap64 (wrap64 (2 * ((snds rs w).length : Int)) + 1) = ((2 * (snds rs w).length + 1 : Nat) : Int) := by
    clear s1 s2 s3 s4 h3 h4
    unfold wrap64; omega
  have hrest : rdOf ByteArray.empty ((snds rs w ++ [rest]) ++ snds rs w) ((snds rs w).length : Int) = rest := by
    rw [rdS (by rw [hlen]; omega)]
    exact (List.getElem?_eq_some_iff.1 t2).2
  have hv : (w.data.toList.any vow == decide ((r : Int) > 0)) = true := by
    rw [beq_iff_eq, Bool.eq_iff_iff, decide_eq_true_iff, ← h3]
    omega
  rw [laws_FnRulesRead.l1, if_neg (by omega), s1, Option.bind_some, s2, Option.bind_some, if_pos (by omega), if_pos (by rw [hz]; omega), s3, Option.bind_some, s4, Option.bind_some, if_pos rfl, if_pos rfl]
  dsimp only
  rw [if_pos rfl, if_pos rfl, letters_len, if_pos rfl, hlen, e1, if_pos rfl, if_pos (nn _), if_pos (lt' (by omega)), hrest, if_pos (show rest.toList = ([114, 101, 115, 116] : List UInt8) by rw [ByteArray.toList_eq]; rfl), if_neg (by omega), decide_eq_false (by omega)]
  rw [laws_FnRulesRead.j6, if_neg (by decide)]
  exact l4_i w hw2 (snds rs w) _ hn t1 (r : Int) hv w.size k 0 false (by omega) (by simp) (by omega)
end Go.Proofs.YtmmcdpijpdjnoaaDoor.RrPure
