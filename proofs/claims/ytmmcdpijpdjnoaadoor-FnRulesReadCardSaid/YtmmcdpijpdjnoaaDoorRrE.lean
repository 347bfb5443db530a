import Derived.Test.YtmmcdpijpdjnoaaDoorRrD
set_option linter.unusedVariables false
set_option linter.unusedSimpArgs false
namespace Go.Proofs.YtmmcdpijpdjnoaaDoor.RrPure
open Go.RowKit Go.Proofs.YtmmcdpijpdjnoaaDoorW.PrintWords Go.Proofs.YtmmcdpijpdjnoaaDoor.PFnRulesRead Go.Proofs.YtmmcdpijpdjnoaaDoor.Lm
theorem l1_i (rs : List SI) (w : ByteArray) (nm : List ByteArray) (dl : List Int) (hl : rs.length ≤ 48) (hr : ∀ x ∈ rs, rB x = true) (hw : wordB w = true) (hc : Cov rs w)
    (hdl : dl.length ≤ 48) (hd : ∀ x ∈ dl, ∃ e : Nat, x = (e : Int) ∧ ∃ h : e < rs.length, (rs.take e).any (fun q => dB q rs[e]) = true)
    (tk : List Nat) (htk : tk.length ≤ 24) (hT : ∃ k, 14000010 ≤ k ∧ laws_FnRulesRead.l1 k rs w (toI tk) nm dl (w.size : Int) ((toI tk).length : Int) ((toI tk).length : Int) = some true) :
    ∀ (d p t : Nat), tk.drop t = fr rs w d p → p ≤ w.size → w.size ≤ p + d → ∃ k, 14000010 ≤ k ∧ laws_FnRulesRead.l1 k rs w (toI tk) nm dl (p : Int) ((toI tk).length : Int) (t : Int) = some true
  | 0, p, t, hdr, hp, hpd => by
    have hpw : p = w.size := by omega
    rw [fr] at hdr
    have htl : tk.length ≤ t := List.drop_eq_nil_iff.1 hdr
    obtain ⟨k, hk, h⟩ := hT
    obtain ⟨k, rfl⟩ : ∃ q, k = q + 1 := ⟨k - 1, by omega⟩
    refine ⟨k + 1, hk, ?_⟩
    rw [laws_FnRulesRead.l1, if_neg (by omega)] at h
    rw [laws_FnRulesRead.l1, toI_len, if_neg (nlt htl), hpw]
    exact h
  | d + 1, p, t, hdr, hp, hpd => by
    rw [fr] at hdr
    by_cases c : p < w.size
    · obtain ⟨j, hf⟩ := hc p c
      obtain ⟨e, he, hj, hm, hfirst⟩ := fi_first _ _ _ _ hf
      rw [Nat.zero_add] at he
      subst he
      rw [if_pos c, hf] at hdr
      dsimp only at hdr
      have htl : t < tk.length := by
        rcases Nat.lt_or_ge t tk.length with h | h
        · exact h
        · rw [List.drop_of_length_le h] at hdr; cases hdr
      rw [List.drop_eq_getElem_cons htl] at hdr
      injection hdr with h1 h2
      have hj2 := rB_small (hr _ (List.getElem_mem hj))
      have hsz := mR_size hm hp
      have hw2 := wordB_size hw
      rw [rdI_at hj] at h2
      obtain ⟨k, hk, h⟩ := l1_i rs w nm dl hl hr hw hc hdl hd tk htk hT d (p + (rs[j]).f1.size) (t + 1) h2 hsz (by omega)
      have hnd : ∀ x ∈ dl, x ≠ (j : Int) := fun x hx => by
        obtain ⟨e, he, hel, ha⟩ := hd x hx
        intro hxe
        rw [he] at hxe
        obtain rfl : e = j := by omega
        obtain ⟨q, hq, hqd⟩ := List.any_eq_true.1 ha
        obtain ⟨n, hn, hqe⟩ := List.getElem_of_mem hq
        rw [List.length_take] at hn
        rw [List.getElem_take] at hqe
        have h3 := dead_m (w := w) (p := p) hqd hm
        rw [← hqe, hfirst n (by omega)] at h3
        cases h3
      have h3 := l3_i rs w tk nm dl (some true) hl p j hj hnd hdl (by omega) hj2.2.1 ((toI tk).length : Int) t (by omega) dl.length k 0 (by omega) h
      have h2' := l2_i rs w tk nm dl (some true) hl hr hw p c j hj hfirst ((toI tk).length : Int) (t : Int) j (k + dl.length + 1) 0 (by omega) (by omega) h3
      have hma := matchesAt_i rs[j] (hr _ (List.getElem_mem hj)) w hw p c (k + dl.length + 1 + j + 1 + 1) (by omega)
      refine ⟨k + dl.length + 1 + j + 1 + 1 + 1, by omega, ?_⟩
      rw [laws_FnRulesRead.l1, toI_len, if_pos (lt' htl), if_pos (nn t), if_pos (lt' htl), toI_rd tk t htl, h1, if_neg (by omega), if_neg (nge hj), if_pos (nn j), if_pos (lt' hj), rdI_at hj, hma, Option.bind_some, hm]
      rw [laws_FnRulesRead.j3, if_neg (by decide)]
      rw [toI_len] at h2'
      exact h2'
    · rw [if_neg c] at hdr
      have hpw : p = w.size := by omega
      have htl : tk.length ≤ t := List.drop_eq_nil_iff.1 hdr
      obtain ⟨k, hk, h⟩ := hT
      obtain ⟨k, rfl⟩ : ∃ q, k = q + 1 := ⟨k - 1, by omega⟩
      refine ⟨k + 1, hk, ?_⟩
      rw [laws_FnRulesRead.l1, if_neg (by omega)] at h
      rw [laws_FnRulesRead.l1, toI_len, if_neg (nlt htl), hpw]
      exact h
theorem l0_i (rs : List SI) (w : ByteArray) (hl : rs.length ≤ 48) (hr : ∀ x ∈ rs, rB x = true) (hw : wordB w = true) (hc : Cov rs w)
    (dl : List Int) (hdd : ∀ k, 12000000 < k → impl_DeadRules.f k rs = some (dl, true))
    (hT : ∃ k, 14000010 ≤ k ∧ laws_FnRulesRead.l1 k rs w (toI (fr rs w 24 0)) (snds rs w) dl 0 ((toI (fr rs w 24 0)).length : Int) 0 = some true) :
    ∀ (d i : Nat), i + d = rs.length → ∃ k, 14000010 ≤ k ∧ laws_FnRulesRead.l0 k rs w (rs.take i) (rs.length : Int) (i : Int) = some true
  | 0, i, hi => by
    obtain ⟨k, hk, h⟩ := hT
    have h1 := (rulesFor_i rs hl hr w hw hc (k + 1) (by omega)).1
    have h2 := (soundsOf_i rs hl hr w hw hc (k + 1) (by omega)).2
    have h3 := hdd (k + 1) (by omega)
    have h4 := same_i rs hl (k + 1) (by omega)
    refine ⟨k + 1 + 1, by omega, ?_⟩
    rw [laws_FnRulesRead.l0, if_neg (nlt (by omega)), h1, Option.bind_some, h2, Option.bind_some, h3, Option.bind_some, List.take_of_length_le (by omega), h4, Option.bind_some, if_pos rfl]
    dsimp only
    rw [if_pos rfl, if_pos rfl]
    rw [laws_FnRulesRead.j1, if_neg (by decide)]
    exact h
  | d + 1, i, hi => by
    have hil : i < rs.length := by omega
    have hx := hr _ (List.getElem_mem hil)
    obtain ⟨k, hk, h⟩ := l0_i rs w hl hr hw hc dl hdd hT d (i + 1) (by omega)
    obtain ⟨h1, h2, h3⟩ := read_back rs[i] hx k (by omega)
    refine ⟨k + 1, by omega, ?_⟩
    have hln : (rs.take i).length < 2199023255552 := by rw [List.length_take]; omega
    rw [laws_FnRulesRead.l0, if_pos (lt' hil), if_pos (nn i), if_pos (lt' hil), rdI_at hil, h1, Option.bind_some]
    dsimp only
    rw [h2, Option.bind_some, if_pos rfl]
    dsimp only
    rw [if_pos rfl, h3, Option.bind_some, if_pos rfl, if_pos hln, up hil (by omega)]
    have ht : rs.take (i + 1) = rs.take i ++ [(⟨(rs[i]).f0, (rs[i]).f1, (rs[i]).f2, (rs[i]).f3⟩ : SI)] := by rw [List.take_succ_eq_append_getElem hil]
    rw [ht] at h
    exact h
end Go.Proofs.YtmmcdpijpdjnoaaDoor.RrPure
