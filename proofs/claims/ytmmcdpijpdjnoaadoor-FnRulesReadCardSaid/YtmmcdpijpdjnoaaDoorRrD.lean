import Derived.Test.YtmmcdpijpdjnoaaDoorRrC
set_option linter.unusedVariables false
set_option linter.unusedSimpArgs false
namespace Go.Proofs.YtmmcdpijpdjnoaaDoor.RrPure
open Go.RowKit Go.Proofs.YtmmcdpijpdjnoaaDoorW.PrintWords Go.Proofs.YtmmcdpijpdjnoaaDoor.PFnRulesRead Go.Proofs.YtmmcdpijpdjnoaaDoor.Lm
theorem same_l (rs : List SI) (hl : rs.length ≤ 48) : ∀ (d k i : Nat), i + d = rs.length → d < k → impl_Rule_40.l0 k rs rs (rs.length : Int) (i : Int) = some true
  | d, 0, i, _, hk => by omega
  | 0, k + 1, i, h, hk => by rw [impl_Rule_40.l0, if_neg (nlt (by omega))]
  | d + 1, k + 1, i, h, hk => by
    have hi : i < rs.length := by omega
    have ih := same_l rs hl d k (i + 1) (by omega) (by omega)
    rw [impl_Rule_40.l0, if_pos (lt' hi), if_pos (nn i), if_pos (lt' hi), if_pos (lt' hi), if_neg (by simp), up hi (by omega)]
    exact ih
theorem same_i (rs : List SI) (hl : rs.length ≤ 48) (k : Nat) (hk : 49 ≤ k) : impl_SameRules.f k rs rs = some true := by
  have h : impl_Rule_40.l0 k rs rs (rs.length : Int) 0 = some true := same_l rs hl rs.length k 0 (by omega) (by omega)
  unfold impl_SameRules.f impl_Rule_40.f
  rw [if_pos rfl, h]; rfl
theorem matchesAt_i (x : SI) (h : rB x = true) (w : ByteArray) (hw : wordB w = true) (p : Nat) (hp : p < w.size) (k : Nat) (hk : 8388620 < k) : impl_MatchesAt.f k x.f0 x.f1 x.f2 x.f3 w (p : Int) = some (mR w p x) := by
  obtain ⟨s1, s2, s3, s4, -⟩ := rB_small h
  have hw2 := wordB_size hw
  have hv := (read_back x h k hk).2.2
  have e1 : wrap64 ((w.size : Int) - 1) = (w.size : Int) - 1 := by unfold wrap64; omega
  have hwt : impl_within.f (p : Int) 0 (wrap64 ((w.size : Int) - 1)) = some true := by
    rw [e1]
    unfold impl_within.f
    rw [if_pos (nn p), decide_eq_true (by omega)]
  have hm := matches_i x.f0 x.f1 x.f2 x.f3 w (by omega) (by omega) (by omega) (by omega) p (Nat.le_of_lt hp) k hk
  unfold impl_MatchesAt.f
  rw [hv, Option.bind_some, if_pos rfl, word_i w (by omega) k (by omega), Option.bind_some, if_pos hw, hwt, Option.bind_some, if_pos rfl, hm]
  rfl
section
variable (rs : List SI) (w : ByteArray) (tk : List Nat) (nm : List ByteArray) (dl : List Int) (R : Option Bool)
theorem l2_i (hl : rs.length ≤ 48) (hr : ∀ x ∈ rs, rB x = true) (hw : wordB w = true) (p : Nat) (hp : p < w.size) (j : Nat) (hj : j < rs.length) (hf : ∀ q, (hq : q < j) → mR w p (rs[q]'(Nat.lt_trans hq hj)) = false) (x109 x110 : Int) : ∀ (d k i : Nat), i + d = j → 8388620 < k →
    (laws_FnRulesRead.l3 k rs w (toI tk) nm dl (p : Int) (j : Int) x109 x110 (dl.length : Int) 0 = R) → laws_FnRulesRead.l2 (k + d + 1) rs w (toI tk) nm dl (p : Int) (j : Int) (i : Int) x109 x110 = R
  | 0, k, i, h, hk, hR => by
    show laws_FnRulesRead.l2 (k + 1) rs w (toI tk) nm dl (p : Int) (j : Int) (i : Int) x109 x110 = R
    rw [laws_FnRulesRead.l2, if_neg (nlt (by omega))]
    exact hR
  | d + 1, k, i, h, hk, hR => by
    have hi : i < j := by omega
    have hil : i < rs.length := Nat.lt_trans hi hj
    have hm := matchesAt_i rs[i] (hr _ (List.getElem_mem hil)) w hw p hp (k + d + 1) (by omega)
    have hb := hf i hi
    have ih := l2_i hl hr hw p hp j hj hf x109 x110 d k (i + 1) (by omega) hk hR
    show laws_FnRulesRead.l2 (k + d + 1 + 1) rs w (toI tk) nm dl (p : Int) (j : Int) (i : Int) x109 x110 = R
    rw [laws_FnRulesRead.l2, if_pos (lt' hi), if_pos (nn i), if_pos (lt' hil), rdI_at hil, hm, Option.bind_some, hb, if_neg (by decide), up hi (by omega)]
    exact ih
theorem l3_i (hl : rs.length ≤ 48) (p j : Nat) (hj : j < rs.length) (hd : ∀ x ∈ dl, x ≠ (j : Int)) (hdl : dl.length ≤ 48) (hp : p ≤ 24) (hz : (rs[j]).f1.size ≤ 4) (x109 : Int) (t : Nat) (ht : t < 24) : ∀ (d k i : Nat), i + d = dl.length →
    (laws_FnRulesRead.l1 k rs w (toI tk) nm dl ((p + (rs[j]).f1.size : Nat) : Int) x109 ((t + 1 : Nat) : Int) = R) → laws_FnRulesRead.l3 (k + d + 1) rs w (toI tk) nm dl (p : Int) (j : Int) x109 (t : Int) (dl.length : Int) (i : Int) = R
  | 0, k, i, h, hR => by
    show laws_FnRulesRead.l3 (k + 1) rs w (toI tk) nm dl (p : Int) (j : Int) x109 (t : Int) (dl.length : Int) (i : Int) = R
    rw [laws_FnRulesRead.l3, if_neg (nlt (by omega)), if_pos (nn j), if_pos (lt' hj), rdI_at hj, sum (Nat.le_refl _) (by omega), up ht (by decide)]
    exact hR
  | d + 1, k, i, h, hR => by
    have hi : i < dl.length := by omega
    have hne : ¬ (rd dl (i : Int) = (j : Int)) := by
      have : rd dl (i : Int) = dl[i] := by
        unfold rd
        rw [Int.toNat_natCast, List.getD_eq_getElem?_getD, List.getElem?_eq_getElem hi]; rfl
      rw [this]
      exact hd _ (List.getElem_mem hi)
    have ih := l3_i hl p j hj hd hdl hp hz x109 t ht d k (i + 1) (by omega) hR
    show laws_FnRulesRead.l3 (k + d + 1 + 1) rs w (toI tk) nm dl (p : Int) (j : Int) x109 (t : Int) (dl.length : Int) (i : Int) = R
    rw [laws_FnRulesRead.l3, if_pos (lt' hi), if_pos (nn i), if_pos (lt' hi), if_neg hne, up hi (by omega)]
    exact ih
end
end Go.Proofs.YtmmcdpijpdjnoaaDoor.RrPure
