/- Spoken: what is left of the law beside the walk. -/
import Derived.Test.YtiebjnppmcpffaaDoorPFnSpokenx
import Derived.Test.YtiebjnppmcpffaaDoorDn
import Derived.Test.YtiebjnppmcpffaaDoorNk
set_option linter.unusedVariables false
set_option linter.unusedSimpArgs false
set_option maxRecDepth 4000
namespace Go.Proofs.YtiebjnppmcpffaaDoor.SpkPure
open Go.RowKit Go.Proofs.YtiebjnppmcpffaaDoorW.PrintWords Go.Proofs.YtiebjnppmcpffaaDoor Go.Proofs.YtiebjnppmcpffaaDoor.PFnSpoken Go.Proofs.YtiebjnppmcpffaaDoor.Lm Go.Proofs.YtiebjnppmcpffaaDoor.Nk
theorem gs0 (c : UInt8) (k : Nat) (x : ByteArray) (l : List ByteArray) (n : Nat) (hc : x.data.toList.count c = 0) (hl : l.length = n + 1) (hn : n ≤ 4194304) : strings_genSplit.l0 (k + 1) x (ba [c]) 0 (n : Int) l (n : Int) = some (l.take n ++ cutB c x) := by
  have hn0 : c ∉ x.data.toList := fun h => by
    have := List.count_pos_iff.2 h
    omega
  have e1 : wrap64 ((n : Int) + 1) = ((n + 1 : Nat) : Int) := by rw [w64 (by omega) (by omega)]; omega
  have f1 : ¬ ((n : Int) < (n : Int)) := by omega
  have f2 : (0 : Int) ≤ (n : Int) := by omega
  have f3 : (n : Int) < (l.length : Int) := by omega
  have f4 : (0 : Int) ≤ ((n + 1 : Nat) : Int) := by omega
  have f5 : ((n + 1 : Nat) : Int) ≤ (l.length : Int) := by omega
  have f6 : n < l.length := by omega
  rw [strings_genSplit.l0, if_neg f1, if_pos f2, if_pos f3, e1, if_pos f4, if_pos f5, Int.toNat_natCast, Int.toNat_natCast]
  unfold cutB
  rw [cut_none hn0, take_set_snoc f6]
  rfl
theorem gs1 (c : UInt8) (k : Nat) (x : ByteArray) (l : List ByteArray) (i n : Nat) (p r : List UInt8) (hin : i < n) (hl : l.length = n + 1) (hn : n ≤ 4194304) (hx : x.size ≤ 4194304) (h2 : x.data.toList = p ++ c :: r) (h4 : Lib.indexByte x.data.toList c = (p.length : Int)) :
    strings_genSplit.l0 (k + 1) x (ba [c]) 0 (n : Int) l (i : Int) = strings_genSplit.l0 k (ba r) (ba [c]) 0 (n : Int) (l.set i (ba p)) ((i + 1 : Nat) : Int) := by
  obtain ⟨g1, g2, g3⟩ := take_hit h2
  have hI : strings_Index.f x (ba [c]) = some ((p.length : Nat) : Int) := by
    unfold strings_Index.f
    rw [if_pos (show (ba [c]).size = 1 from rfl), ← h4]; rfl
  clear h4 h2
  have f1 : (i : Int) < (n : Int) := by omega
  have f2 : ¬ (((p.length : Nat) : Int) < 0) := by omega
  have f3 : (0 : Int) ≤ ((p.length : Nat) : Int) := by omega
  have f4 : ((p.length : Nat) : Int) ≤ (x.size : Int) := by omega
  have f5 : (0 : Int) ≤ (i : Int) := by omega
  have f6 : (i : Int) < (l.length : Int) := by omega
  have f7 : (0 : Int) ≤ ((p.length + 1 : Nat) : Int) := by omega
  have f8 : ((p.length + 1 : Nat) : Int) ≤ (x.size : Int) := by omega
  have e1 : wrap64 ((i : Int) + 1) = ((i + 1 : Nat) : Int) := by rw [w64 (by omega) (by omega)]; omega
  have e2 : wrap64 (((p.length : Nat) : Int) + 0) = ((p.length : Nat) : Int) := by rw [w64 (by omega) (by omega)]; omega
  have e3 : wrap64 (((p.length : Nat) : Int) + (((ba [c]).size : Nat) : Int)) = ((p.length + 1 : Nat) : Int) := by
    rw [show (((ba [c]).size : Nat) : Int) = 1 from rfl, w64 (by omega) (by omega)]; omega
  rw [strings_genSplit.l0, if_pos f1, hI, Option.bind_some, if_neg f2, e2, if_pos f3, if_pos f4, if_pos f5, if_pos f6, e3, if_pos f7, if_pos f8, e1, Int.toNat_natCast, Int.toNat_natCast, Int.toNat_natCast, g1, g2]
theorem gsl (c : UInt8) (n : Nat) (hn : n ≤ 4194304) (d : Nat) : ∀ (k : Nat) (x : ByteArray) (l : List ByteArray) (i : Nat), i + d = n → x.data.toList.count c = d → l.length = n + 1 → x.size ≤ 4194304 → d < k →
    strings_genSplit.l0 k x (ba [c]) 0 (n : Int) l (i : Int) = some (l.take i ++ cutB c x) := by
  induction d with
  | zero =>
    intro k x l i h1 hc hl hx hk
    obtain ⟨k, rfl⟩ : ∃ m, k = m + 1 := ⟨k - 1, by omega⟩
    obtain rfl : i = n := by omega
    exact gs0 c k x l i hc hl hn
  | succ d ih =>
    intro k x l i h1 hc hl hx hk
    obtain ⟨k, rfl⟩ : ∃ m, k = m + 1 := ⟨k - 1, by omega⟩
    rcases index_spec c x.data.toList with ⟨_, h⟩ | ⟨p, r, h2, h3, h4⟩
    · rw [List.count_eq_zero_of_not_mem h] at hc
      omega
    · obtain ⟨g1, g2, g3⟩ := take_hit h2
      have hcr : (ba r).data.toList.count c = d := by
        rw [h2, count_hit h3] at hc
        rw [list_ba]; omega
      rw [gs1 c k x l i n p r (by omega) hl hn hx h2 h4, ih k (ba r) _ (i + 1) (by omega) hcr (by rw [List.length_set]; exact hl) (by rw [size_ba]; omega) (by omega), take_set_snoc (by omega)]
      unfold cutB
      rw [h2, cut_hit r h3, List.append_assoc]
      rfl
theorem split_some (s : ByteArray) (hs : s.size ≤ 4194303) (c : UInt8) (k : Nat) (hk : s.size + 1 < k) : strings_Split.f k s (ba [c]) = some (cutB c s) := by
  obtain ⟨k, rfl⟩ : ∃ m, k = m + 1 := ⟨k - 1, by omega⟩
  have hle : s.data.toList.count c ≤ s.size := List.count_le_length
  have hC : strings_Count.f s (ba [c]) = some ((s.data.toList.count c : Nat) : Int) := by
    unfold strings_Count.f
    rw [if_pos (show (ba [c]).size = 1 from rfl)]; rfl
  have e1 : wrap64 (((s.data.toList.count c : Nat) : Int) + 1) = ((s.data.toList.count c + 1 : Nat) : Int) := by rw [w64 (by omega) (by omega)]; omega
  have e2 : mn ((s.data.toList.count c + 1 : Nat) : Int) (wrap64 ((s.size : Int) + 1)) = ((s.data.toList.count c + 1 : Nat) : Int) := by
    rw [w64 (by omega) (by omega)]; unfold mn; split <;> omega
  have e3 : wrap64 (((s.data.toList.count c + 1 : Nat) : Int) - 1) = ((s.data.toList.count c : Nat) : Int) := by rw [w64 (by omega) (by omega)]; omega
  have hne : ¬ ((ba [c]).toList = ([] : List UInt8)) := by
    intro h
    have := nil_iff.1 h
    cases this
  unfold strings_Split.f strings_genSplit.f
  rw [if_neg (by decide), if_neg hne, if_pos (by decide), hC, Option.bind_some, e1, strings_genSplit.j0, e2, if_pos (by omega), if_pos (by omega), e3, Int.toNat_natCast]
  have hg := gsl c (s.data.toList.count c) (by omega) (s.data.toList.count c) k s (List.replicate (s.data.toList.count c + 1) (⟨#[]⟩ : ByteArray)) 0 (by omega) rfl (by rw [List.length_replicate]) (by omega) (by omega)
  rw [show (((0 : Nat) : Int)) = 0 from rfl] at hg
  rw [hg]
  rfl
/-- the digits as the reference lays them, from the last one -/
def dI (u : Nat) : List Int := (Lib.decDigits u).map fun c => (c.toNat : Int)
theorem str_dI (L : List UInt8) : strOfNums (L.map fun c => (c.toNat : Int)) = ⟨L.toArray⟩ := by
  unfold strOfNums
  rw [List.map_map]
  congr 2
  conv => rhs; rw [← List.map_id L]
  refine List.map_congr_left fun c _ => ?_
  show UInt8.ofNat ((c.toNat : Int)).toNat = c
  rw [Int.toNat_natCast, UInt8.ofNat_toNat]
theorem dI_one {u : Nat} (h : u < 10) : dI u = [((48 + u : Nat) : Int)] := by
  unfold dI
  rw [Lib.decDigits, dif_pos h, List.map_singleton, Dn.dig_nat u h]
theorem dI_more {u : Nat} (h : ¬ u < 10) : dI u = dI (u / 10) ++ [((48 + u % 10 : Nat) : Int)] := by
  unfold dI
  rw [Lib.decDigits, dif_neg h, List.map_append, List.map_singleton, Dn.dig_nat _ (by omega)]
theorem dI_len (d u : Nat) (h : u < 10 ^ (d + 1)) : (dI u).length ≤ d + 1 := by unfold dI; rw [List.length_map]; exact Dn.dec_len d u h
theorem dec_dig (x : Int) (h0 : -9223372036854775808 ≤ x) (h1 : x ≤ 9223372036854775807) : (if Int.tmod x 10 < 0 then (wrap64 (48 + (wrap64 (-(Int.tmod x 10))))) % 256 else (wrap64 (48 + (Int.tmod x 10))) % 256) = ((48 + x.natAbs % 10 : Nat) : Int) := by
  have h2 : Int.tmod x 10 = if x < 0 then -((x.natAbs % 10 : Nat) : Int) else ((x.natAbs % 10 : Nat) : Int) := by
    split
    · rename_i h
      rw [show x = -((x.natAbs : Nat) : Int) by omega, Int.neg_tmod, Int.tmod_eq_emod_of_nonneg (by omega)]
      simp
    · rename_i h
      rw [Int.tmod_eq_emod_of_nonneg (by omega)]
      omega
  have hm : x.natAbs % 10 < 10 := by omega
  generalize x.natAbs % 10 = m at h2 hm ⊢
  by_cases hx : x < 0
  · rw [if_pos hx] at h2
    rw [h2]
    split
    · rw [w64 (x := - -(m : Int)) (by omega) (by omega), w64 (by omega) (by omega)]; omega
    · rw [w64 (by omega) (by omega)]; omega
  · rw [if_neg hx] at h2
    rw [h2, if_neg (by omega), w64 (by omega) (by omega)]; omega
theorem dec_next (x : Int) (h0 : -9223372036854775808 ≤ x) (h1 : x ≤ 9223372036854775807) : (wrap64 (Int.tdiv x 10)).natAbs = x.natAbs / 10 ∧ -9223372036854775808 ≤ wrap64 (Int.tdiv x 10) ∧ wrap64 (Int.tdiv x 10) ≤ 9223372036854775807 ∧ (wrap64 (Int.tdiv x 10) = 0 ↔ x.natAbs / 10 = 0) := by
  have h2 : (Int.tdiv x 10).natAbs = x.natAbs / 10 := by rw [Int.natAbs_tdiv]; rfl
  have h3 : wrap64 (Int.tdiv x 10) = Int.tdiv x 10 := w64 (by omega) (by omega)
  rw [h3]
  exact ⟨h2, by omega, by omega, by omega⟩
def decFin (x0 : Int) (L : List Int) : ByteArray := if x0 < 0 then strOfNums (45 :: L) else strOfNums L
theorem dec_end (k : Nat) (x0 : Int) (L : List Int) (hL : L ≠ []) (hl : L.length ≤ 1000) : spec_l01Dec.l0 (k + 2) x0 L 0 = some (decFin x0 L) := by
  rw [spec_l01Dec.l0, if_neg (by cases L with | nil => exact absurd rfl hL | cons a L => simp; omega), show ((0 : Int) != 0) = false from rfl, spec_l01Dec.j1, if_neg (by decide)]
  unfold decFin
  split
  · rw [Option.bind_some, if_pos (by simp; omega)]; rfl
  · rfl
theorem dec_loop (x0 : Int) : ∀ (d k : Nat) (x : Int) (L : List Int), x.natAbs < 10 ^ (d + 1) → -9223372036854775808 ≤ x → x ≤ 9223372036854775807 → (L = [] ∨ x ≠ 0) → L.length + d + 1 ≤ 900 → 2 * d + 4 ≤ k → spec_l01Dec.l0 k x0 L x = some (decFin x0 (dI x.natAbs ++ L))
  | d, 0, x, L, h, h0, h1, hx, hl, hk => by omega
  | d, 1, x, L, h, h0, h1, hx, hl, hk => by omega
  | d, k + 2, x, L, h, h0, h1, hx, hl, hk => by
    have hj : spec_l01Dec.l0 (k + 2) x0 L x = spec_l01Dec.j1 (k + 1) x0 L x true := by
      rw [spec_l01Dec.l0]
      by_cases c : (L.length : Int) = 0
      · rw [if_pos c]
      · rw [if_neg c]
        have : x ≠ 0 := by
          rcases hx with rfl | hx
          · exact absurd rfl c
          · exact hx
        rw [show (x != 0) = true from bne_iff_ne.2 this]
    have hs : spec_l01Dec.j1 (k + 1) x0 L x true = spec_l01Dec.l0 k x0 (((48 + x.natAbs % 10 : Nat) : Int) :: L) (wrap64 (Int.tdiv x 10)) := by
      have hd := dec_dig x h0 h1
      rw [spec_l01Dec.j1, if_pos rfl]
      split at hd
      · rename_i h
        rw [if_pos h, Option.bind_some, hd, if_pos (by simp; omega)]; rfl
      · rename_i h
        rw [if_neg h, Option.bind_some, hd, if_pos (by simp; omega)]; rfl
    obtain ⟨n1, n2, n3, n4⟩ := dec_next x h0 h1
    rw [hj, hs]
    by_cases c : x.natAbs < 10
    · have z : wrap64 (Int.tdiv x 10) = 0 := n4.2 (by omega)
      obtain ⟨k, rfl⟩ : ∃ m, k = m + 2 := ⟨k - 2, by omega⟩
      rw [z, dec_end k x0 _ (by simp) (by simp; omega), dI_one c, show x.natAbs % 10 = x.natAbs by omega]; rfl
    · cases d with
      | zero => simp at h; omega
      | succ d =>
        rw [dec_loop x0 d k _ _ (by rw [n1]; rw [Nat.pow_succ] at h; omega) n2 n3 (.inr (fun e => by have := n4.1 e; omega)) (by simp only [List.length_cons]; omega) (by omega), n1, dI_more c, List.append_assoc]; rfl
theorem spec_dec (n : Int) (h0 : -9223372036854775808 ≤ n) (h1 : n ≤ 9223372036854775807) (k : Nat) (hk : 50 ≤ k) : spec_l01Dec.f k n = some ⟨(Lib.itoa n).toArray⟩ := by
  unfold spec_l01Dec.f
  rw [dec_loop n 19 k n [] (by show n.natAbs < 100000000000000000000; omega) h0 h1 (.inl rfl) (by simp) (by omega), List.append_nil]
  unfold decFin Lib.itoa dI
  split
  · rw [show (45 : Int) = (((45 : UInt8).toNat : Nat) : Int) from rfl, ← List.map_cons (f := fun c : UInt8 => (c.toNat : Int)), str_dI]
  · rw [str_dI, show n.natAbs = n.toNat by omega]
theorem impl_sn (a0 : ByteArray) (h : ¬ (a0.size : Int) > 256) (k : Nat) (hk : 1500 ≤ k) : impl_SpeakNumbers.f k a0 = some (⟨(Lib.join (((cutB 32 a0).map sp1).map (·.data.toList)) [32]).toArray⟩, true) := by
  unfold impl_SpeakNumbers.f
  rw [if_neg h, show ((⟨#[32]⟩ : ByteArray)) = ba [32] from rfl, split_some a0 (by omega) 32 k (by omega), Option.bind_some]
  refine if_pos ⟨?_, ?_, ?_⟩
  · refine List.length_pos_iff.2 fun e => cut_ne 32 a0.data.toList ?_
    unfold cutB at e; exact List.map_eq_nil_iff.1 e
  · unfold cutB
    rw [List.length_map, cut_len]
    have : a0.data.toList.count 32 ≤ a0.data.toList.length := List.count_le_length
    rw [size_list] at this; omega
  · intro x hx
    unfold cutB at hx
    obtain ⟨p, hp, rfl⟩ := List.mem_map.1 hx
    have := cut_piece hp
    rw [size_list] at this
    rw [size_ba]; omega
/-- what both tell -/
def Tells (a0 : ByteArray) (r : Int × Bool) : Prop := (r = (0, false) ∧ ∀ n, n < 1000000 → lD n ≠ a0.data.toList) ∨ ∃ n, n < 1000000 ∧ lD n = a0.data.toList ∧ r = ((n : Int), true)
theorem tells_unique {a0 : ByteArray} {r s : Int × Bool} (h1 : Tells a0 r) (h2 : Tells a0 s) : r = s := by
  rcases h1 with ⟨rfl, h1⟩ | ⟨n, hn, en, rfl⟩
  · rcases h2 with ⟨rfl, _⟩ | ⟨m, hm, em, _⟩
    · rfl
    · exact absurd em (h1 m hm)
  · rcases h2 with ⟨_, h2⟩ | ⟨m, hm, em, rfl⟩
    · exact absurd en (h2 n hn)
    · rw [inj hn hm (en.trans em.symm)]
/-- the program's small numbers: the first one with these words -/
theorem small_loop (x : ByteArray) : ∀ (d j k : Nat), j + d = 1000 → d < k → ∃ r, impl_smallNumber.l0 k x (j : Int) = some r ∧ ((r = (0, false) ∧ ∀ n, j ≤ n → n < 1000 → lC n ≠ x.data.toList) ∨ ∃ n, j ≤ n ∧ n < 1000 ∧ lC n = x.data.toList ∧ r = ((n : Int), true))
  | d, j, 0, h1, h2 => by omega
  | 0, j, k + 1, h1, h2 => by
    obtain rfl : j = 1000 := by omega
    refine ⟨(0, false), by rw [impl_smallNumber.l0, if_neg (by omega)], .inl ⟨rfl, fun n a b => by omega⟩⟩
  | d + 1, j, k + 1, h1, h2 => by
    have hD : nwD (j : Int) = nwC (j : Int) := by unfold nwD; rw [if_pos (by omega)]
    rw [impl_smallNumber.l0, if_pos (by omega)]
    unfold impl_numberWords.f
    rw [if_pos ⟨by omega, by omega⟩, Option.bind_some, hD]
    by_cases e : lC j = x.data.toList
    · refine ⟨((j : Int), true), by rw [if_pos (by rw [toList_lit, ByteArray.toList_eq, nwC_list]; exact e)], .inr ⟨j, Nat.le_refl _, by omega, e, rfl⟩⟩
    · obtain ⟨r, h3, h4⟩ := small_loop x d (j + 1) k (by omega) (by omega)
      refine ⟨r, ?_, ?_⟩
      · rw [if_neg (by rw [toList_lit, ByteArray.toList_eq, nwC_list]; exact e), w64 (by omega) (by omega)]; exact h3
      · rcases h4 with ⟨hr, h4⟩ | ⟨n, h5, h6, h7, h8⟩
        · exact .inl ⟨hr, fun n a b => by
            by_cases hn : n = j
            · rw [hn]; exact e
            · exact h4 n (by omega) b⟩
        · exact .inr ⟨n, by omega, h6, h7, h8⟩
theorem lC_inj {n m : Nat} (hn : n < 1000) (hm : m < 1000) (h : lC n = lC m) : n = m := by
  refine inj (n := n) (m := m) (by omega) (by omega) ?_
  unfold lD; rw [if_pos hn, if_pos hm, h]
/-- the small number of a text: of none 0; of words their number -/
def Small (x : List UInt8) (r : Int × Bool) : Prop := (x = [] ∧ r = (0, true)) ∨ (r = (0, false) ∧ x ≠ [] ∧ ∀ n, n < 1000 → lC n ≠ x) ∨ ∃ n, n < 1000 ∧ lC n = x ∧ r = ((n : Int), true)
theorem small_tells (x : ByteArray) (k : Nat) (hk : 1000 < k) : ∃ r, impl_smallNumber.f k x = some r ∧ Small x.data.toList r := by
  unfold impl_smallNumber.f
  by_cases e : x.data.toList = []
  · exact ⟨(0, true), by rw [if_pos (by rw [toList_lit]; exact e)], .inl ⟨e, rfl⟩⟩
  · obtain ⟨r, h1, h2⟩ := small_loop x 1000 0 k rfl hk
    refine ⟨r, by rw [if_neg (by rw [toList_lit]; exact e)]; exact h1, ?_⟩
    rcases h2 with ⟨hr, h2⟩ | ⟨n, _, h4, h5, h6⟩
    · exact .inr (.inl ⟨hr, e, fun n hn => h2 n (Nat.zero_le _) hn⟩)
    · exact .inr (.inr ⟨n, h4, h5, h6⟩)
theorem small_of {x : List UInt8} {r : Int × Bool} (h : Small x r) : 0 ≤ r.1 ∧ r.1 < 1000 := by
  rcases h with ⟨_, rfl⟩ | ⟨rfl, _⟩ | ⟨n, hn, _, rfl⟩ <;> simp <;> omega
theorem small_word {n : Nat} (hn : n < 1000) {x : List UInt8} {r : Int × Bool} (h : Small x r) (e : lC n = x) : r = ((n : Int), true) := by
  rcases h with ⟨h, _⟩ | ⟨_, _, h⟩ | ⟨m, hm, em, rfl⟩
  · rw [h] at e; exact absurd e (k2 ⟨n, hn⟩).2.2.2
  · exact absurd e (h n hn)
  · rw [lC_inj hn hm (e.trans em.symm)]
theorem small_nil {r : Int × Bool} (h : Small [] r) : r = (0, true) := by
  rcases h with ⟨_, h⟩ | ⟨_, h, _⟩ | ⟨m, hm, em, _⟩
  · exact h
  · exact absurd rfl h
  · exact absurd em (k2 ⟨m, hm⟩).2.2.2
theorem trim_suf (xs : List UInt8) : Lib.trimSuffix (xs ++ [32]) [32] = xs := by
  unfold Lib.trimSuffix Lib.hasSuffix
  rw [if_pos (List.isSuffixOf_iff_suffix.2 (List.suffix_append _ _))]
  simp
theorem trim_pre (xs : List UInt8) : Lib.trimPrefix (32 :: xs) [32] = xs := by
  unfold Lib.trimPrefix Lib.hasPrefix
  rw [if_pos (by simp [List.isPrefixOf])]; rfl
theorem trim_not {xs : List UInt8} (h : xs.head? ≠ some 32) : Lib.trimPrefix xs [32] = xs := by
  unfold Lib.trimPrefix Lib.hasPrefix
  refine if_neg ?_
  cases xs with
  | nil => decide
  | cons x xs =>
    intro e
    apply h
    simp only [List.isPrefixOf, Bool.and_eq_true, beq_iff_eq] at e
    rw [List.head?_cons, ← e.1]
theorem great {n : Nat} (hn : n < 1000000) (h : 1000 ≤ n) : ∃ R, lD n = lC (n / 1000) ++ 32 :: thoW ++ R ∧ ((R = [] ∧ n % 1000 = 0) ∨ R = 32 :: lC (n % 1000)) := by
  unfold lD lmore
  rw [if_neg (by omega)]
  by_cases hz : n % 1000 = 0
  · exact ⟨[], by rw [if_pos hz, List.append_nil], .inl ⟨rfl, hz⟩⟩
  · exact ⟨_, by rw [if_neg hz], .inr rfl⟩
theorem small_words (n : Nat) (h : n < 1000) : lD n = lC n := by unfold lD; rw [if_pos h]
theorem impl_tells (a0 : ByteArray) (k : Nat) (hk : 1001 < k) : ∃ r, impl_ReadNumberWords.f k a0 = some r ∧ Tells a0 r := by
  obtain ⟨k, rfl⟩ : ∃ m, k = m + 1 := ⟨k - 1, by omega⟩
  unfold impl_ReadNumberWords.f strings_Cut.f
  by_cases hz : 256 < a0.size
  · refine ⟨(0, false), by rw [if_pos (by omega)], .inl ⟨rfl, fun n hn e => ?_⟩⟩
    have h1 := nwD_size (n : Int)
    have h2 : (nwD (n : Int)).size = (lD n).length := by rw [← nwD_list]; exact (size_list _).symm
    rw [h2, e, size_list] at h1
    omega
  rw [if_neg (by omega), if_pos (by omega), Option.bind_some]
  have ht : ((⟨#[116, 104, 111, 117, 115, 97, 110, 100]⟩ : ByteArray)).data.toList = thoW := rfl
  rw [ht]
  clear ht
  have hs : ∀ x : ByteArray, x.size ≤ 256 → strings_TrimSuffix.f x (⟨#[32]⟩ : ByteArray) = some ⟨(Lib.trimSuffix x.data.toList [32]).toArray⟩ := fun x hx => by
    unfold strings_TrimSuffix.f; rw [if_pos (by omega)]
  have hp : ∀ x : ByteArray, strings_TrimPrefix.f x (⟨#[32]⟩ : ByteArray) = some ⟨(Lib.trimPrefix x.data.toList [32]).toArray⟩ := fun x => rfl
  unfold Lib.cut
  by_cases c : 0 ≤ Lib.index a0.data.toList thoW
  · rw [if_pos c]
    simp only [if_true]
    rw [impl_ReadNumberWords.j0, hs _ (by show (a0.data.toList.take _).toArray.size ≤ 256; rw [List.size_toArray, List.length_take, size_list]; omega), Option.bind_some]
    obtain ⟨H, h1, h2⟩ := small_tells ⟨(Lib.trimSuffix (a0.data.toList.take (Lib.index a0.data.toList thoW).toNat) [32]).toArray⟩ k (by omega)
    rw [h1, Option.bind_some, hp, Option.bind_some]
    obtain ⟨L, h3, h4⟩ := small_tells ⟨(Lib.trimPrefix (a0.data.toList.drop ((Lib.index a0.data.toList thoW).toNat + thoW.length)) [32]).toArray⟩ k (by omega)
    rw [h3, Option.bind_some, if_pos rfl]
    have b1 := small_of h2
    have b2 := small_of h4
    have key : ∀ n, n < 1000000 → lD n = a0.data.toList → H.2 = true ∧ L.2 = true ∧ 1000 * H.1 + L.1 = (n : Int) := by
      intro n hn e
      by_cases hl : n < 1000
      · rw [← e, small_words n hl, cut_none' hl] at c; omega
      · obtain ⟨R, e1, e2⟩ := great hn (by omega)
        have ha : n / 1000 < 1000 := by omega
        have hi : Lib.index a0.data.toList thoW = (((lC (n / 1000)).length + 1 : Nat) : Int) := by rw [← e, e1]; exact cut_some ha R
        have ht : a0.data.toList.take (Lib.index a0.data.toList thoW).toNat = lC (n / 1000) ++ [32] := by
          rw [hi, Int.toNat_natCast, ← e, e1, List.append_assoc, List.take_append, List.take_of_length_le (by omega)]
          simp
        have hd : a0.data.toList.drop ((Lib.index a0.data.toList thoW).toNat + thoW.length) = R := by
          have h9 : (lC (n / 1000) ++ 32 :: thoW).length = (lC (n / 1000)).length + 1 + thoW.length := by rw [List.length_append, List.length_cons]; omega
          rw [hi, Int.toNat_natCast, ← e, e1, ← h9, List.drop_left]
        have hH : H = (((n / 1000 : Nat) : Int), true) := by
          refine small_word ha h2 ?_
          show _ = (Lib.trimSuffix (a0.data.toList.take _) [32]).toArray.toList
          rw [ht, trim_suf]
        have hL : L = (((n % 1000 : Nat) : Int), true) := by
          rcases e2 with ⟨r1, r2⟩ | r1
          · rw [r2]
            refine small_nil (?_ : Small [] L)
            have : (Lib.trimPrefix (a0.data.toList.drop ((Lib.index a0.data.toList thoW).toNat + thoW.length)) [32]) = [] := by rw [hd, r1]; decide
            rw [this] at h4; exact h4
          · refine small_word (by omega) h4 ?_
            show _ = (Lib.trimPrefix (a0.data.toList.drop _) [32]).toArray.toList
            rw [hd, r1, trim_pre]
        rw [hH, hL]
        refine ⟨rfl, rfl, ?_⟩
        show 1000 * ((n / 1000 : Nat) : Int) + ((n % 1000 : Nat) : Int) = n
        omega
    by_cases c1 : H.2 = true
    · rw [if_pos c1]
      by_cases c2 : L.2 = true
      · rw [if_pos c2]
        have e1 : wrap64 (wrap64 (1000 * H.1) + L.1) = 1000 * H.1 + L.1 := by rw [w64 (x := 1000 * H.1) (by omega) (by omega), w64 (by omega) (by omega)]
        rw [e1]
        unfold impl_numberWords.f
        rw [if_pos ⟨by omega, by omega⟩, Option.bind_some]
        obtain ⟨m, hm⟩ : ∃ m : Nat, 1000 * H.1 + L.1 = (m : Int) := ⟨(1000 * H.1 + L.1).toNat, by omega⟩
        rw [hm]
        by_cases e2 : lD m = a0.data.toList
        · exact ⟨_, by rw [if_pos (by rw [list_eq_iff]; exact nwD_eq.2 e2)], .inr ⟨m, by omega, e2, rfl⟩⟩
        · refine ⟨(0, false), by rw [if_neg (fun h => e2 (nwD_eq.1 (list_eq_iff.1 h)))], .inl ⟨rfl, fun n hn e => ?_⟩⟩
          have := (key n hn e).2.2
          rw [hm] at this
          obtain rfl : m = n := by omega
          exact e2 e
      · exact ⟨(0, false), by rw [if_neg c2], .inl ⟨rfl, fun n hn e => c2 (key n hn e).2.1⟩⟩
    · exact ⟨(0, false), by rw [if_neg c1], .inl ⟨rfl, fun n hn e => c1 (key n hn e).1⟩⟩
  · rw [if_neg c]
    simp only [Bool.false_eq_true, if_false]
    rw [impl_ReadNumberWords.j0, hs _ (by show (0 : Nat) ≤ 256; omega), Option.bind_some]
    obtain ⟨H, h1, h2⟩ := small_tells ⟨(Lib.trimSuffix (⟨#[]⟩ : ByteArray).data.toList [32]).toArray⟩ k (by omega)
    rw [h1, Option.bind_some, hp, Option.bind_some]
    obtain ⟨L, h3, h4⟩ := small_tells ⟨(Lib.trimPrefix a0.data.toList [32]).toArray⟩ k (by omega)
    rw [h3, Option.bind_some, if_neg (by decide)]
    have b2 := small_of h4
    have key : ∀ n, n < 1000000 → lD n = a0.data.toList → L = ((n : Int), true) := by
      intro n hn e
      by_cases hl : n < 1000
      · refine small_word hl h4 ?_
        show _ = (Lib.trimPrefix a0.data.toList [32]).toArray.toList
        rw [← e, small_words n hl, trim_not (k2 ⟨n, hl⟩).2.2.1]
      · exfalso
        obtain ⟨R, e1, e2⟩ := great hn (by omega)
        have hi : Lib.index a0.data.toList thoW = (((lC (n / 1000)).length + 1 : Nat) : Int) := by rw [← e, e1]; exact cut_some (by omega) R
        rw [hi] at c; omega
    by_cases c2 : L.2 = true
    · rw [if_pos c2, w64 (x := L.1) (by omega) (by omega)]
      unfold impl_numberWords.f
      rw [if_pos ⟨by omega, by omega⟩, Option.bind_some]
      obtain ⟨m, hm⟩ : ∃ m : Nat, L.1 = (m : Int) := ⟨L.1.toNat, by omega⟩
      rw [hm]
      by_cases e2 : lD m = a0.data.toList
      · exact ⟨_, by rw [if_pos (by rw [list_eq_iff]; exact nwD_eq.2 e2)], .inr ⟨m, by omega, e2, rfl⟩⟩
      · refine ⟨(0, false), by rw [if_neg (fun h => e2 (nwD_eq.1 (list_eq_iff.1 h)))], .inl ⟨rfl, fun n hn e => ?_⟩⟩
        have := key n hn e
        rw [this] at hm
        have hm' : n = m := by have h9 : (n : Int) = (m : Int) := hm; omega
        rw [hm'] at e
        exact e2 e
    · refine ⟨(0, false), by rw [if_neg c2], .inl ⟨rfl, fun n hn e => ?_⟩⟩
      rw [key n hn e] at c2
      exact c2 rfl
theorem numberWords_eq (n : Int) (h0 : 0 ≤ n) (h1 : n ≤ 999999) : impl_NumberWords.f n = some (nwD n, true) := by
  unfold impl_NumberWords.f impl_within.f impl_numberWords.f
  rw [if_pos h0, Option.bind_some, if_pos (decide_eq_true h1), if_pos ⟨h0, by omega⟩]; rfl
theorem numberWords_neg (n : Int) (h0 : n < 0) : impl_NumberWords.f n = some (⟨#[]⟩, false) := by
  unfold impl_NumberWords.f impl_within.f
  rw [if_neg (by omega)]; rfl
theorem read_words (n : Nat) (hn : n < 1000000) (k : Nat) (hk : 1001 < k) : impl_ReadNumberWords.f k (nwD (n : Int)) = some ((n : Int), true) := by
  obtain ⟨r, h1, h2⟩ := impl_tells (nwD (n : Int)) k hk
  rw [h1]
  rcases h2 with ⟨_, h2⟩ | ⟨m, hm, em, rfl⟩
  · exact absurd (nwD_list n).symm (h2 n hn)
  · rw [nwD_list] at em
    rw [inj hm hn em]
theorem at_range (l : List Int) (hl : ∀ x ∈ l, (Lit.int .u8 x).wf = true) (hz : l.length ≤ 1048576) (i n : Int) (hi : 0 ≤ i) (hi2 : i ≤ 10) (hn : 1 < n) (hn2 : n ≤ 1000) : ∃ r, laws_b10At.f l i n = some r ∧ 0 ≤ r ∧ r < n := by
  unfold laws_b10At.f
  rw [if_neg (by omega)]
  by_cases c : i < (l.length : Int)
  · rw [if_pos c, if_pos hi, if_neg (by omega)]
    have hm : i.toNat < l.length := by omega
    have hx := hl (l[i.toNat]) (List.getElem_mem _)
    have hr : rd l i = l[i.toNat] := by
      unfold rd
      rw [List.getD_eq_getElem?_getD, List.getElem?_eq_getElem hm]; rfl
    have hb : 0 ≤ l[i.toNat] ∧ l[i.toNat] ≤ 255 := by simpa [Lit.wf, IntKind.min, IntKind.max, IntKind.signed, IntKind.bits] using hx
    rw [hr, w64 (by omega) (by omega)]
    refine ⟨_, rfl, ?_⟩
    rw [Int.tmod_eq_emod_of_nonneg hb.1]
    exact ⟨Int.emod_nonneg _ (by omega), Int.emod_lt_of_pos _ (by omega)⟩
  · rw [if_neg c, if_neg (by omega), w64 (x := i * 37) (by omega) (by omega), w64 (by omega) (by omega)]
    refine ⟨_, rfl, ?_⟩
    rw [Int.tmod_eq_emod_of_nonneg (by omega)]
    exact ⟨Int.emod_nonneg _ (by omega), Int.emod_lt_of_pos _ (by omega)⟩
set_option maxRecDepth 1000000 in
theorem k4 : ∀ b : Fin 1000, (cut 32 (lC b.1)).all (fun w => match w with | [] => false | c :: _ => decide (97 ≤ c.toNat)) = true := by decide +kernel
theorem letters_words (n : Nat) (hn : n < 1000000) : ∀ w ∈ cut 32 (lD n), ∃ c r, w = c :: r ∧ 97 ≤ c.toNat := by
  have key : ∀ b, b < 1000 → ∀ w ∈ cut 32 (lC b), ∃ c r, w = c :: r ∧ 97 ≤ c.toNat := by
    intro b hb w hw
    have := List.all_eq_true.1 (k4 ⟨b, hb⟩) w hw
    cases w with
    | nil => cases this
    | cons c r => exact ⟨c, r, rfl, by simpa using this⟩
  unfold lD
  by_cases h : n < 1000
  · rw [if_pos h]; exact key n h
  · rw [if_neg h]
    intro w hw
    unfold lmore at hw
    by_cases hz : n % 1000 = 0
    · rw [if_pos hz, cut_app, cut_tho] at hw
      rcases List.mem_append.1 hw with hw | hw
      · exact key _ (by omega) w hw
      · rw [List.mem_singleton] at hw; exact ⟨116, _, hw, by decide⟩
    · rw [if_neg hz, cut_app, cut_app, cut_tho] at hw
      rcases List.mem_append.1 hw with hw | hw
      · rcases List.mem_append.1 hw with hw | hw
        · exact key _ (by omega) w hw
        · rw [List.mem_singleton] at hw; exact ⟨116, _, hw, by decide⟩
      · exact key _ (by omega) w hw
theorem no_number (x : ByteArray) (c : UInt8) (r : List UInt8) (h : x.data.toList = c :: r) (hc : 97 ≤ c.toNat) : sp1 x = x := by
  have hp : Lib.parseIntB 64 x.data.toList = .«syntax» := by
    rw [h]
    have a1 : ¬ c.toNat = 45 := by omega
    have a3 : ¬ c.toNat = 43 := by omega
    unfold Lib.parseIntB Lib.parseUintB
    simp only [a1, a3, or_self, if_false, reduceCtorEq]
    rw [Lib.parseUintM, if_neg (by omega)]
  unfold sp1 readDec
  rw [hp]
  exact if_neg (fun h => by cases h.1)
theorem join_cut (c : UInt8) : ∀ l : List UInt8, Lib.join (cut c l) [c] = l
  | [] => by rw [cut, Lib.join_one]
  | b :: l => by
    have ih := join_cut c l
    rw [cut]
    by_cases h : b = c
    · rw [if_pos h]
      cases hq : cut c l with
      | nil => exact absurd hq (cut_ne c l)
      | cons p ps =>
        rw [hq, Lib.join_cons] at ih
        rw [Lib.join_cons]
        unfold Lib.joinTail at ih ⊢
        rw [List.map_cons, List.flatten_cons, List.nil_append, List.append_assoc, ih, h]; rfl
    · rw [if_neg h]
      cases hq : cut c l with
      | nil => exact absurd hq (cut_ne c l)
      | cons p ps =>
        rw [hq, Lib.join_cons] at ih
        show Lib.join ((b :: p) :: ps) [c] = b :: l
        rw [Lib.join_cons, List.cons_append, ih]
theorem speak_words (n : Nat) (hn : n < 1000000) (k : Nat) (hk : 1500 ≤ k) : impl_SpeakNumbers.f k (nwD (n : Int)) = some (nwD (n : Int), true) := by
  have hz := nwD_size (n : Int)
  rw [impl_sn _ (by omega) k hk]
  have h1 : (cutB 32 (nwD (n : Int))).map sp1 = cutB 32 (nwD (n : Int)) := by
    conv => rhs; rw [← List.map_id (cutB 32 (nwD (n : Int)))]
    refine List.map_congr_left fun x hx => ?_
    unfold cutB at hx
    obtain ⟨p, hp, rfl⟩ := List.mem_map.1 hx
    rw [nwD_list] at hp
    obtain ⟨c, r, e, hc⟩ := letters_words n hn p hp
    exact no_number (ba p) c r e hc
  have h2 : (cutB 32 (nwD (n : Int))).map (·.data.toList) = cut 32 (lD n) := by
    unfold cutB
    rw [List.map_map, nwD_list]; exact List.map_id _
  rw [h1, h2, join_cut, ← nwD_list]
theorem dec_nosp (u : Nat) : (32 : UInt8) ∉ Lib.decDigits u := by
  induction u using Nat.strongRecOn with
  | _ u ih =>
    have hd : ∀ d, d < 10 → (32 : UInt8) ≠ UInt8.ofNat (48 + d) := fun d hd e => by
      have := congrArg UInt8.toNat e
      rw [Dn.dig_nat d hd] at this
      have h32 : (32 : UInt8).toNat = 32 := rfl
      omega
    rw [Lib.decDigits]
    split
    · rename_i h
      rw [List.mem_singleton]; exact hd u h
    · rename_i h
      rw [List.mem_append, List.mem_singleton]
      rintro (e | e)
      · exact ih _ (by omega) e
      · exact hd _ (by omega) e
theorem sp1_dec (n : Nat) (hn : n < 1000000) : sp1 ⟨(Lib.itoa (n : Int)).toArray⟩ = nwD (n : Int) := by
  have h : readDec ⟨(Lib.itoa (n : Int)).toArray⟩ = ((n : Int), true) := by
    rcases Dn.is_readDec ⟨(Lib.itoa (n : Int)).toArray⟩ with ⟨_, h⟩ | ⟨m, _, h1, h2⟩
    · exact absurd rfl (h n (by omega) (by omega))
    · rw [h2, Dn.itoa_inj (show Lib.itoa m = Lib.itoa n from h1)]
  unfold sp1
  rw [h]
  exact if_pos ⟨rfl, by show 0 ≤ (n : Int); omega, by show (n : Int) ≤ 999999; omega⟩
theorem itoa_nat (n : Nat) : Lib.itoa (n : Int) = Lib.decDigits n := by unfold Lib.itoa; rw [if_neg (by omega), Int.toNat_natCast]
def decB (n : Nat) : ByteArray := ⟨(Lib.itoa (n : Int)).toArray⟩
def textB (a b : ByteArray) : ByteArray := (((⟨#[120, 32]⟩ : ByteArray) ++ a) ++ (⟨#[32, 121, 32]⟩ : ByteArray)) ++ b
theorem text_list (a b : ByteArray) : (textB a b).data.toList = [120] ++ 32 :: (a.data.toList ++ 32 :: ([121] ++ 32 :: b.data.toList)) := by
  unfold textB
  rw [ba_append, ba_append, ba_append]
  show (([120, 32] ++ a.data.toList) ++ [32, 121, 32]) ++ b.data.toList = _
  simp
theorem decB_len (n : Nat) (hn : n < 1000000) : (decB n).size ≤ 17 := (Dn.itoa_len (n : Int) (by omega) (by omega)).2
theorem speak_text (n m : Nat) (hn : n < 1000000) (hm : m < 1000000) (k : Nat) (hk : 1500 ≤ k) : impl_SpeakNumbers.f k (textB (decB n) (decB m)) = some (textB (nwD (n : Int)) (nwD (m : Int)), true) := by
  have hc : ∀ u : Nat, cut 32 (decB u).data.toList = [(decB u).data.toList] := fun u => cut_none (by show (32 : UInt8) ∉ Lib.itoa (u : Int); rw [itoa_nat]; exact dec_nosp u)
  have hz : (textB (decB n) (decB m)).size ≤ 200 := by
    rw [← size_list, text_list]
    have h1 := decB_len n hn
    have h2 := decB_len m hm
    simp only [List.length_append, List.length_cons, List.length_nil, size_list]; omega
  rw [impl_sn _ (by omega) k hk]
  have h1 : cutB 32 (textB (decB n) (decB m)) = [ba [120], decB n, ba [121], decB m] := by
    unfold cutB
    rw [text_list, cut_app, cut_app, cut_app, hc, hc, show cut 32 [120] = [[120]] by decide, show cut 32 [121] = [[121]] by decide]; rfl
  rw [h1]
  show some ((⟨(Lib.join [(sp1 (ba [120])).data.toList, (sp1 (decB n)).data.toList, (sp1 (ba [121])).data.toList, (sp1 (decB m)).data.toList] [32]).toArray⟩ : ByteArray), true) = _
  rw [no_number (ba [120]) 120 [] rfl (by decide), no_number (ba [121]) 121 [] rfl (by decide), show sp1 (decB n) = nwD (n : Int) from sp1_dec n hn, show sp1 (decB m) = nwD (m : Int) from sp1_dec m hm]
  refine congrArg (fun b : ByteArray => some (b, true)) (ByteArray.ext (Array.toList_inj.1 ?_))
  rw [text_list]
  show Lib.join [[120], (nwD (n : Int)).data.toList, [121], (nwD (m : Int)).data.toList] [32] = _
  rw [Lib.join_cons]
  unfold Lib.joinTail
  simp
theorem read_zero (n : Nat) (hn : n < 1000000) (k : Nat) (hk : 1001 < k) : ∃ r, impl_ReadNumberWords.f k (nwD (n : Int) ++ (⟨#[32, 122, 101, 114, 111]⟩ : ByteArray)) = some (r, false) := by
  obtain ⟨r, h1, h2⟩ := impl_tells (nwD (n : Int) ++ (⟨#[32, 122, 101, 114, 111]⟩ : ByteArray)) k hk
  rcases h2 with ⟨rfl, _⟩ | ⟨m, hm, em, rfl⟩
  · exact ⟨0, h1⟩
  · exfalso
    rw [ba_append, nwD_list] at em
    replace em : lD m = lD n ++ 32 :: [122, 101, 114, 111] := em
    obtain ⟨a, b, p1, p2, _⟩ := parse m hm
    obtain ⟨c, d, p3, p4, p5, _⟩ := parse n hn
    rw [em, cut_app, List.foldlM_append, p3, show cut 32 [122, 101, 114, 111] = [[122, 101, 114, 111]] by decide] at p1
    have hs : Nk.step (c, d) [122, 101, 114, 111] = some (c, d) := by
      unfold Nk.step
      rw [if_neg (by decide), if_neg (by decide), show valL [122, 101, 114, 111] = some 0 by decide]
      show (if 1000000 < d + 0 then none else some (c, d + 0)) = _
      rw [if_neg (by omega)]; rfl
    replace p1 : Nk.step (c, d) [122, 101, 114, 111] = some (a, b) := by
      have : ([[122, 101, 114, 111]] : List (List UInt8)).foldlM Nk.step (c, d) = some (a, b) := p1
      rw [List.foldlM_cons] at this
      obtain ⟨q, hq, hq2⟩ := Option.bind_eq_some_iff.1 this
      rw [List.foldlM_nil] at hq2
      rw [hq]; exact hq2
    rw [hs] at p1
    have e := Option.some.inj p1
    have e1 := congrArg Prod.fst e
    have e2 := congrArg Prod.snd e
    simp only at e1 e2
    obtain rfl : m = n := by omega
    have := congrArg List.length em
    rw [List.length_append] at this
    simp at this
theorem pure : laws_FnSpoken.Pure := by
  intro l0 l1 _ _ h0 _ _ h1
  refine ⟨2000, ?_⟩
  unfold laws_FnSpoken.f laws_b10Long.f
  by_cases c0 : (l0.length : Int) > 1048576
  · rw [if_pos c0]; rfl
  rw [if_neg c0, Option.bind_some]
  by_cases c1 : (l1.length : Int) > 1048576
  · rw [if_pos (decide_eq_true c1)]
  rw [if_neg (by simpa using c1)]
  obtain ⟨r1, e1, a1, b1⟩ := at_range l0 h0 (by omega) 0 256 (by omega) (by omega) (by omega) (by omega)
  obtain ⟨r2, e2, a2, b2⟩ := at_range l0 h0 (by omega) 1 64 (by omega) (by omega) (by omega) (by omega)
  obtain ⟨r3, e3, a3, b3⟩ := at_range l1 h1 (by omega) 0 256 (by omega) (by omega) (by omega) (by omega)
  obtain ⟨r4, e4, a4, b4⟩ := at_range l1 h1 (by omega) 1 200 (by omega) (by omega) (by omega) (by omega)
  rw [e1, Option.bind_some, e2, Option.bind_some, e3, Option.bind_some, e4, Option.bind_some]
  rw [w64 (x := r1 * 3906) (by omega) (by omega), w64 (x := r1 * 3906 + r2) (by omega) (by omega), w64 (x := 3 * r3) (by omega) (by omega), w64 (x := 3 * r3 + r4) (by omega) (by omega)]
  obtain ⟨n, hn⟩ : ∃ n : Nat, r1 * 3906 + r2 = (n : Int) := ⟨(r1 * 3906 + r2).toNat, by omega⟩
  obtain ⟨m, hm⟩ : ∃ m : Nat, 3 * r3 + r4 = (m : Int) := ⟨(3 * r3 + r4).toNat, by omega⟩
  have hn' : n < 1000000 := by omega
  have hm' : m < 1000000 := by omega
  rw [hn, hm]
  clear e1 e2 e3 e4
  have hd : ∀ u : Nat, u < 1000000 → spec_Decimal.f 2000 (u : Int) = some (decB u) := fun u hu => by
    unfold spec_Decimal.f
    rw [spec_dec _ (by omega) (by omega) 2000 (by omega)]; rfl
  have z1 := decB_len n hn'
  have z2 := decB_len m hm'
  have z3 := nwD_size (n : Int)
  have z4 := nwD_size (m : Int)
  have s1 : ∀ x : ByteArray, ((⟨#[120, 32]⟩ : ByteArray) ++ x).size = 2 + x.size := fun x => by rw [ByteArray.size_append]; rfl
  have s2 : ∀ x : ByteArray, (((⟨#[120, 32]⟩ : ByteArray) ++ x) ++ (⟨#[32, 121, 32]⟩ : ByteArray)).size = 2 + x.size + 3 := fun x => by rw [ByteArray.size_append, s1]; rfl
  rw [numberWords_eq _ (by omega) (by omega), Option.bind_some, numberWords_eq _ (by omega) (by omega), Option.bind_some, read_words n hn' 2000 (by omega), Option.bind_some, read_words m hm' 2000 (by omega), Option.bind_some, hd n hn', Option.bind_some, if_pos (by omega),
    if_pos (by rw [s1]; omega), hd m hm', Option.bind_some, if_pos (by rw [s2]; omega)]
  have ht := speak_text n m hn' hm' 2000 (by omega)
  unfold textB at ht
  rw [ht, Option.bind_some]
  dsimp only
  rw [if_pos rfl, if_pos rfl, if_pos rfl, if_pos rfl, if_pos rfl, if_pos rfl, if_pos rfl, if_pos (by omega), if_pos (by rw [s1]; omega), if_pos (by rw [s2]; omega)]
  obtain ⟨r, hr⟩ := read_zero n hn' 1999 (by omega)
  rw [bne_self_eq_false, laws_FnSpoken.j0, if_neg (by decide), if_pos (by omega), hr, Option.bind_some, w64 (x := -1 - (n : Int)) (by omega) (by omega), numberWords_neg _ (by omega), Option.bind_some, speak_words n hn' 1999 (by omega), Option.bind_some]
  dsimp only
  rw [if_neg (by decide), if_neg (by decide), if_pos rfl, beq_self_eq_true]
end Go.Proofs.YtiebjnppmcpffaaDoor.SpkPure
namespace Go.Proofs.YtiebjnppmcpffaaDoor
open Go.RowKit
theorem spoken_w : PFnSpoken.laws_FnSpoken.Pure := SpkPure.pure
end Go.Proofs.YtiebjnppmcpffaaDoor
