/- RecoverJournal: what is left of the law beside the walk: both find the same lines. -/
import Derived.Test.YtbojmdjghfhmbaaDoorPFnExactRecoverJournalx
import Derived.Test.YtbojmdjghfhmbaaDoorDn
set_option linter.unusedVariables false
set_option linter.unusedSimpArgs false
namespace Go.Proofs.YtbojmdjghfhmbaaDoor.RjPure
open Go.RowKit Go.Proofs.YtbojmdjghfhmbaaDoorW.PrintWords Go.Proofs.YtbojmdjghfhmbaaDoor Go.Proofs.YtbojmdjghfhmbaaDoor.PFnExactRecoverJournal Go.Proofs.YtbojmdjghfhmbaaDoor.Lm
theorem cutl (s : ByteArray) (hs : s.size ≤ 4194304) (c : UInt8) : ∀ (d k : Nat) (out : List ByteArray) (a i : Nat), i + d = s.size → a ≤ i → c ∉ (s.data.toList.drop a).take (i - a) → out.length ≤ i → d + 1 < k →
    spec_l01Cut.l0 k s ((c.toNat : Nat) : Int) out (a : Int) (i : Int) = some (out ++ (cut c (s.data.toList.drop a)).map ba)
  | d, 0, out, a, i, h1, ha, hc, ho, hk => by omega
  | 0, k + 1, out, a, i, h1, ha, hc, ho, hk => by
    obtain ⟨k, rfl⟩ : ∃ m, k = m + 1 := ⟨k - 1, by omega⟩
    have hi : i = s.size := h1
    subst hi
    have hd : (s.data.toList.drop a).take (s.size - a) = s.data.toList.drop a := List.take_of_length_le (by rw [List.length_drop, size_list]; exact Nat.le_refl _)
    rw [hd] at hc
    rw [spec_l01Cut.l0, if_pos (Int.le_refl _), if_pos rfl, if_pos (by omega), if_pos (by omega), if_pos (by omega), Int.toNat_natCast, Int.toNat_natCast, w64 (by omega) (by omega), spec_l01Cut.l0, if_neg (by omega), cut_none hc, extract_ba, hd]
    rfl
  | d + 1, k + 1, out, a, i, h1, ha, hc, ho, hk => by
    have hi : i < s.size := by omega
    have e1 : wrap64 ((i : Int) + 1) = ((i + 1 : Nat) : Int) := by rw [w64 (by omega) (by omega)]; omega
    have hx : s.data.toList.drop a = (s.data.toList.drop a).take (i - a) ++ (s.data.toList[i]'hi) :: s.data.toList.drop (i + 1) := by
      have h2 : (s.data.toList.drop a).drop (i - a) = (s.data.toList[i]'hi) :: s.data.toList.drop (i + 1) := by
        rw [List.drop_drop, show a + (i - a) = i by omega]; exact List.drop_eq_getElem_cons hi
      rw [← h2, List.take_append_drop]
    have hb := bt_nat s i hi
    rw [spec_l01Cut.l0, if_pos (by omega), if_neg (by omega), if_pos (by omega), if_pos (by omega), hb]
    by_cases c1 : (((s.data.toList[i]'hi).toNat : Nat) : Int) = ((c.toNat : Nat) : Int)
    · have hc1 := u8_eq c1
      rw [if_pos c1, if_pos (by omega), if_pos (by omega), if_pos (by omega), e1, Int.toNat_natCast, Int.toNat_natCast]
      rw [cutl s hs c d k _ (i + 1) (i + 1) (by omega) (Nat.le_refl _) (by rw [Nat.sub_self, List.take_zero]; exact fun h => by cases h) (by rw [List.length_append, List.length_singleton]; omega) (by omega)]
      rw [hx, hc1, cut_hit _ hc, extract_ba, List.append_assoc]
      rfl
    · rw [if_neg c1, e1]
      refine cutl s hs c d k out a (i + 1) (by omega) (by omega) ?_ (by omega) (by omega)
      have h3 : (s.data.toList.drop a).take (i + 1 - a) = (s.data.toList.drop a).take (i - a) ++ [s.data.toList[i]'hi] := by
        rw [show i + 1 - a = (i - a) + 1 by omega, List.take_succ_eq_append_getElem (by rw [List.length_drop, size_list]; omega)]
        congr 2
        rw [List.getElem_drop]
        congr 1
        omega
      rw [h3]
      intro hm
      rcases List.mem_append.1 hm with e | e
      · exact hc e
      · rw [List.mem_singleton] at e
        exact c1 (by rw [e])
theorem cut_spec (s : ByteArray) (hs : s.size ≤ 4194304) (c : UInt8) (k : Nat) (hk : s.size + 1 < k) : spec_l01Cut.f k s ((c.toNat : Nat) : Int) = some (cutB c s) :=
  cutl s hs c s.size k [] 0 0 (by omega) (by omega) (by simp) (by simp) hk
theorem rd_last (xs : List ByteArray) (y : ByteArray) : rdOf ByteArray.empty (xs ++ [y]) ((xs.length : Nat) : Int) = y := by
  unfold rdOf
  simp
theorem count_len (L : List UInt8) : (cutB 10 (ba L)).length ≤ L.length + 1 := by
  unfold cutB
  rw [List.length_map, cut_len, list_ba]
  have : L.count 10 ≤ L.length := List.count_le_length
  omega
theorem spec_lines (s : ByteArray) (hs : s.size ≤ 16000) (k : Nat) (hk : s.size + 1 < k) (A : List ByteArray) (y : ByteArray) (h : cutB 10 s = A ++ [y]) : spec_l08Lines.f k s = some (A, y) := by
  have hl : (cutB 10 s).length ≤ s.size + 1 := count_len s.data.toList
  have hn : (A ++ [y]).length = A.length + 1 := by rw [List.length_append, List.length_singleton]
  rw [h, hn] at hl
  have e1 : wrap64 (((A.length + 1 : Nat) : Int) - 1) = ((A.length : Nat) : Int) := by rw [w64 (by omega) (by omega)]; omega
  have hc : spec_l01Cut.f k s 10 = some (cutB 10 s) := cut_spec s (by omega) 10 k hk
  unfold spec_l08Lines.f
  rw [hc, Option.bind_some, h, hn, e1, if_pos ⟨by omega, by omega⟩, rd_last, Int.toNat_natCast, List.take_left]
theorem cutF_none (s : ByteArray) (c : UInt8) (h : c ∉ s.data.toList) : strings_Cut.f s (ba [c]) = some (s, ⟨#[]⟩, false) := by
  have hI : stringslite_Index.f s (ba [c]) = some (-1) := by
    unfold stringslite_Index.f
    rw [if_pos (show (ba [c]).size = 1 from rfl), ← idx_none h]; rfl
  unfold strings_Cut.f stringslite_Cut.f
  rw [hI, Option.bind_some, if_neg (by decide), Option.bind_some]
theorem cutF_hit (s : ByteArray) (hs : s.size ≤ 4194303) (c : UInt8) (p r : List UInt8) (h : s.data.toList = p ++ c :: r) (hp : c ∉ p) : strings_Cut.f s (ba [c]) = some (ba p, ba r, true) := by
  obtain ⟨g1, g2, g3⟩ := take_hit h
  have hI : stringslite_Index.f s (ba [c]) = some ((p.length : Nat) : Int) := by
    unfold stringslite_Index.f
    rw [if_pos (show (ba [c]).size = 1 from rfl), ← idx_hit (r := r) hp, ← h]; rfl
  clear h
  have f1 : ((p.length : Nat) : Int) ≥ 0 := by omega
  have f2 : (0 : Int) ≤ ((p.length : Nat) : Int) := by omega
  have f3 : ((p.length : Nat) : Int) ≤ (s.size : Int) := by omega
  have f4 : (0 : Int) ≤ ((p.length + 1 : Nat) : Int) := by omega
  have f5 : ((p.length + 1 : Nat) : Int) ≤ (s.size : Int) := by omega
  have e3 : wrap64 (((p.length : Nat) : Int) + (((ba [c]).size : Nat) : Int)) = ((p.length + 1 : Nat) : Int) := by
    rw [show (((ba [c]).size : Nat) : Int) = 1 from rfl, w64 (by omega) (by omega)]; omega
  unfold strings_Cut.f stringslite_Cut.f
  rw [hI, Option.bind_some, if_pos f1, if_pos f2, if_pos f3, e3, if_pos f4, if_pos f5, Int.toNat_natCast, Int.toNat_natCast, g1, g2, Option.bind_some]
/-- the digits as the reference lays them, from the last one -/
def dI (u : Nat) : List Int := (Lib.decDigits u).map fun c => (c.toNat : Int)
theorem str_dI (L : List UInt8) : strOfNums (L.map fun c => (c.toNat : Int)) = ⟨L.toArray⟩ := by
  unfold strOfNums
  rw [List.map_map]
  congr 2
  conv => rhs; rw [← List.map_id L]
  refine List.map_congr_left fun c _ => ?_
  show UInt8.ofNat ((c.toNat : Int)).toNat = c
  rw [Int.toNat_natCast, UInt8.ofNat_toNat]
theorem dI_one {u : Nat} (h : u < 10) : dI u = [((48 + u : Nat) : Int)] := by
  unfold dI
  rw [Lib.decDigits, dif_pos h, List.map_singleton, Dn.dig_nat u h]
theorem dI_more {u : Nat} (h : ¬ u < 10) : dI u = dI (u / 10) ++ [((48 + u % 10 : Nat) : Int)] := by
  unfold dI
  rw [Lib.decDigits, dif_neg h, List.map_append, List.map_singleton, Dn.dig_nat _ (by omega)]
theorem dI_len (d u : Nat) (h : u < 10 ^ (d + 1)) : (dI u).length ≤ d + 1 := by unfold dI; rw [List.length_map]; exact Dn.dec_len d u h
theorem dec_dig (x : Int) (h0 : -9223372036854775808 ≤ x) (h1 : x ≤ 9223372036854775807) : (if Int.tmod x 10 < 0 then (wrap64 (48 + (wrap64 (-(Int.tmod x 10))))) % 256 else (wrap64 (48 + (Int.tmod x 10))) % 256) = ((48 + x.natAbs % 10 : Nat) : Int) := by
  have h2 : Int.tmod x 10 = if x < 0 then -((x.natAbs % 10 : Nat) : Int) else ((x.natAbs % 10 : Nat) : Int) := by
    split
    · rename_i h
      rw [show x = -((x.natAbs : Nat) : Int) by omega, Int.neg_tmod, Int.tmod_eq_emod_of_nonneg (by omega)]
      simp
    · rename_i h
      rw [Int.tmod_eq_emod_of_nonneg (by omega)]
      omega
  have hm : x.natAbs % 10 < 10 := by omega
  generalize x.natAbs % 10 = m at h2 hm ⊢
  by_cases hx : x < 0
  · rw [if_pos hx] at h2
    rw [h2]
    split
    · rw [w64 (x := - -(m : Int)) (by omega) (by omega), w64 (by omega) (by omega)]; omega
    · rw [w64 (by omega) (by omega)]; omega
  · rw [if_neg hx] at h2
    rw [h2, if_neg (by omega), w64 (by omega) (by omega)]; omega
theorem dec_next (x : Int) (h0 : -9223372036854775808 ≤ x) (h1 : x ≤ 9223372036854775807) : (wrap64 (Int.tdiv x 10)).natAbs = x.natAbs / 10 ∧ -9223372036854775808 ≤ wrap64 (Int.tdiv x 10) ∧ wrap64 (Int.tdiv x 10) ≤ 9223372036854775807 ∧ (wrap64 (Int.tdiv x 10) = 0 ↔ x.natAbs / 10 = 0) := by
  have h2 : (Int.tdiv x 10).natAbs = x.natAbs / 10 := by rw [Int.natAbs_tdiv]; rfl
  have h3 : wrap64 (Int.tdiv x 10) = Int.tdiv x 10 := w64 (by omega) (by omega)
  rw [h3]
  exact ⟨h2, by omega, by omega, by omega⟩
def decFin (x0 : Int) (L : List Int) : ByteArray := if x0 < 0 then strOfNums (45 :: L) else strOfNums L
theorem dec_end (k : Nat) (x0 : Int) (L : List Int) (hL : L ≠ []) (hl : L.length ≤ 1000) : spec_l01Dec.l0 (k + 2) x0 L 0 = some (decFin x0 L) := by
  rw [spec_l01Dec.l0, if_neg (by cases L with | nil => exact absurd rfl hL | cons a L => simp; omega), show ((0 : Int) != 0) = false from rfl, spec_l01Dec.j1, if_neg (by decide)]
  unfold decFin
  split
  · rw [Option.bind_some, if_pos (by simp; omega)]; rfl
  · rfl
theorem dec_loop (x0 : Int) : ∀ (d k : Nat) (x : Int) (L : List Int), x.natAbs < 10 ^ (d + 1) → -9223372036854775808 ≤ x → x ≤ 9223372036854775807 → (L = [] ∨ x ≠ 0) → L.length + d + 1 ≤ 900 → 2 * d + 4 ≤ k → spec_l01Dec.l0 k x0 L x = some (decFin x0 (dI x.natAbs ++ L))
  | d, 0, x, L, h, h0, h1, hx, hl, hk => by omega
  | d, 1, x, L, h, h0, h1, hx, hl, hk => by omega
  | d, k + 2, x, L, h, h0, h1, hx, hl, hk => by
    have hj : spec_l01Dec.l0 (k + 2) x0 L x = spec_l01Dec.j1 (k + 1) x0 L x true := by
      rw [spec_l01Dec.l0]
      by_cases c : (L.length : Int) = 0
      · rw [if_pos c]
      · rw [if_neg c]
        have : x ≠ 0 := by
          rcases hx with rfl | hx
          · exact absurd rfl c
          · exact hx
        rw [show (x != 0) = true from bne_iff_ne.2 this]
    have hs : spec_l01Dec.j1 (k + 1) x0 L x true = spec_l01Dec.l0 k x0 (((48 + x.natAbs % 10 : Nat) : Int) :: L) (wrap64 (Int.tdiv x 10)) := by
      have hd := dec_dig x h0 h1
      rw [spec_l01Dec.j1, if_pos rfl]
      split at hd
      · rename_i h
        rw [if_pos h, Option.bind_some, hd, if_pos (by simp; omega)]; rfl
      · rename_i h
        rw [if_neg h, Option.bind_some, hd, if_pos (by simp; omega)]; rfl
    obtain ⟨n1, n2, n3, n4⟩ := dec_next x h0 h1
    rw [hj, hs]
    by_cases c : x.natAbs < 10
    · have z : wrap64 (Int.tdiv x 10) = 0 := n4.2 (by omega)
      obtain ⟨k, rfl⟩ : ∃ m, k = m + 2 := ⟨k - 2, by omega⟩
      rw [z, dec_end k x0 _ (by simp) (by simp; omega), dI_one c, show x.natAbs % 10 = x.natAbs by omega]; rfl
    · cases d with
      | zero => simp at h; omega
      | succ d =>
        rw [dec_loop x0 d k _ _ (by rw [n1]; rw [Nat.pow_succ] at h; omega) n2 n3 (.inr (fun e => by have := n4.1 e; omega)) (by simp only [List.length_cons]; omega) (by omega), n1, dI_more c, List.append_assoc]; rfl
theorem spec_dec (n : Int) (h0 : -9223372036854775808 ≤ n) (h1 : n ≤ 9223372036854775807) (k : Nat) (hk : 50 ≤ k) : spec_l01Dec.f k n = some ⟨(Lib.itoa n).toArray⟩ := by
  unfold spec_l01Dec.f
  rw [dec_loop n 19 k n [] (by show n.natAbs < 100000000000000000000; omega) h0 h1 (.inl rfl) (by simp) (by omega), List.append_nil]
  unfold decFin Lib.itoa dI
  split
  · rw [show (45 : Int) = (((45 : UInt8).toNat : Nat) : Int) from rfl, ← List.map_cons (f := fun c : UInt8 => (c.toNat : Int)), str_dI]
  · rw [str_dI, show n.natAbs = n.toNat by omega]
theorem checkl (s : ByteArray) (hs : s.size ≤ 9223372036854775807) : ∀ (k : Nat) (x i : Int), 0 ≤ x → x < 65003 → 0 ≤ i → i ≤ s.size → s.size - i < k → ∃ c : Nat, c < 65003 ∧ spec_l01Check.l0 k x s i = some (c : Int) ∧ impl_CheckOf.l0 k x s i = some ((c : Int), true)
  | 0, x, i, _, _, _, _, hk => by omega
  | k + 1, x, i, h0, h1, hi, hl, hk => by
    unfold spec_l01Check.l0 impl_CheckOf.l0
    by_cases c : i < (s.size : Int)
    · obtain ⟨b0, b1⟩ := bt_range s i
      rw [if_pos c, if_pos c, if_pos hi, if_pos hi, w64 (x := i + 1) (by omega) (by omega), w64 (x := 797 * x) (by omega) (by omega), w64 (x := bt s i) (by omega) (by omega), w64 (x := 797 * x + bt s i) (by omega) (by omega), w64 (by omega) (by omega)]
      have hm : Int.tmod (797 * x + bt s i + 101) 65003 = (797 * x + bt s i + 101) % 65003 := Int.tmod_eq_emod_of_nonneg (by omega)
      rw [hm]
      exact checkl s hs k _ (i + 1) (by omega) (by omega) (by omega) (by omega) (by omega)
    · rw [if_neg c, if_neg c]
      refine ⟨x.toNat, by omega, ?_, ?_⟩ <;> rw [Int.toNat_of_nonneg h0]
theorem rdS_at {l : List ByteArray} {i : Nat} (h : i < l.length) : rdOf ByteArray.empty l (i : Int) = l[i]'h := by
  unfold rdOf
  rw [Int.toNat_natCast, List.getD_eq_getElem?_getD, List.getElem?_eq_getElem h]; rfl
theorem mtl (m : Nat) : ∀ (k x : Nat) (s : ByteArray), x < 10 ^ m → m < k → s.size + m ≤ 1000 → x ≤ 1000000000 → ∃ t, laws_markText.l0 k (x : Int) s = some t := by
  induction m with
  | zero =>
    intro k x s hx hk hs h9
    obtain ⟨k, rfl⟩ : ∃ m, k = m + 1 := ⟨k - 1, by omega⟩
    have hx0 : x = 0 := by simpa using hx
    rw [laws_markText.l0, if_neg (by omega), if_pos (by omega)]
    exact ⟨_, rfl⟩
  | succ m ih =>
    intro k x s hx hk hs h9
    obtain ⟨k, rfl⟩ : ∃ m, k = m + 1 := ⟨k - 1, by omega⟩
    by_cases c : (x : Int) > 0
    · have hd : wrap64 (Int.tdiv (x : Int) 10) = ((x / 10 : Nat) : Int) := by
        rw [Int.tdiv_eq_ediv_of_nonneg (by omega), w64 (by omega) (by omega)]; omega
      have h10 : x / 10 < 10 ^ m := by
        rw [Nat.pow_succ] at hx
        exact Nat.div_lt_of_lt_mul (by rw [Nat.mul_comm]; exact hx)
      rw [laws_markText.l0, if_pos c, Option.bind_some, hd]
      have hsz : ∀ z : Int, (strOfNums [z]).size = 1 := fun z => by simp [strOfNums, ByteArray.size]
      rw [hsz, if_pos (by omega)]
      exact ih k (x / 10) _ h10 (by omega) (by rw [ByteArray.size_append, hsz]; omega) (by omega)
    · rw [laws_markText.l0, if_neg c, if_pos (by omega)]
      exact ⟨_, rfl⟩
theorem mt_some (x : Nat) (hx : x < 100000000) (k : Nat) (hk : 8 < k) : ∃ t, laws_markText.f k (x : Int) = some t := by
  unfold laws_markText.f
  by_cases c : (x : Int) ≤ 0
  · rw [if_pos c]; exact ⟨_, rfl⟩
  · rw [if_neg c]
    exact mtl 8 k x _ (by omega) hk (by decide) (by omega)
theorem eqSl (l : List ByteArray) (hl : l.length ≤ 4194304) (d : Nat) : ∀ (k i : Nat), i + d = l.length → d < k → laws_eqStringS.l0 k l l (i : Int) = some true := by
  induction d with
  | zero =>
    intro k i h1 hk
    obtain ⟨k, rfl⟩ : ∃ m, k = m + 1 := ⟨k - 1, by omega⟩
    rw [laws_eqStringS.l0, if_neg (nlt (by omega))]
  | succ d ih =>
    intro k i h1 hk
    obtain ⟨k, rfl⟩ : ∃ m, k = m + 1 := ⟨k - 1, by omega⟩
    have hi : i < l.length := by omega
    rw [laws_eqStringS.l0, if_pos (lt' hi), if_pos (nn i), if_pos (lt' hi), if_pos rfl, up hi (by omega)]
    exact ih k (i + 1) (by omega) (by omega)
theorem eqSs (l : List ByteArray) (hl : l.length ≤ 4194303) (k : Nat) (hk : 4194304 ≤ k) : laws_eqStringS.f k l l = some true := by
  unfold laws_eqStringS.f
  rw [if_pos rfl]
  exact eqSl l (by omega) l.length k 0 (by omega) (by omega)
/-- the text of a mark -/
def mtx (x : Nat) : ByteArray := (laws_markText.f 9 (x : Int)).getD ⟨#[]⟩
theorem mtx_f (x : Nat) (hx : x < 100000000) (k : Nat) (hk : 9 ≤ k) : laws_markText.f k (x : Int) = some (mtx x) := by
  obtain ⟨t, ht⟩ := mt_some x hx 9 (by decide)
  have h9 : laws_markText.f 9 (x : Int) = some (mtx x) := by unfold mtx; rw [ht]; rfl
  exact at_rounds (g := fun k => laws_markText.f k (x : Int)) (laws_markText.mono (x : Int)) hk h9
def marksS (n : Nat) : List ByteArray := (List.range n).map fun j => mtx (1 + j)
theorem marksS_len (n : Nat) : (marksS n).length = n := by unfold marksS; rw [List.length_map, List.length_range]
theorem marksS_at {n i : Nat} (h : i < n) : (marksS n)[i]? = some (mtx (1 + i)) := by
  unfold marksS
  rw [List.getElem?_map, List.getElem?_range h]; rfl
theorem upm {i n : Nat} (h : i < n) (hn : n ≤ 4194304) : wrap64 (((1 + i : Nat) : Int) + 1) = ((1 + (i + 1) : Nat) : Int) := by rw [w64 (by omega) (by omega)]; omega
theorem markSl (n : Nat) (hn : n ≤ 4194303) (d : Nat) : ∀ (k : Nat) (xs : List ByteArray) (i : Nat), i + d = n → xs.length = n → xs.take i = (marksS n).take i → d + 9 < k →
    laws_markStringS.l0 k xs ((1 + i : Nat) : Int) (i : Int) = some (((1 + n : Nat) : Int), marksS n) := by
  induction d with
  | zero =>
    intro k xs i h1 hl ht hk
    obtain ⟨k, rfl⟩ : ∃ m, k = m + 1 := ⟨k - 1, by omega⟩
    obtain rfl : i = n := by omega
    rw [laws_markStringS.l0, if_neg (nlt (by omega))]
    rw [List.take_of_length_le (by omega), List.take_of_length_le (by rw [marksS_len]; exact Nat.le_refl _)] at ht
    rw [ht]
  | succ d ih =>
    intro k xs i h1 hl ht hk
    obtain ⟨k, rfl⟩ : ∃ m, k = m + 1 := ⟨k - 1, by omega⟩
    have hi : i < n := by omega
    have hix : i < xs.length := by omega
    have hk9 : 9 ≤ k := by omega
    have hx8 : 1 + i < 100000000 := by omega
    have hih := fun ys => ih k ys (i + 1) (by omega)
    have hkd : d + 9 < k := by omega
    have hset := take_set_succ (by rw [marksS_len]; exact hi) (by rw [marksS_len]; exact hl) ht (marksS_at hi)
    rw [laws_markStringS.l0, if_pos (lt' hix), mtx_f (1 + i) hx8 k hk9, Option.bind_some, if_pos (nn i), up hi (Nat.le_trans hn (by decide)), upm hi (Nat.le_trans hn (by decide)), Int.toNat_natCast]
    exact hih _ (by rw [List.length_set]; exact hl) hset hkd
theorem markS_some (l : List ByteArray) (hl : l.length ≤ 4194303) (k : Nat) (hk : l.length + 9 < k) : laws_markStringS.f k l 1 = some (((1 + l.length : Nat) : Int), marksS l.length) :=
  markSl l.length hl l.length k l 0 (by omega) rfl rfl hk
theorem heldSl (n : Nat) (hn : n ≤ 4194303) (d : Nat) : ∀ (k i : Nat), i + d = n → d + 9 < k → laws_heldStringS.l0 k (marksS n) ((1 + i : Nat) : Int) (i : Int) = some ((1 + n : Nat) : Int) := by
  induction d with
  | zero =>
    intro k i h1 hk
    obtain ⟨k, rfl⟩ : ∃ m, k = m + 1 := ⟨k - 1, by omega⟩
    obtain rfl : i = n := by omega
    rw [laws_heldStringS.l0, if_neg (nlt (by rw [marksS_len]; exact Nat.le_refl _))]
  | succ d ih =>
    intro k i h1 hk
    obtain ⟨k, rfl⟩ : ∃ m, k = m + 1 := ⟨k - 1, by omega⟩
    have hi : i < n := by omega
    have hi2 : i < (marksS n).length := by rw [marksS_len]; exact hi
    have hk9 : 9 ≤ k := by omega
    have hx8 : 1 + i < 100000000 := by omega
    have hih := ih k (i + 1) (by omega) (by omega)
    have e3 : (marksS n)[i]'hi2 = mtx (1 + i) := by
      have := marksS_at hi
      rw [List.getElem?_eq_getElem hi2] at this
      exact Option.some.inj this
    rw [laws_heldStringS.l0, if_pos (lt' hi2), if_pos (nn i), mtx_f (1 + i) hx8 k hk9, Option.bind_some, rdS_at hi2, e3, if_pos rfl, up hi (Nat.le_trans hn (by decide)), upm hi (Nat.le_trans hn (by decide))]
    exact hih
theorem heldS_some (n : Nat) (hn : n ≤ 4194303) (k : Nat) (hk : n + 9 < k) : laws_heldStringS.f k (marksS n) 1 = some ((1 + n : Nat) : Int) := heldSl n hn n k 0 (by omega) hk
theorem check_both (s : ByteArray) (hs : s.size ≤ 100000) (c : Int) (h0 : 0 ≤ c) (h1 : c < 65003) (k : Nat) (hk : s.size < k) : ∃ d : Nat, d < 65003 ∧ spec_l01Check.f k c s = some (d : Int) ∧ impl_CheckOf.f k c s = some ((d : Int), true) := by
  obtain ⟨d, h2, h3, h4⟩ := checkl s (by omega) k c 0 h0 h1 (by omega) (by omega) (by omega)
  refine ⟨d, h2, h3, ?_⟩
  unfold impl_CheckOf.f impl_within.f
  rw [if_pos (by omega), Option.bind_some, if_pos (decide_eq_true (by omega))]
  exact h4
theorem cut_cons {c : UInt8} {L w : List UInt8} {rest : List (List UInt8)} (h : cut c L = w :: rest) (hr : rest ≠ []) : ∃ L', L = w ++ c :: L' ∧ c ∉ w ∧ cut c L' = rest := by
  rcases index_spec c L with ⟨_, hn⟩ | ⟨p, r, h1, h2, _⟩
  · rw [cut_none hn] at h
    injection h with _ h
    exact absurd h.symm hr
  · rw [h1, cut_hit r h2] at h
    injection h with e1 e2
    subst e1
    exact ⟨r, h1, h2, e2⟩
theorem cut_sole {c : UInt8} {L y : List UInt8} (h : cut c L = [y]) : c ∉ L ∧ L = y := by
  rcases index_spec c L with ⟨_, hn⟩ | ⟨p, r, h1, h2, _⟩
  · rw [cut_none hn] at h
    injection h with h
    exact ⟨hn, h⟩
  · rw [h1, cut_hit r h2] at h
    injection h with _ h
    exact absurd h (cut_ne c r)
theorem cut_any (x : ByteArray) (hx : x.size ≤ 4194303) (c : UInt8) : ∃ p r b, strings_Cut.f x (ba [c]) = some (p, r, b) ∧ p.size ≤ x.size ∧ r.size ≤ x.size := by
  rcases index_spec c x.data.toList with ⟨_, hn⟩ | ⟨p, r, h1, h2, _⟩
  · exact ⟨x, ⟨#[]⟩, false, cutF_none x c hn, Nat.le_refl _, Nat.zero_le _⟩
  · have := congrArg List.length h1
    rw [size_list, List.length_append, List.length_cons] at this
    exact ⟨ba p, ba r, true, cutF_hit x hx c p r h1 h2, by rw [size_ba]; omega, by rw [size_ba]; omega⟩
theorem ext_end (s : ByteArray) (n : Nat) : s.extract n s.size = ba (s.data.toList.drop n) := by
  rw [extract_ba, List.take_of_length_le (by rw [List.length_drop, size_list]; omega)]
/-- the search for the space in a line -/
theorem l1_hit (A out : List ByteArray) (c n : Int) (j : Nat) (hj : j < A.length) (p r : List UInt8) (hw : A[j].data.toList = p ++ 32 :: r) (hp : (32 : UInt8) ∉ p) (hz : A[j].size ≤ 16000) : ∀ (d i k : Nat), i + d = p.length → d < k →
    ∃ k', k' + d + 1 = k ∧ spec_l08Recover.l1 k A out c n (j : Int) (i : Int) = spec_l08Recover.j2 k' A out c n (j : Int) (p.length : Int)
  | d, i, 0, h1, h2 => by omega
  | 0, i, k + 1, h1, h2 => by
    obtain rfl : i = p.length := by omega
    have hl := congrArg List.length hw
    rw [size_list, List.length_append, List.length_cons] at hl
    have hr : rdOf ByteArray.empty A (j : Int) = A[j] := by unfold rdOf; rw [Int.toNat_natCast, List.getD_eq_getElem?_getD, List.getElem?_eq_getElem hj]; rfl
    have hb : bt A[j] (p.length : Int) = 32 := by
      rw [bt_nat _ _ (by omega)]
      have : A[j].data.toList[p.length]'(by rw [size_list]; omega) = 32 := by
        have h3 : A[j].data.toList[p.length]? = some 32 := by rw [hw, List.getElem?_append_right (by omega), Nat.sub_self]; rfl
        rw [List.getElem?_eq_getElem (by rw [size_list]; omega)] at h3
        exact Option.some.inj h3
      rw [this]; rfl
    exact ⟨k, by omega, by rw [spec_l08Recover.l1, if_pos (by omega), if_pos (by omega), hr, if_pos (by omega), if_pos (by omega), if_pos hb]⟩
  | d + 1, i, k + 1, h1, h2 => by
    have hl := congrArg List.length hw
    rw [size_list, List.length_append, List.length_cons] at hl
    have hr : rdOf ByteArray.empty A (j : Int) = A[j] := by unfold rdOf; rw [Int.toNat_natCast, List.getD_eq_getElem?_getD, List.getElem?_eq_getElem hj]; rfl
    have hb : ¬ bt A[j] (i : Int) = 32 := by
      rw [bt_nat _ _ (by omega)]
      intro e
      have e2 : A[j].data.toList[i]'(by rw [size_list]; omega) = 32 := u8_eq (b := 32) e
      have h3 : A[j].data.toList[i]? = p[i]? := by rw [hw, List.getElem?_append_left (by omega)]
      rw [List.getElem?_eq_getElem (by rw [size_list]; omega), e2, List.getElem?_eq_getElem (by omega)] at h3
      exact hp (by rw [Option.some.inj h3]; exact List.getElem_mem _)
    obtain ⟨k', h3, h4⟩ := l1_hit A out c n j hj p r hw hp hz d (i + 1) k (by omega) (by omega)
    refine ⟨k', by omega, ?_⟩
    have e1 : wrap64 ((i : Int) + 1) = ((i + 1 : Nat) : Int) := by rw [w64 (by omega) (by omega)]; omega
    rw [spec_l08Recover.l1, if_pos (by omega), if_pos (by omega), hr, if_pos (by omega), if_pos (by omega), if_neg hb, e1, h4]
theorem l1_miss (A out : List ByteArray) (c n : Int) (j : Nat) (hj : j < A.length) (hp : (32 : UInt8) ∉ A[j].data.toList) (hz : A[j].size ≤ 16000) : ∀ (d i k : Nat), i + d = A[j].size → d + 1 < k →
    spec_l08Recover.l1 k A out c n (j : Int) (i : Int) = some (out, n)
  | d, i, 0, h1, h2 => by omega
  | d, i, 1, h1, h2 => by omega
  | 0, i, k + 2, h1, h2 => by
    obtain rfl : i = A[j].size := by omega
    have hr : rdOf ByteArray.empty A (j : Int) = A[j] := by unfold rdOf; rw [Int.toNat_natCast, List.getD_eq_getElem?_getD, List.getElem?_eq_getElem hj]; rfl
    rw [spec_l08Recover.l1, if_pos (by omega), if_pos (by omega), hr, if_neg (by omega), spec_l08Recover.j2, if_pos (by omega), if_pos (by omega), hr, if_pos rfl]
  | d + 1, i, k + 2, h1, h2 => by
    have hr : rdOf ByteArray.empty A (j : Int) = A[j] := by unfold rdOf; rw [Int.toNat_natCast, List.getD_eq_getElem?_getD, List.getElem?_eq_getElem hj]; rfl
    have hb : ¬ bt A[j] (i : Int) = 32 := by
      rw [bt_nat _ _ (by omega)]
      intro e
      have e2 : A[j].data.toList[i]'(by rw [size_list]; omega) = 32 := u8_eq (b := 32) e
      exact hp (by rw [← e2]; exact List.getElem_mem _)
    have e1 : wrap64 ((i : Int) + 1) = ((i + 1 : Nat) : Int) := by rw [w64 (by omega) (by omega)]; omega
    rw [spec_l08Recover.l1, if_pos (by omega), if_pos (by omega), hr, if_pos (by omega), if_pos (by omega), if_neg hb, e1]
    exact l1_miss A out c n j hj hp hz d (i + 1) (k + 1) (by omega) (by omega)
theorem both (s : ByteArray) (hs : s.size ≤ 16000) (A : List ByteArray) (y : List UInt8) : ∀ (d j n k : Nat) (c : Int) (out : List ByteArray), j + d = A.length → cut 10 (s.data.toList.drop n) = ((A.drop j).map fun x => x.data.toList) ++ [y] → n ≤ s.size → 0 ≤ c → c < 65003 → out.length ≤ n → A.length ≤ 16001 → 4 * (s.size - n) + 40000 ≤ k →
    ∃ r : List ByteArray × Int, spec_l08Recover.l0 k A out c (n : Int) (j : Int) = some r ∧ impl_recoverJournal.l0 k s out c (n : Int) = some r ∧ r.1.length ≤ 16000
  | d, j, n, 0, c, out, h1, h2, h3, h4, h5, h6, h7, hk => by omega
  | 0, j, n, k + 1, c, out, h1, h2, h3, h4, h5, h6, h7, hk => by
    obtain rfl : j = A.length := by omega
    rw [List.drop_length] at h2
    obtain ⟨g1, g2⟩ := cut_sole (show cut 10 (s.data.toList.drop n) = [y] from h2)
    have hz : (ba (s.data.toList.drop n)).size ≤ 16000 := by rw [size_ba, List.length_drop, size_list]; omega
    obtain ⟨p, r, b, e1, e2, e3⟩ := cut_any (ba (s.data.toList.drop n)) (by omega) 32
    obtain ⟨v, e4, _, e5⟩ := check_both r (by omega) c h4 h5 k (by omega)
    refine ⟨(out, (n : Int)), by rw [spec_l08Recover.l0, if_neg (by omega)], ?_, by show out.length ≤ _; omega⟩
    rw [impl_recoverJournal.l0, if_pos (by omega), if_pos (by omega), Int.toNat_natCast, ext_end, show ((⟨#[10]⟩ : ByteArray)) = ba [10] from rfl, cutF_none _ 10 g1, Option.bind_some, show ((⟨#[32]⟩ : ByteArray)) = ba [32] from rfl]
    dsimp only
    rw [e1, Option.bind_some]
    dsimp only
    rw [e5, Option.bind_some]
    dsimp only
    rw [if_neg (by decide)]
  | d + 1, j, n, k + 1, c, out, h1, h2, h3, h4, h5, h6, h7, hk => by
    have hj : j < A.length := by omega
    rw [List.drop_eq_getElem_cons hj, List.map_cons, List.cons_append] at h2
    obtain ⟨L', g1, g2, g3⟩ := cut_cons h2 (by simp)
    have hlen := congrArg List.length g1
    rw [List.length_drop, size_list, List.length_append, List.length_cons, size_list] at hlen
    have hz : A[j].size ≤ 16000 := by omega
    have hzd : (ba (s.data.toList.drop n)).size ≤ 16000 := by rw [size_ba, List.length_drop, size_list]; omega
    have hcut : strings_Cut.f (ba (s.data.toList.drop n)) (ba [10]) = some (A[j], ba L', true) := cutF_hit _ (by omega) 10 A[j].data.toList L' g1 g2
    have hi : impl_recoverJournal.l0 (k + 1) s out c (n : Int) = (strings_Cut.f A[j] (ba [32])).bind fun bt163 => ((impl_CheckOf.f k c bt163.2.1).bind fun bt166 => (if bt163.2.2 = true then ((impl_Decimal.f bt166.1).bind fun t168 => (if bt163.1.toList = t168.toList then (if out.length < 8796093022208 then (impl_recoverJournal.l0 k s (out ++ [bt163.2.1]) bt166.1 (wrap64 ((n : Int) + (wrap64 ((A[j].size : Int) + 1))))) else (none)) else (some (out, (n : Int))))) else (some (out, (n : Int))))) := by
      rw [impl_recoverJournal.l0, if_pos (by omega), if_pos (by omega), Int.toNat_natCast, ext_end, show ((⟨#[10]⟩ : ByteArray)) = ba [10] from rfl, hcut, Option.bind_some]
      dsimp only
      simp only [if_true]
      rfl
    rw [hi, spec_l08Recover.l0, if_pos (by omega)]
    rcases index_spec 32 A[j].data.toList with ⟨_, hn⟩ | ⟨p, r, w1, w2, _⟩
    · obtain ⟨v, _, _, e5⟩ := check_both (⟨#[]⟩ : ByteArray) (Nat.zero_le _) c h4 h5 k (by show 0 < k; omega)
      refine ⟨(out, (n : Int)), ?_, ?_, by show out.length ≤ _; omega⟩
      · exact l1_miss A out c n j hj hn hz A[j].size 0 k (by omega) (by omega)
      · rw [cutF_none _ 32 hn, Option.bind_some]
        dsimp only
        rw [e5, Option.bind_some, if_neg (by decide)]
    · have hl := congrArg List.length w1
      rw [size_list, List.length_append, List.length_cons] at hl
      obtain ⟨k', q1, q2⟩ := l1_hit A out c n j hj p r w1 w2 hz p.length 0 k (by omega) (by omega)
      rw [show (((0 : Nat)) : Int) = 0 from rfl] at q2
      obtain ⟨k'', rfl⟩ : ∃ m, k' = m + 1 := ⟨k' - 1, by omega⟩
      have hzr : (ba r).size ≤ 16000 := by rw [size_ba]; omega
      obtain ⟨v, v1, v2, _⟩ := check_both (ba r) (by omega) c h4 h5 k'' (by omega)
      obtain ⟨v', v3, v4, v5⟩ := check_both (ba r) (by omega) c h4 h5 k (by omega)
      have hv : v' = v := by
        have := at_rounds (g := fun k => spec_l01Check.f k c (ba r)) (fun k => spec_l01Check.mono _ _ k) (show k'' ≤ k by omega) v2
        rw [v4] at this
        have := Option.some.inj this
        omega
      subst hv
      have hr : rdOf ByteArray.empty A (j : Int) = A[j] := by unfold rdOf; rw [Int.toNat_natCast, List.getD_eq_getElem?_getD, List.getElem?_eq_getElem hj]; rfl
      have a1 : (j : Int) < (A.length : Int) := by omega
      have a2 : (0 : Int) ≤ (j : Int) := by omega
      have a3 : ¬ ((p.length : Int) = (A[j].size : Int)) := by omega
      have a4 : (0 : Int) ≤ ((p.length + 1 : Nat) : Int) := by omega
      have a5 : ((p.length + 1 : Nat) : Int) ≤ (A[j].size : Int) := by omega
      have a6 : (0 : Int) ≤ (p.length : Int) := by omega
      have a7 : (p.length : Int) ≤ (A[j].size : Int) := by omega
      have a8 : out.length < 8796093022208 := by omega
      have a9 : -9223372036854775808 ≤ (v' : Int) := by omega
      have a10 : (v' : Int) ≤ 9223372036854775807 := by omega
      have a11 : 50 ≤ k'' := by omega
      have a12 : A[j].size ≤ 4194303 := by omega
      have a13 : out.length ≤ 16000 := by omega
      have hdec := spec_dec (v' : Int) a9 a10 k'' a11
      have hnext : s.data.toList.drop (n + (A[j].size + 1)) = L' → ∃ R : List ByteArray × Int, spec_l08Recover.l0 k'' A (out ++ [ba r]) (v' : Int) ((n + (A[j].size + 1) : Nat) : Int) ((j + 1 : Nat) : Int) = some R ∧ impl_recoverJournal.l0 k'' s (out ++ [ba r]) (v' : Int) ((n + (A[j].size + 1) : Nat) : Int) = some R ∧ R.1.length ≤ 16000 :=
        fun hdrop => both s hs A y d (j + 1) (n + (A[j].size + 1)) k'' (v' : Int) (out ++ [ba r]) (by omega) (by rw [hdrop]; exact g3) (by omega) (by omega) (by omega) (by rw [List.length_append, List.length_singleton]; omega) h7 (by omega)
      have hkk : k'' ≤ k := by omega
      have b1 : p.length < 20000 := by omega
      have b2 : A[j].size < 20000 := by omega
      have b3 : n + (A[j].size + 1) ≤ 40000 := by omega
      have b4 : j < 20000 := by omega
      have x1 : wrap64 ((p.length : Int) + 1) = ((p.length + 1 : Nat) : Int) := up b1 (by decide)
      have x2 : wrap64 ((A[j].size : Int) + 1) = ((A[j].size + 1 : Nat) : Int) := up b2 (by decide)
      have x3 : wrap64 ((n : Int) + ((A[j].size + 1 : Nat) : Int)) = ((n + (A[j].size + 1) : Nat) : Int) := sum b3 (by decide)
      have x4 : wrap64 ((j : Int) + 1) = ((j + 1 : Nat) : Int) := up b4 (by decide)
      have t1 : A[j].extract (p.length + 1) A[j].size = ba r := by
        rw [ext_end, w1]
        congr 1
        rw [← List.drop_drop, List.drop_left]; rfl
      have t2 : A[j].extract 0 p.length = ba p := by
        rw [extract_ba, List.drop_zero, Nat.sub_zero, w1, List.take_left]
      have hd : impl_Decimal.f (v' : Int) = some ⟨(Lib.itoa (v' : Int)).toArray⟩ := by unfold impl_Decimal.f; rw [if_pos ⟨a9, a10⟩]
      have hspec : spec_l08Recover.l1 k A out c (n : Int) (j : Int) 0 = (if (ba p).toList = (⟨(Lib.itoa (v' : Int)).toArray⟩ : ByteArray).toList then spec_l08Recover.l0 k'' A (out ++ [ba r]) (v' : Int) ((n + (A[j].size + 1) : Nat) : Int) ((j + 1 : Nat) : Int) else some (out, (n : Int))) := by
        rw [q2, spec_l08Recover.j2, if_pos a2, if_pos a1, hr, if_neg a3, x1, if_pos a4, if_pos a5, Int.toNat_natCast, Int.toNat_natCast, t1, t2, v2, Option.bind_some, if_pos a6, if_pos a7, hdec, Option.bind_some, x2, x3, x4, if_pos a8]
      have himpl : (strings_Cut.f A[j] (ba [32])).bind (fun bt163 => ((impl_CheckOf.f k c bt163.2.1).bind fun bt166 => (if bt163.2.2 = true then ((impl_Decimal.f bt166.1).bind fun t168 => (if bt163.1.toList = t168.toList then (if out.length < 8796093022208 then (impl_recoverJournal.l0 k s (out ++ [bt163.2.1]) bt166.1 (wrap64 ((n : Int) + (wrap64 ((A[j].size : Int) + 1))))) else (none)) else (some (out, (n : Int))))) else (some (out, (n : Int)))))) = (if (ba p).toList = (⟨(Lib.itoa (v' : Int)).toArray⟩ : ByteArray).toList then impl_recoverJournal.l0 k s (out ++ [ba r]) (v' : Int) ((n + (A[j].size + 1) : Nat) : Int) else some (out, (n : Int))) := by
        rw [cutF_hit _ a12 32 p r w1 w2, Option.bind_some]
        dsimp only
        rw [v5, Option.bind_some]
        dsimp only
        rw [if_pos rfl, hd, Option.bind_some, x2, x3, if_pos a8]
      rw [hspec, himpl]
      split
      · have hdrop : s.data.toList.drop (n + (A[j].size + 1)) = L' := by
          rw [← List.drop_drop, g1, show A[j].size + 1 = (A[j].data.toList ++ [10]).length by rw [List.length_append, size_list]; rfl, show A[j].data.toList ++ 10 :: L' = (A[j].data.toList ++ [10]) ++ L' by simp, List.drop_left]
        obtain ⟨R, f1, f2, f3⟩ := hnext hdrop
        exact ⟨R, f1, at_rounds (g := fun k => impl_recoverJournal.l0 k s (out ++ [ba r]) (v' : Int) ((n + (A[j].size + 1) : Nat) : Int)) (fun k => impl_recoverJournal.mono_l k _ _ _ _) hkk f2, f3⟩
      · exact ⟨(out, (n : Int)), rfl, rfl, a13⟩
theorem lines_at (s : ByteArray) (hs : s.size ≤ 16000) : ∃ (A : List ByteArray) (y : List UInt8), cutB 10 s = A ++ [ba y] ∧ cut 10 s.data.toList = (A.map fun x => x.data.toList) ++ [y] ∧ A.length ≤ 16001 := by
  have hne := cut_ne 10 s.data.toList
  obtain ⟨P, y, hP⟩ : ∃ P y, cut 10 s.data.toList = P ++ [y] := ⟨_, _, (List.dropLast_concat_getLast hne).symm⟩
  refine ⟨P.map ba, y, ?_, ?_, ?_⟩
  · unfold cutB; rw [hP, List.map_append]; rfl
  · rw [hP, List.map_map]
    congr 1
    exact (List.map_id P).symm
  · have := cut_len (c := 10) s.data.toList
    rw [hP] at this
    have h2 : s.data.toList.count 10 ≤ s.data.toList.length := List.count_le_length
    rw [List.length_append, List.length_singleton] at this
    rw [size_list] at h2
    rw [List.length_map]; omega
theorem both_all (s : ByteArray) (hs : s.size ≤ 16000) (k : Nat) (hk : 200000 ≤ k) : ∃ r : List ByteArray × Int, spec_RecoverJournal.f k s = some (r.1, r.2, true) ∧ impl_RecoverJournal.f k s = some (r.1, r.2, true) ∧ r.1.length ≤ 16000 := by
  obtain ⟨A, y, h1, h2, h3⟩ := lines_at s hs
  obtain ⟨r, h4, h5, h6⟩ := both s hs A y A.length 0 0 k 0 [] (by omega) (by rw [List.drop_zero, List.drop_zero]; exact h2) (by omega) (by omega) (by omega) (by simp) h3 (by omega)
  refine ⟨r, ?_, ?_, h6⟩
  · unfold spec_RecoverJournal.f spec_l08Recover.f
    rw [if_neg (by omega), spec_lines s hs k (by omega) A (ba y) h1, Option.bind_some]
    rw [show (((0 : Nat)) : Int) = 0 from rfl] at h4
    rw [h4]; rfl
  · unfold impl_RecoverJournal.f impl_recoverJournal.f
    rw [show (((0 : Nat)) : Int) = 0 from rfl] at h5
    rw [if_neg (by omega), h5]; rfl
theorem pure : laws_FnExactRecoverJournal.Pure := by
  intro a0 _
  obtain ⟨K, hK⟩ : ∃ K : Nat, K = 8000000 := ⟨_, rfl⟩
  refine ⟨K + 1 + 1, ?_⟩
  unfold laws_FnExactRecoverJournal.f
  by_cases c : (a0.size : Int) > 1048576
  · rw [if_pos c]
  have key : ∃ (l : List ByteArray) (n : Int) (b : Bool), (∀ k, 200000 ≤ k → spec_RecoverJournal.f k a0 = some (l, n, b) ∧ impl_RecoverJournal.f k a0 = some (l, n, b)) ∧ l.length ≤ 16000 := by
    by_cases h : (a0.size : Int) > 16000
    · refine ⟨[], 0, false, fun k _ => ⟨?_, ?_⟩, Nat.zero_le _⟩
      · unfold spec_RecoverJournal.f; rw [if_pos h]
      · unfold impl_RecoverJournal.f; rw [if_pos h]
    · obtain ⟨r, h1, h2, h3⟩ := both_all a0 (by omega) 200000 (by omega)
      exact ⟨r.1, r.2, true, fun k hk => ⟨at_rounds (g := fun k => spec_RecoverJournal.f k a0) (fun k => spec_RecoverJournal.mono _ k) hk h1, at_rounds (g := fun k => impl_RecoverJournal.f k a0) (fun k => impl_RecoverJournal.mono _ k) hk h2⟩, h3⟩
  obtain ⟨l, n, b, h, hl⟩ := key
  have n0 : ¬ (((1 + l.length : Nat) : Int) < 0) := by omega
  rw [if_neg c, (h _ (by omega)).1, Option.bind_some, (h _ (by omega)).2, Option.bind_some]
  dsimp only
  rw [eqSs l (by omega) _ (by omega), Option.bind_some, if_pos rfl, if_pos rfl, laws_FnExactRecoverJournal.j0, if_neg (by simp), markS_some l (by omega) _ (by omega), Option.bind_some]
  dsimp only
  rw [heldS_some l.length (by omega) _ (by omega), Option.bind_some, if_neg n0, if_pos rfl, (h _ (by omega)).2, Option.bind_some]
  dsimp only
  rw [eqSs l (by omega) _ (by omega), Option.bind_some, if_pos rfl, if_pos rfl, laws_FnExactRecoverJournal.j1, if_neg (by simp), heldS_some l.length (by omega) _ (by omega), Option.bind_some, if_neg n0, if_pos rfl]
end Go.Proofs.YtbojmdjghfhmbaaDoor.RjPure
namespace Go.Proofs.YtbojmdjghfhmbaaDoor
open Go.RowKit
theorem recoverJournal_w (a0 : ByteArray) (w : World) (hT : GLd w) (w0 : a0.size ≤ 140737488351232) :
    Calls Tryd.prog 13 #[.string a0] w fun e w' => e = .returned (.bool true) ∧ Below w.heap.size w w' :=
  PFnExactRecoverJournal.laws_FnExactRecoverJournal.walk RjPure.pure a0 w w0 hT
end Go.Proofs.YtbojmdjghfhmbaaDoor
