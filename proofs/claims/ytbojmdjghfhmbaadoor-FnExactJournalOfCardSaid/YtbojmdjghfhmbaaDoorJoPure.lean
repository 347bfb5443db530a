/- JournalOf: what is left of the law beside the walk: both tell the same journal, or none. -/
import Derived.Test.YtbojmdjghfhmbaaDoorPFnExactJournalOfx
import Derived.Test.YtbojmdjghfhmbaaDoorDn
import Derived.Test.YtbojmdjghfhmbaaDoorOp
set_option linter.unusedVariables false
set_option linter.unusedSimpArgs false
namespace Go.Proofs.YtbojmdjghfhmbaaDoor.JoPure
open Go.RowKit Go.Proofs.YtbojmdjghfhmbaaDoorW.PrintWords Go.Proofs.YtbojmdjghfhmbaaDoor Go.Proofs.YtbojmdjghfhmbaaDoor.PFnExactJournalOf Go.Proofs.YtbojmdjghfhmbaaDoor.Lm
/-- the digits as the reference lays them, from the last one -/
def dI (u : Nat) : List Int := (Lib.decDigits u).map fun c => (c.toNat : Int)
theorem str_dI (L : List UInt8) : strOfNums (L.map fun c => (c.toNat : Int)) = ⟨L.toArray⟩ := by
  unfold strOfNums
  rw [List.map_map]
  congr 2
  conv => rhs; rw [← List.map_id L]
  refine List.map_congr_left fun c _ => ?_
  show UInt8.ofNat ((c.toNat : Int)).toNat = c
  rw [Int.toNat_natCast, UInt8.ofNat_toNat]
theorem dI_one {u : Nat} (h : u < 10) : dI u = [((48 + u : Nat) : Int)] := by
  unfold dI
  rw [Lib.decDigits, dif_pos h, List.map_singleton, Dn.dig_nat u h]
theorem dI_more {u : Nat} (h : ¬ u < 10) : dI u = dI (u / 10) ++ [((48 + u % 10 : Nat) : Int)] := by
  unfold dI
  rw [Lib.decDigits, dif_neg h, List.map_append, List.map_singleton, Dn.dig_nat _ (by omega)]
theorem dI_len (d u : Nat) (h : u < 10 ^ (d + 1)) : (dI u).length ≤ d + 1 := by unfold dI; rw [List.length_map]; exact Dn.dec_len d u h
theorem dec_dig (x : Int) (h0 : -9223372036854775808 ≤ x) (h1 : x ≤ 9223372036854775807) : (if Int.tmod x 10 < 0 then (wrap64 (48 + (wrap64 (-(Int.tmod x 10))))) % 256 else (wrap64 (48 + (Int.tmod x 10))) % 256) = ((48 + x.natAbs % 10 : Nat) : Int) := by
  have h2 : Int.tmod x 10 = if x < 0 then -((x.natAbs % 10 : Nat) : Int) else ((x.natAbs % 10 : Nat) : Int) := by
    split
    · rename_i h
      rw [show x = -((x.natAbs : Nat) : Int) by omega, Int.neg_tmod, Int.tmod_eq_emod_of_nonneg (by omega)]
      simp
    · rename_i h
      rw [Int.tmod_eq_emod_of_nonneg (by omega)]
      omega
  have hm : x.natAbs % 10 < 10 := by omega
  generalize x.natAbs % 10 = m at h2 hm ⊢
  by_cases hx : x < 0
  · rw [if_pos hx] at h2
    rw [h2]
    split
    · rw [w64 (x := - -(m : Int)) (by omega) (by omega), w64 (by omega) (by omega)]; omega
    · rw [w64 (by omega) (by omega)]; omega
  · rw [if_neg hx] at h2
    rw [h2, if_neg (by omega), w64 (by omega) (by omega)]; omega
theorem dec_next (x : Int) (h0 : -9223372036854775808 ≤ x) (h1 : x ≤ 9223372036854775807) : (wrap64 (Int.tdiv x 10)).natAbs = x.natAbs / 10 ∧ -9223372036854775808 ≤ wrap64 (Int.tdiv x 10) ∧ wrap64 (Int.tdiv x 10) ≤ 9223372036854775807 ∧ (wrap64 (Int.tdiv x 10) = 0 ↔ x.natAbs / 10 = 0) := by
  have h2 : (Int.tdiv x 10).natAbs = x.natAbs / 10 := by rw [Int.natAbs_tdiv]; rfl
  have h3 : wrap64 (Int.tdiv x 10) = Int.tdiv x 10 := w64 (by omega) (by omega)
  rw [h3]
  exact ⟨h2, by omega, by omega, by omega⟩
def decFin (x0 : Int) (L : List Int) : ByteArray := if x0 < 0 then strOfNums (45 :: L) else strOfNums L
theorem dec_end (k : Nat) (x0 : Int) (L : List Int) (hL : L ≠ []) (hl : L.length ≤ 1000) : spec_l01Dec.l0 (k + 2) x0 L 0 = some (decFin x0 L) := by
  rw [spec_l01Dec.l0, if_neg (by cases L with | nil => exact absurd rfl hL | cons a L => simp; omega), show ((0 : Int) != 0) = false from rfl, spec_l01Dec.j1, if_neg (by decide)]
  unfold decFin
  split
  · rw [Option.bind_some, if_pos (by simp; omega)]; rfl
  · rfl
theorem dec_loop (x0 : Int) : ∀ (d k : Nat) (x : Int) (L : List Int), x.natAbs < 10 ^ (d + 1) → -9223372036854775808 ≤ x → x ≤ 9223372036854775807 → (L = [] ∨ x ≠ 0) → L.length + d + 1 ≤ 900 → 2 * d + 4 ≤ k → spec_l01Dec.l0 k x0 L x = some (decFin x0 (dI x.natAbs ++ L))
  | d, 0, x, L, h, h0, h1, hx, hl, hk => by omega
  | d, 1, x, L, h, h0, h1, hx, hl, hk => by omega
  | d, k + 2, x, L, h, h0, h1, hx, hl, hk => by
    have hj : spec_l01Dec.l0 (k + 2) x0 L x = spec_l01Dec.j1 (k + 1) x0 L x true := by
      rw [spec_l01Dec.l0]
      by_cases c : (L.length : Int) = 0
      · rw [if_pos c]
      · rw [if_neg c]
        have : x ≠ 0 := by
          rcases hx with rfl | hx
          · exact absurd rfl c
          · exact hx
        rw [show (x != 0) = true from bne_iff_ne.2 this]
    have hs : spec_l01Dec.j1 (k + 1) x0 L x true = spec_l01Dec.l0 k x0 (((48 + x.natAbs % 10 : Nat) : Int) :: L) (wrap64 (Int.tdiv x 10)) := by
      have hd := dec_dig x h0 h1
      rw [spec_l01Dec.j1, if_pos rfl]
      split at hd
      · rename_i h
        rw [if_pos h, Option.bind_some, hd, if_pos (by simp; omega)]; rfl
      · rename_i h
        rw [if_neg h, Option.bind_some, hd, if_pos (by simp; omega)]; rfl
    obtain ⟨n1, n2, n3, n4⟩ := dec_next x h0 h1
    rw [hj, hs]
    by_cases c : x.natAbs < 10
    · have z : wrap64 (Int.tdiv x 10) = 0 := n4.2 (by omega)
      obtain ⟨k, rfl⟩ : ∃ m, k = m + 2 := ⟨k - 2, by omega⟩
      rw [z, dec_end k x0 _ (by simp) (by simp; omega), dI_one c, show x.natAbs % 10 = x.natAbs by omega]; rfl
    · cases d with
      | zero => simp at h; omega
      | succ d =>
        rw [dec_loop x0 d k _ _ (by rw [n1]; rw [Nat.pow_succ] at h; omega) n2 n3 (.inr (fun e => by have := n4.1 e; omega)) (by simp only [List.length_cons]; omega) (by omega), n1, dI_more c, List.append_assoc]; rfl
theorem spec_dec (n : Int) (h0 : -9223372036854775808 ≤ n) (h1 : n ≤ 9223372036854775807) (k : Nat) (hk : 50 ≤ k) : spec_l01Dec.f k n = some ⟨(Lib.itoa n).toArray⟩ := by
  unfold spec_l01Dec.f
  rw [dec_loop n 19 k n [] (by show n.natAbs < 100000000000000000000; omega) h0 h1 (.inl rfl) (by simp) (by omega), List.append_nil]
  unfold decFin Lib.itoa dI
  split
  · rw [show (45 : Int) = (((45 : UInt8).toNat : Nat) : Int) from rfl, ← List.map_cons (f := fun c : UInt8 => (c.toNat : Int)), str_dI]
  · rw [str_dI, show n.natAbs = n.toNat by omega]
theorem checkl (s : ByteArray) (hs : s.size ≤ 9223372036854775807) : ∀ (k : Nat) (x i : Int), 0 ≤ x → x < 65003 → 0 ≤ i → i ≤ s.size → s.size - i < k → ∃ c : Nat, c < 65003 ∧ spec_l01Check.l0 k x s i = some (c : Int) ∧ impl_CheckOf.l0 k x s i = some ((c : Int), true)
  | 0, x, i, _, _, _, _, hk => by omega
  | k + 1, x, i, h0, h1, hi, hl, hk => by
    unfold spec_l01Check.l0 impl_CheckOf.l0
    by_cases c : i < (s.size : Int)
    · obtain ⟨b0, b1⟩ := bt_range s i
      rw [if_pos c, if_pos c, if_pos hi, if_pos hi, w64 (x := i + 1) (by omega) (by omega), w64 (x := 797 * x) (by omega) (by omega), w64 (x := bt s i) (by omega) (by omega), w64 (x := 797 * x + bt s i) (by omega) (by omega), w64 (by omega) (by omega)]
      have hm : Int.tmod (797 * x + bt s i + 101) 65003 = (797 * x + bt s i + 101) % 65003 := Int.tmod_eq_emod_of_nonneg (by omega)
      rw [hm]
      exact checkl s hs k _ (i + 1) (by omega) (by omega) (by omega) (by omega) (by omega)
    · rw [if_neg c, if_neg c]
      refine ⟨x.toNat, by omega, ?_, ?_⟩ <;> rw [Int.toNat_of_nonneg h0]
theorem rdS_at {l : List ByteArray} {i : Nat} (h : i < l.length) : rdOf ByteArray.empty l (i : Int) = l[i]'h := by
  unfold rdOf
  rw [Int.toNat_natCast, List.getD_eq_getElem?_getD, List.getElem?_eq_getElem h]; rfl
theorem eqSl (l : List ByteArray) (hl : l.length ≤ 4194304) (d : Nat) : ∀ (k i : Nat), i + d = l.length → d < k → laws_eqStringS.l0 k l l (i : Int) = some true := by
  induction d with
  | zero =>
    intro k i h1 hk
    obtain ⟨k, rfl⟩ : ∃ m, k = m + 1 := ⟨k - 1, by omega⟩
    rw [laws_eqStringS.l0, if_neg (nlt (by omega))]
  | succ d ih =>
    intro k i h1 hk
    obtain ⟨k, rfl⟩ : ∃ m, k = m + 1 := ⟨k - 1, by omega⟩
    have hi : i < l.length := by omega
    rw [laws_eqStringS.l0, if_pos (lt' hi), if_pos (nn i), if_pos (lt' hi), if_pos rfl, up hi (by omega)]
    exact ih k (i + 1) (by omega) (by omega)
theorem eqSs (l : List ByteArray) (hl : l.length ≤ 4194303) (k : Nat) (hk : 4194304 ≤ k) : laws_eqStringS.f k l l = some true := by
  unfold laws_eqStringS.f
  rw [if_pos rfl]
  exact eqSl l (by omega) l.length k 0 (by omega) (by omega)
/-- the text of a mark -/
theorem eqS1 (l : List ByteArray) (hl : l.length ≤ 1048576) (k : Nat) (hk : l.length < k) : laws_eqStringS.f k l l = some true := by
  unfold laws_eqStringS.f
  rw [if_pos rfl]
  exact eqSl l (by omega) l.length k 0 (by omega) hk
def ssum (l : List ByteArray) : Nat := (l.map (·.size)).sum
theorem size_le_sum : ∀ (l : List ByteArray) (x : ByteArray), x ∈ l → x.size ≤ ssum l
  | y :: l, x, h => by
    unfold ssum
    rw [List.map_cons, List.sum_cons]
    rcases List.mem_cons.1 h with rfl | h
    · omega
    · have := size_le_sum l x h
      unfold ssum at this; omega
theorem szSl (l : List ByteArray) (hl : l.length ≤ 1048576) (hz : ∀ x ∈ l, x.size ≤ 140737488351232) : ∀ (d i n k : Nat), i + d = l.length → n ≤ 1048576 → d < k → ∃ r, laws_szStringS.l0 k l (n : Int) (i : Int) = some r ∧ (r < 0 ∨ ssum (l.drop i) ≤ n)
  | d, i, n, 0, h1, h2, h3 => by omega
  | 0, i, n, k + 1, h1, h2, h3 => by
    obtain rfl : i = l.length := by omega
    refine ⟨n, by rw [laws_szStringS.l0, if_neg (by omega)], .inr ?_⟩
    rw [List.drop_length]; exact Nat.zero_le _
  | d + 1, i, n, k + 1, h1, h2, h3 => by
    have hi : i < l.length := by omega
    have hx := hz _ (List.getElem_mem hi)
    have hs : ssum (l.drop i) = l[i].size + ssum (l.drop (i + 1)) := by unfold ssum; rw [List.drop_eq_getElem_cons hi, List.map_cons, List.sum_cons]
    have e1 : wrap64 ((n : Int) - (l[i].size : Int)) = (n : Int) - (l[i].size : Int) := w64 (by omega) (by omega)
    rw [laws_szStringS.l0, if_pos (lt' hi), if_pos (nn i), rdS_at hi, e1, hs]
    clear e1
    by_cases c : (n : Int) - (l[i].size : Int) < 0
    · exact ⟨-1, by rw [if_pos c], .inl (by decide)⟩
    · obtain ⟨r, h4, h5⟩ := szSl l hl hz d (i + 1) (n - l[i].size) k (by omega) (by omega) (by omega)
      refine ⟨r, ?_, h5.imp id (fun h => by omega)⟩
      rw [if_neg c, up hi (by omega), show (n : Int) - (l[i].size : Int) = ((n - l[i].size : Nat) : Int) by omega]; exact h4
theorem szS (l : List ByteArray) (hl : l.length ≤ 9223372036854775807) (hz : ∀ x ∈ l, x.size ≤ 140737488351232) : ∃ r, (∀ k, 1048577 ≤ k → laws_szStringS.f k l 1048576 = some r) ∧ (r < 0 ∨ l.length ≤ 1048576 ∧ ssum l ≤ 1048576) := by
  have e1 : wrap64 (1048576 - (l.length : Int)) = 1048576 - (l.length : Int) := w64 (by omega) (by omega)
  by_cases c : (1048576 : Int) - (l.length : Int) < 0
  · refine ⟨-1, fun k _ => ?_, .inl (by decide)⟩
    unfold laws_szStringS.f
    rw [e1, if_pos c]
  · obtain ⟨r, h4, h5⟩ := szSl l (by clear e1; omega) hz l.length 0 (1048576 - l.length) 1048577 (by omega) (by omega) (by clear e1; omega)
    rw [List.drop_zero] at h5
    refine ⟨r, fun k hk => ?_, h5.imp id (fun h => ⟨by clear e1; omega, by omega⟩)⟩
    refine at_rounds (g := fun k => laws_szStringS.f k l 1048576) (fun k => laws_szStringS.mono _ _ k) hk ?_
    unfold laws_szStringS.f
    rw [e1, if_neg c, show (1048576 : Int) - (l.length : Int) = ((1048576 - l.length : Nat) : Int) by clear e1; omega]; exact h4
theorem toSl (l : List ByteArray) (hl : l.length ≤ 1048576) (d : Nat) : ∀ (k : Nat) (ys : List ByteArray) (i : Nat), i + d = l.length → d < k → ys.length = l.length → ys.take i = l.take i → laws_toStringS.l0 k l ys (i : Int) = some l := by
  induction d with
  | zero =>
    intro k ys i h1 hk hy ht
    obtain ⟨k, rfl⟩ : ∃ m, k = m + 1 := ⟨k - 1, by omega⟩
    obtain rfl : i = l.length := by omega
    rw [laws_toStringS.l0, if_neg (nlt (Nat.le_refl _))]
    rw [List.take_of_length_le (by omega), List.take_of_length_le (Nat.le_refl _)] at ht
    rw [ht]
  | succ d ih =>
    intro k ys i h1 hk hy ht
    obtain ⟨k, rfl⟩ : ∃ m, k = m + 1 := ⟨k - 1, by omega⟩
    have hi : i < l.length := by omega
    have hiy : i < ys.length := by omega
    have hset := take_set_succ hi hy ht (List.getElem?_eq_getElem hi)
    rw [laws_toStringS.l0, if_pos (lt' hi), if_pos (nn i), rdS_at hi, if_pos (lt' hiy), up hi (by omega), Int.toNat_natCast]
    exact ih k _ (i + 1) (by omega) (by omega) (by rw [List.length_set]; exact hy) hset
theorem toS (l : List ByteArray) (hl : l.length ≤ 1048576) (k : Nat) (hk : 1048577 ≤ k) : laws_toStringS.f k l = some l := by
  unfold laws_toStringS.f
  rw [if_pos (nn _), if_pos (by omega)]
  exact toSl l hl l.length k _ 0 (by omega) (by omega) (by rw [List.length_replicate]; omega) rfl
theorem check_both (s : ByteArray) (hs : s.size ≤ 1048576) (c : Int) (h0 : 0 ≤ c) (h1 : c < 65003) : ∃ d : Nat, d < 65003 ∧ ∀ k, 1048577 ≤ k → spec_l01Check.f k c s = some (d : Int) ∧ impl_CheckOf.f k c s = some ((d : Int), true) := by
  obtain ⟨d, h2, h3, h4⟩ := checkl s (by omega) 1048577 c 0 h0 h1 (by omega) (by omega) (by omega)
  have h5 : impl_CheckOf.f 1048577 c s = some ((d : Int), true) := by
    unfold impl_CheckOf.f impl_within.f
    rw [if_pos (by omega), Option.bind_some, if_pos (decide_eq_true (by omega))]
    exact h4
  exact ⟨d, h2, fun k hk => ⟨at_rounds (g := fun k => spec_l01Check.f k c s) (fun k => spec_l01Check.mono _ _ k) hk h3, at_rounds (g := fun k => impl_CheckOf.f k c s) (fun k => impl_CheckOf.mono _ _ k) hk h5⟩⟩
def sm (l : List ByteArray) : Nat := (l.map fun x => x.size + 3).sum
theorem sm_cons (x : ByteArray) (l : List ByteArray) : sm (x :: l) = x.size + 3 + sm l := by unfold sm; rw [List.map_cons, List.sum_cons]
theorem sm_sum : ∀ l : List ByteArray, sm l = ssum l + 3 * l.length
  | [] => rfl
  | x :: l => by
    rw [sm_cons, sm_sum l]
    unfold ssum
    rw [List.map_cons, List.sum_cons, List.length_cons]; omega
def nl (l : List ByteArray) : Bool := l.any fun x => decide ((10 : UInt8) ∈ x.data.toList)
def res (b : Bool) (T : List UInt8) : ByteArray × Bool := if b = true ∨ 16000 < T.length then (⟨#[]⟩, false) else (⟨T.toArray⟩, true)
theorem mem_idx (l : List UInt8) : 0 ≤ Lib.indexByte l 10 ↔ (10 : UInt8) ∈ l := by
  rcases index_spec 10 l with ⟨h1, h2⟩ | ⟨p, r, h1, h2, h3⟩
  · rw [h1]; exact ⟨fun h => by omega, fun h => absurd h h2⟩
  · rw [h3, h1]; exact ⟨fun _ => by simp, fun _ => by omega⟩
theorem str_app3 (a b : ByteArray) : (a ++ b).data.toList = a.data.toList ++ b.data.toList := by rw [ByteArray.data_append, Array.toList_append]
/-- the texts of the lines from one on, and what both make of them -/
theorem texts (L : List ByteArray) (hL : L.length ≤ 1048576) (hz : ∀ x ∈ L, x.size ≤ 1048576) (K : Nat) (hK : 1048577 ≤ K) : ∀ (d j : Nat) (c : Int), j + d = L.length → 0 ≤ c → c < 65003 →
    ∃ T : List UInt8, sm (L.drop j) ≤ T.length ∧ T.length ≤ sm (L.drop j) + 20 * d
      ∧ (∀ (k : Nat) (out : ByteArray), out.size + T.length ≤ 100000000 → d + 1048577 < k → spec_l08Journal.l0 k L out c (j : Int) = some ⟨(out.data.toList ++ T).toArray⟩)
      ∧ (∀ acc : List UInt8, acc.length ≤ 16000 → jrun (impl_CheckOf.f K) (L.drop j) c acc = some (res (nl (L.drop j)) (acc ++ T)))
  | 0, j, c, h1, h2, h3 => by
    obtain rfl : j = L.length := by omega
    refine ⟨[], by rw [List.drop_length]; decide, by simp, fun k out ho hk => ?_, fun acc ha => ?_⟩
    · obtain ⟨k, rfl⟩ : ∃ m, k = m + 1 := ⟨k - 1, by omega⟩
      rw [spec_l08Journal.l0, if_neg (by omega), List.append_nil]
    · rw [List.drop_length, jrun, List.append_nil]
      unfold res nl
      rw [if_neg (by simp; omega)]
  | d + 1, j, c, h1, h2, h3 => by
    have hj : j < L.length := by omega
    have hx : L[j].size ≤ 1048576 := hz _ (List.getElem_mem _)
    obtain ⟨v, hv, hc⟩ := check_both L[j] hx c h2 h3
    obtain ⟨T, t1, t2, t3, t4⟩ := texts L hL hz K hK d (j + 1) (v : Int) (by omega) (by omega) (by omega)
    have hil := Dn.itoa_len (v : Int) (by omega) (by omega)
    have hlx : L[j].data.toList.length = L[j].size := size_list _
    refine ⟨(Lib.itoa (v : Int) ++ 32 :: (L[j].data.toList ++ [10])) ++ T, ?_, ?_, fun k out ho hk => ?_, fun acc ha => ?_⟩
    · rw [List.drop_eq_getElem_cons hj, sm_cons]
      simp only [List.length_append, List.length_cons, List.length_nil, hlx]; omega
    · rw [List.drop_eq_getElem_cons hj, sm_cons]
      simp only [List.length_append, List.length_cons, List.length_nil, hlx]; omega
    · obtain ⟨k, rfl⟩ : ∃ m, k = m + 1 := ⟨k - 1, by omega⟩
      simp only [List.length_append, List.length_cons, List.length_nil, hlx] at ho
      have hr : rdOf ByteArray.empty L (j : Int) = L[j] := rdS_at hj
      have hdz : (⟨(Lib.itoa (v : Int)).toArray⟩ : ByteArray).size = (Lib.itoa (v : Int)).length := rfl
      have z1 : (((⟨(Lib.itoa (v : Int)).toArray⟩ : ByteArray) ++ (⟨#[32]⟩ : ByteArray))).size = (Lib.itoa (v : Int)).length + 1 := by rw [ByteArray.size_append]; rfl
      have z2 : ((((⟨(Lib.itoa (v : Int)).toArray⟩ : ByteArray) ++ (⟨#[32]⟩ : ByteArray))) ++ L[j]).size = (Lib.itoa (v : Int)).length + 1 + L[j].size := by rw [ByteArray.size_append, z1]
      have z3 : (((((⟨(Lib.itoa (v : Int)).toArray⟩ : ByteArray) ++ (⟨#[32]⟩ : ByteArray))) ++ L[j]) ++ (⟨#[10]⟩ : ByteArray)).size = (Lib.itoa (v : Int)).length + 1 + L[j].size + 1 := by rw [ByteArray.size_append, z2]; rfl
      have z4 : (out ++ (((((⟨(Lib.itoa (v : Int)).toArray⟩ : ByteArray) ++ (⟨#[32]⟩ : ByteArray))) ++ L[j]) ++ (⟨#[10]⟩ : ByteArray))).size = out.size + ((Lib.itoa (v : Int)).length + 1 + L[j].size + 1) := by rw [ByteArray.size_append, z3]
      have e1 : wrap64 ((j : Int) + 1) = ((j + 1 : Nat) : Int) := up (n := 1048577) (by omega) (by decide)
      have f1 : (j : Int) < (L.length : Int) := lt' hj
      rw [spec_l08Journal.l0, if_pos f1, if_pos (nn j), hr, (hc k (by clear e1; omega)).1, Option.bind_some, spec_dec _ (by clear e1; omega) (by clear e1; omega) k (by clear e1; omega), Option.bind_some,
        if_pos (by rw [hdz]; clear e1; omega), if_pos (by rw [z1]; clear e1; omega), if_pos (by rw [z2]; clear e1; omega), if_pos (by rw [z3]; clear e1; omega), e1]
      clear e1
      rw [t3 k _ (by rw [z4]; omega) (by omega), str_app3, str_app3, str_app3, str_app3]
      congr 3
      show (out.data.toList ++ (((Lib.itoa (v : Int) ++ [32]) ++ L[j].data.toList) ++ [10])) ++ T = out.data.toList ++ ((Lib.itoa (v : Int) ++ 32 :: (L[j].data.toList ++ [10])) ++ T)
      simp
    · have hnl : nl (L.drop j) = (decide ((10 : UInt8) ∈ L[j].data.toList) || nl (L.drop (j + 1))) := by rw [List.drop_eq_getElem_cons hj]; rfl
      rw [hnl, List.drop_eq_getElem_cons hj, jrun, if_pos (by omega), (hc K hK).2, Option.bind_some]
      dsimp only
      rw [if_pos ⟨by omega, by omega⟩]
      have hass : acc ++ ((Lib.itoa (v : Int) ++ 32 :: (L[j].data.toList ++ [10])) ++ T) = (acc ++ (Lib.itoa (v : Int) ++ 32 :: (L[j].data.toList ++ [10]))) ++ T := by simp only [List.append_assoc]
      rw [hass]
      generalize acc ++ (Lib.itoa (v : Int) ++ 32 :: (L[j].data.toList ++ [10])) = A2 at *
      by_cases c1 : (10 : UInt8) ∈ L[j].data.toList
      · rw [if_pos (.inl ((mem_idx _).2 c1))]
        unfold res
        rw [decide_eq_true c1, if_pos (.inl rfl)]
      · by_cases c2 : 16000 < A2.length
        · rw [if_pos (.inr c2)]
          unfold res
          rw [if_pos (.inr (by rw [List.length_append]; omega))]
        · rw [if_neg (fun h => h.elim (fun h => c1 ((mem_idx _).1 h)) c2), t4 A2 (by omega), decide_eq_false c1, Bool.false_or]
theorem l1_spec (L : List ByteArray) (tot : Int) (j : Nat) (hj : j < L.length) (hL : L.length ≤ 1048576) (hx : L[j].size ≤ 1048576) : ∀ (d i k : Nat), i + d = L[j].size → d < k →
    ∃ k', k' + d + 1 = k ∧ spec_JournalOf.l1 k L tot (j : Int) (i : Int) = if (10 : UInt8) ∈ L[j].data.toList.drop i then some (⟨#[]⟩, false) else spec_JournalOf.l0 k' L tot ((j + 1 : Nat) : Int)
  | d, i, 0, h1, h2 => by omega
  | 0, i, k + 1, h1, h2 => by
    obtain rfl : i = L[j].size := by omega
    refine ⟨k, by omega, ?_⟩
    rw [spec_JournalOf.l1, if_pos (nn j), if_pos (lt' hj), rdS_at hj, if_neg (by omega), up (n := 1048577) (by omega) (by decide), List.drop_of_length_le (by rw [size_list]; exact Nat.le_refl _), if_neg (fun h => by cases h)]
  | d + 1, i, k + 1, h1, h2 => by
    have hi : i < L[j].size := by omega
    obtain ⟨k', h3, h4⟩ := l1_spec L tot j hj hL hx d (i + 1) k (by omega) (by omega)
    refine ⟨k', by omega, ?_⟩
    have hd : L[j].data.toList.drop i = (L[j].data.toList[i]'hi) :: L[j].data.toList.drop (i + 1) := List.drop_eq_getElem_cons hi
    rw [spec_JournalOf.l1, if_pos (nn j), if_pos (lt' hj), rdS_at hj, if_pos (lt' hi), if_pos (nn i), bt_nat _ _ hi, up (n := 1048577) (by omega) (by decide), hd]
    by_cases c : L[j].data.toList[i]'hi = 10
    · rw [if_pos (by rw [c]; rfl), if_pos (by rw [c]; exact List.mem_cons_self)]
    · rw [if_neg (show ¬ (((L[j].data.toList[i]'hi).toNat : Int) = 10) from fun e => c (u8_eq (b := 10) e)), h4]
      by_cases c2 : (10 : UInt8) ∈ L[j].data.toList.drop (i + 1)
      · rw [if_pos c2, if_pos (List.mem_cons_of_mem _ c2)]
      · rw [if_neg c2, if_neg (fun h => by rcases List.mem_cons.1 h with h | h; exact c h.symm; exact c2 h)]
theorem first (L : List ByteArray) (hL : L.length ≤ 1048576) (hz : ∀ x ∈ L, x.size ≤ 1048576) (F : ByteArray × Bool) (hF : ∀ k, 3000000 ≤ k → (spec_l08Journal.f k L).bind (fun t127 => (if (t127.size : Int) > 16000 then (some ((⟨#[]⟩ : ByteArray), false)) else (some (t127, true)))) = some F) :
    ∀ (d j k tot : Nat), j + d = L.length → tot ≤ 16000 → 3000001 + 1048578 * d ≤ k → spec_JournalOf.l0 k L (tot : Int) (j : Int) = some (if nl (L.drop j) = true ∨ 16000 < tot + sm (L.drop j) then (⟨#[]⟩, false) else F)
  | d, j, 0, tot, h1, h2, h3 => by omega
  | 0, j, k + 1, tot, h1, h2, h3 => by
    obtain rfl : j = L.length := by omega
    rw [spec_JournalOf.l0, if_neg (by omega), hF k (by omega), List.drop_length, if_neg]
    rintro (h | h)
    · cases h
    · have : sm [] = 0 := rfl
      omega
  | d + 1, j, k + 1, tot, h1, h2, h3 => by
    have hj : j < L.length := by omega
    have hx : L[j].size ≤ 1048576 := hz _ (List.getElem_mem _)
    have hnl : nl (L.drop j) = (decide ((10 : UInt8) ∈ L[j].data.toList) || nl (L.drop (j + 1))) := by rw [List.drop_eq_getElem_cons hj]; rfl
    have hsm : sm (L.drop j) = L[j].size + 3 + sm (L.drop (j + 1)) := by rw [List.drop_eq_getElem_cons hj, sm_cons]
    have e1 : wrap64 ((L[j].size : Int) + 3) = ((L[j].size + 3 : Nat) : Int) := by rw [w64 (by omega) (by omega)]; omega
    have e2 : wrap64 ((tot : Int) + ((L[j].size + 3 : Nat) : Int)) = ((tot + (L[j].size + 3) : Nat) : Int) := sum (n := 2000000) (by clear e1; omega) (by decide)
    rw [spec_JournalOf.l0, if_pos (lt' hj), if_pos (nn j), rdS_at hj, e1, e2, hnl, hsm]
    clear e1 e2
    by_cases c : 16000 < tot + (L[j].size + 3)
    · rw [if_pos (by omega), if_pos (.inr (by omega))]
    · obtain ⟨k', h4, h5⟩ := l1_spec L ((tot + (L[j].size + 3) : Nat) : Int) j hj hL hx L[j].size 0 k (by omega) (by omega)
      rw [show (((0 : Nat)) : Int) = 0 from rfl, List.drop_zero] at h5
      rw [if_neg (by omega), h5]
      by_cases c2 : (10 : UInt8) ∈ L[j].data.toList
      · rw [if_pos c2, decide_eq_true c2, if_pos (.inl rfl)]
      · rw [if_neg c2, first L hL hz F hF d (j + 1) k' _ (by omega) (by omega) (by omega), decide_eq_false c2, Bool.false_or, Nat.add_assoc tot]
/-- both -/
theorem both (L : List ByteArray) (hL : L.length ≤ 1048576) (hz : ∀ x ∈ L, x.size ≤ 1048576) (hs : sm L ≤ 10000000) (k : Nat) (hk : 3000002 + 1048578 * L.length ≤ k) : ∃ r : ByteArray × Bool, spec_JournalOf.f k L = some r ∧ impl_JournalOf.f k L = some r := by
  obtain ⟨T, t1, t2, t3, t4⟩ := texts L hL hz k (by omega) L.length 0 0 (by omega) (by omega) (by omega)
  rw [List.drop_zero] at t1 t2 t4
  have hF : ∀ k, 3000000 ≤ k → (spec_l08Journal.f k L).bind (fun t127 => (if (t127.size : Int) > 16000 then (some ((⟨#[]⟩ : ByteArray), false)) else (some (t127, true)))) = some (res false T) := by
    intro k hk
    unfold spec_l08Journal.f
    have h3 := t3 k ⟨#[]⟩ (by show 0 + T.length ≤ _; omega) (by omega)
    rw [show (((0 : Nat)) : Int) = 0 from rfl] at h3
    rw [h3, Option.bind_some]
    have hTz : (⟨((⟨#[]⟩ : ByteArray).data.toList ++ T).toArray⟩ : ByteArray) = ⟨T.toArray⟩ := rfl
    rw [hTz]
    unfold res
    by_cases c : 16000 < T.length
    · rw [if_pos (show (((⟨T.toArray⟩ : ByteArray).size : Int) > 16000) from by show ((T.length : Int) > 16000); omega), if_pos (.inr c)]
    · rw [if_neg (show ¬ (((⟨T.toArray⟩ : ByteArray).size : Int) > 16000) from by show ¬ ((T.length : Int) > 16000); omega), if_neg (fun h => by rcases h with h | h; cases h; exact c h)]
  refine ⟨res (nl L) T, ?_, ?_⟩
  · have h := first L hL hz _ hF L.length 0 k 0 (by omega) (by omega) (by omega)
    rw [show (((0 : Nat)) : Int) = 0 from rfl, List.drop_zero] at h
    unfold spec_JournalOf.f
    rw [h]
    unfold res
    congr 1
    by_cases c1 : nl L = true
    · rw [if_pos (.inl c1), if_pos (.inl c1)]
    · by_cases c2 : 16000 < 0 + sm L
      · rw [if_pos (.inr c2), if_pos (.inr (by omega))]
      · rw [if_neg (fun h => h.elim c1 c2)]
        by_cases c3 : 16000 < T.length
        · rw [if_pos (.inr c3), if_pos (.inr c3)]
        · rw [if_neg (fun h => by rcases h with h | h; cases h; exact c3 h), if_neg (fun h => h.elim c1 c3)]
  · unfold impl_JournalOf.f
    rw [if_pos (by omega), t4 [] (by simp)]; rfl
theorem pure (l : List ByteArray) (hl : l.length ≤ 9223372036854775807) (hz : ∀ x ∈ l, x.size ≤ 140737488351232) : ∃ k, laws_FnExactJournalOf.f k l = some true := by
  obtain ⟨r, hr, h⟩ := szS l hl hz
  obtain ⟨K, hK⟩ : ∃ K : Nat, K = 3000002 + 1048578 * l.length + 1048577 := ⟨_, rfl⟩
  refine ⟨K + 1, ?_⟩
  unfold laws_FnExactJournalOf.f
  rw [hr _ (by omega), Option.bind_some]
  by_cases c : r < 0
  · rw [if_pos c]
  · obtain ⟨h1, h2⟩ := h.resolve_left c
    have hz1 : ∀ x ∈ l, x.size ≤ 1048576 := fun x hx => Nat.le_trans (size_le_sum l x hx) h2
    have hsm := sm_sum l
    obtain ⟨q, e1, e2⟩ := both l h1 hz1 (by omega) (K + 1) (by omega)
    rw [if_neg c, toS l h1 _ (by omega), Option.bind_some, e1, Option.bind_some, Option.bind_some, e2, Option.bind_some, if_pos rfl, bne_self_eq_false, laws_FnExactJournalOf.j0, if_neg (by decide), toS l h1 _ (by omega), Option.bind_some, eqS1 l h1 K (by omega), Option.bind_some, if_pos rfl]
end Go.Proofs.YtbojmdjghfhmbaaDoor.JoPure
namespace Go.Proofs.YtbojmdjghfhmbaaDoor
open Go.RowKit Go.Proofs.YtbojmdjghfhmbaaDoorW.PrintWords Go.Proofs.YtbojmdjghfhmbaaDoor.PFnExactJournalOf Go.ChangeShapes Go.WideShapes
theorem opens_strings_jo : Opens Tryd.prog 69 (Kd.slice 9 Kd.string) (fun l => l.length ≤ 9223372036854775807 ∧ l.length * 16 ≤ 140737488351232 ∧ ∀ x ∈ l, x.size ≤ 140737488351232) :=
  opens_slice _ Tryd.underlying69 (by kernel_rfl) (by kernel_rfl) (opens_str Tryd.underlying9)
theorem journalOf_w (A0 : Option Addr) (c0 : Nat) (l0 : List ByteArray) (w : World) (hT : GLd w) (hr0 : Kd.C Kd.string w A0 l0.length l0) (hc0 : l0.length ≤ c0) (z0 : l0.length ≤ 9223372036854775807 ∧ l0.length * 16 ≤ 140737488351232 ∧ ∀ x ∈ l0, x.size ≤ 140737488351232) :
    Calls Tryd.prog 12 #[.slice A0 l0.length c0] w fun e w' => e = .returned (.bool true) ∧ Below w.heap.size w w' := by
  obtain ⟨k, hk⟩ := JoPure.pure l0 z0.1 z0.2.2
  exact laws_FnExactJournalOf.calls k A0 c0 l0 true w hr0 hc0 hT hk
end Go.Proofs.YtbojmdjghfhmbaaDoor
