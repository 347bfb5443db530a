/- CountOutputs: what is left of the law beside the walk: for every string of at most 1048576 bytes both count alike. -/
import Derived.Test.YtbojmdjghfhmbaaDoorPFnExactCountOutputsx
import Derived.Test.YtbojmdjghfhmbaaDoorLm
set_option linter.unusedVariables false
set_option linter.unusedSimpArgs false
namespace Go.Proofs.YtbojmdjghfhmbaaDoor.CoPure
open Go.RowKit Go.Proofs.YtbojmdjghfhmbaaDoorW.PrintWords Go.Proofs.YtbojmdjghfhmbaaDoor.PFnExactCountOutputs Go.Proofs.YtbojmdjghfhmbaaDoor.Lm
theorem cutl (s : ByteArray) (hs : s.size ≤ 4194304) (c : UInt8) : ∀ (d k : Nat) (out : List ByteArray) (a i : Nat), i + d = s.size → a ≤ i → c ∉ (s.data.toList.drop a).take (i - a) → out.length ≤ i → d + 1 < k →
    spec_l01Cut.l0 k s ((c.toNat : Nat) : Int) out (a : Int) (i : Int) = some (out ++ (cut c (s.data.toList.drop a)).map ba)
  | d, 0, out, a, i, h1, ha, hc, ho, hk => by omega
  | 0, k + 1, out, a, i, h1, ha, hc, ho, hk => by
    obtain ⟨k, rfl⟩ : ∃ m, k = m + 1 := ⟨k - 1, by omega⟩
    have hi : i = s.size := h1
    subst hi
    have hd : (s.data.toList.drop a).take (s.size - a) = s.data.toList.drop a := List.take_of_length_le (by rw [List.length_drop, size_list]; exact Nat.le_refl _)
    rw [hd] at hc
    rw [spec_l01Cut.l0, if_pos (Int.le_refl _), if_pos rfl, if_pos (by omega), if_pos (by omega), if_pos (by omega), Int.toNat_natCast, Int.toNat_natCast, w64 (by omega) (by omega), spec_l01Cut.l0, if_neg (by omega), cut_none hc, extract_ba, hd]
    rfl
  | d + 1, k + 1, out, a, i, h1, ha, hc, ho, hk => by
    have hi : i < s.size := by omega
    have e1 : wrap64 ((i : Int) + 1) = ((i + 1 : Nat) : Int) := by rw [w64 (by omega) (by omega)]; omega
    have hx : s.data.toList.drop a = (s.data.toList.drop a).take (i - a) ++ (s.data.toList[i]'hi) :: s.data.toList.drop (i + 1) := by
      have h2 : (s.data.toList.drop a).drop (i - a) = (s.data.toList[i]'hi) :: s.data.toList.drop (i + 1) := by
        rw [List.drop_drop, show a + (i - a) = i by omega]; exact List.drop_eq_getElem_cons hi
      rw [← h2, List.take_append_drop]
    have hb := bt_nat s i hi
    rw [spec_l01Cut.l0, if_pos (by omega), if_neg (by omega), if_pos (by omega), if_pos (by omega), hb]
    by_cases c1 : (((s.data.toList[i]'hi).toNat : Nat) : Int) = ((c.toNat : Nat) : Int)
    · have hc1 := u8_eq c1
      rw [if_pos c1, if_pos (by omega), if_pos (by omega), if_pos (by omega), e1, Int.toNat_natCast, Int.toNat_natCast]
      rw [cutl s hs c d k _ (i + 1) (i + 1) (by omega) (Nat.le_refl _) (by rw [Nat.sub_self, List.take_zero]; exact fun h => by cases h) (by rw [List.length_append, List.length_singleton]; omega) (by omega)]
      rw [hx, hc1, cut_hit _ hc, extract_ba, List.append_assoc]
      rfl
    · rw [if_neg c1, e1]
      refine cutl s hs c d k out a (i + 1) (by omega) (by omega) ?_ (by omega) (by omega)
      have h3 : (s.data.toList.drop a).take (i + 1 - a) = (s.data.toList.drop a).take (i - a) ++ [s.data.toList[i]'hi] := by
        rw [show i + 1 - a = (i - a) + 1 by omega, List.take_succ_eq_append_getElem (by rw [List.length_drop, size_list]; omega)]
        congr 2
        rw [List.getElem_drop]
        congr 1
        omega
      rw [h3]
      intro hm
      rcases List.mem_append.1 hm with e | e
      · exact hc e
      · rw [List.mem_singleton] at e
        exact c1 (by rw [e])
theorem cut_spec (s : ByteArray) (hs : s.size ≤ 4194304) (c : UInt8) (k : Nat) (hk : s.size + 1 < k) : spec_l01Cut.f k s ((c.toNat : Nat) : Int) = some (cutB c s) :=
  cutl s hs c s.size k [] 0 0 (by omega) (by omega) (by simp) (by simp) hk
theorem gs0 (c : UInt8) (k : Nat) (x : ByteArray) (l : List ByteArray) (n : Nat) (hc : x.data.toList.count c = 0) (hl : l.length = n + 1) (hn : n ≤ 4194304) : strings_genSplit.l0 (k + 1) x (ba [c]) 0 (n : Int) l (n : Int) = some (l.take n ++ cutB c x) := by
  have hn0 : c ∉ x.data.toList := fun h => by
    have := List.count_pos_iff.2 h
    omega
  have e1 : wrap64 ((n : Int) + 1) = ((n + 1 : Nat) : Int) := by rw [w64 (by omega) (by omega)]; omega
  have f1 : ¬ ((n : Int) < (n : Int)) := by omega
  have f2 : (0 : Int) ≤ (n : Int) := by omega
  have f3 : (n : Int) < (l.length : Int) := by omega
  have f4 : (0 : Int) ≤ ((n + 1 : Nat) : Int) := by omega
  have f5 : ((n + 1 : Nat) : Int) ≤ (l.length : Int) := by omega
  have f6 : n < l.length := by omega
  rw [strings_genSplit.l0, if_neg f1, if_pos f2, if_pos f3, e1, if_pos f4, if_pos f5, Int.toNat_natCast, Int.toNat_natCast]
  unfold cutB
  rw [cut_none hn0, take_set_snoc f6]
  rfl
theorem gs1 (c : UInt8) (k : Nat) (x : ByteArray) (l : List ByteArray) (i n : Nat) (p r : List UInt8) (hin : i < n) (hl : l.length = n + 1) (hn : n ≤ 4194304) (hx : x.size ≤ 4194304) (h2 : x.data.toList = p ++ c :: r) (h4 : Lib.indexByte x.data.toList c = (p.length : Int)) :
    strings_genSplit.l0 (k + 1) x (ba [c]) 0 (n : Int) l (i : Int) = strings_genSplit.l0 k (ba r) (ba [c]) 0 (n : Int) (l.set i (ba p)) ((i + 1 : Nat) : Int) := by
  obtain ⟨g1, g2, g3⟩ := take_hit h2
  have hI : strings_Index.f x (ba [c]) = some ((p.length : Nat) : Int) := by
    unfold strings_Index.f
    rw [if_pos (show (ba [c]).size = 1 from rfl), ← h4]; rfl
  clear h4 h2
  have f1 : (i : Int) < (n : Int) := by omega
  have f2 : ¬ (((p.length : Nat) : Int) < 0) := by omega
  have f3 : (0 : Int) ≤ ((p.length : Nat) : Int) := by omega
  have f4 : ((p.length : Nat) : Int) ≤ (x.size : Int) := by omega
  have f5 : (0 : Int) ≤ (i : Int) := by omega
  have f6 : (i : Int) < (l.length : Int) := by omega
  have f7 : (0 : Int) ≤ ((p.length + 1 : Nat) : Int) := by omega
  have f8 : ((p.length + 1 : Nat) : Int) ≤ (x.size : Int) := by omega
  have e1 : wrap64 ((i : Int) + 1) = ((i + 1 : Nat) : Int) := by rw [w64 (by omega) (by omega)]; omega
  have e2 : wrap64 (((p.length : Nat) : Int) + 0) = ((p.length : Nat) : Int) := by rw [w64 (by omega) (by omega)]; omega
  have e3 : wrap64 (((p.length : Nat) : Int) + (((ba [c]).size : Nat) : Int)) = ((p.length + 1 : Nat) : Int) := by
    rw [show (((ba [c]).size : Nat) : Int) = 1 from rfl, w64 (by omega) (by omega)]; omega
  rw [strings_genSplit.l0, if_pos f1, hI, Option.bind_some, if_neg f2, e2, if_pos f3, if_pos f4, if_pos f5, if_pos f6, e3, if_pos f7, if_pos f8, e1, Int.toNat_natCast, Int.toNat_natCast, Int.toNat_natCast, g1, g2]
theorem gsl (c : UInt8) (n : Nat) (hn : n ≤ 4194304) (d : Nat) : ∀ (k : Nat) (x : ByteArray) (l : List ByteArray) (i : Nat), i + d = n → x.data.toList.count c = d → l.length = n + 1 → x.size ≤ 4194304 → d < k →
    strings_genSplit.l0 k x (ba [c]) 0 (n : Int) l (i : Int) = some (l.take i ++ cutB c x) := by
  induction d with
  | zero =>
    intro k x l i h1 hc hl hx hk
    obtain ⟨k, rfl⟩ : ∃ m, k = m + 1 := ⟨k - 1, by omega⟩
    obtain rfl : i = n := by omega
    exact gs0 c k x l i hc hl hn
  | succ d ih =>
    intro k x l i h1 hc hl hx hk
    obtain ⟨k, rfl⟩ : ∃ m, k = m + 1 := ⟨k - 1, by omega⟩
    rcases index_spec c x.data.toList with ⟨_, h⟩ | ⟨p, r, h2, h3, h4⟩
    · rw [List.count_eq_zero_of_not_mem h] at hc
      omega
    · obtain ⟨g1, g2, g3⟩ := take_hit h2
      have hcr : (ba r).data.toList.count c = d := by
        rw [h2, count_hit h3] at hc
        rw [list_ba]; omega
      rw [gs1 c k x l i n p r (by omega) hl hn hx h2 h4, ih k (ba r) _ (i + 1) (by omega) hcr (by rw [List.length_set]; exact hl) (by rw [size_ba]; omega) (by omega), take_set_snoc (by omega)]
      unfold cutB
      rw [h2, cut_hit r h3, List.append_assoc]
      rfl
theorem split_some (s : ByteArray) (hs : s.size ≤ 4194303) (c : UInt8) (k : Nat) (hk : s.size + 1 < k) : strings_Split.f k s (ba [c]) = some (cutB c s) := by
  obtain ⟨k, rfl⟩ : ∃ m, k = m + 1 := ⟨k - 1, by omega⟩
  have hle : s.data.toList.count c ≤ s.size := List.count_le_length
  have hC : strings_Count.f s (ba [c]) = some ((s.data.toList.count c : Nat) : Int) := by
    unfold strings_Count.f
    rw [if_pos (show (ba [c]).size = 1 from rfl)]; rfl
  have e1 : wrap64 (((s.data.toList.count c : Nat) : Int) + 1) = ((s.data.toList.count c + 1 : Nat) : Int) := by rw [w64 (by omega) (by omega)]; omega
  have e2 : mn ((s.data.toList.count c + 1 : Nat) : Int) (wrap64 ((s.size : Int) + 1)) = ((s.data.toList.count c + 1 : Nat) : Int) := by
    rw [w64 (by omega) (by omega)]; unfold mn; split <;> omega
  have e3 : wrap64 (((s.data.toList.count c + 1 : Nat) : Int) - 1) = ((s.data.toList.count c : Nat) : Int) := by rw [w64 (by omega) (by omega)]; omega
  have hne : ¬ ((ba [c]).toList = ([] : List UInt8)) := by
    intro h
    have := nil_iff.1 h
    cases this
  unfold strings_Split.f strings_genSplit.f
  rw [if_neg (by decide), if_neg hne, if_pos (by decide), hC, Option.bind_some, e1, strings_genSplit.j0, e2, if_pos (by omega), if_pos (by omega), e3, Int.toNat_natCast]
  have hg := gsl c (s.data.toList.count c) (by omega) (s.data.toList.count c) k s (List.replicate (s.data.toList.count c + 1) (⟨#[]⟩ : ByteArray)) 0 (by omega) rfl (by rw [List.length_replicate]) (by omega) (by omega)
  rw [show (((0 : Nat) : Int)) = 0 from rfl] at hg
  rw [hg]
  rfl
theorem cut_snoc (c : UInt8) : ∀ p : List UInt8, cut c (p ++ [c]) = cut c p ++ [[]]
  | [] => by simp [cut]
  | b :: p => by
    rw [List.cons_append, cut, cut, cut_snoc c p]
    split
    · rfl
    · cases hq : cut c p with
      | nil => exact absurd hq (cut_ne c p)
      | cons q qs => rfl
theorem cut_snoc_ne {c b : UInt8} (hb : b ≠ c) : ∀ p : List UInt8, ∃ x y, cut c (p ++ [b]) = x ++ [y] ∧ y ≠ []
  | [] => ⟨[], [b], by simp [cut, hb], by simp⟩
  | d :: p => by
    obtain ⟨x, y, h1, h2⟩ := cut_snoc_ne hb p
    rw [List.cons_append, cut, h1]
    by_cases e : d = c
    · rw [if_pos e]
      exact ⟨[] :: x, y, rfl, h2⟩
    · rw [if_neg e]
      cases x with
      | nil => exact ⟨[], d :: y, rfl, by simp⟩
      | cons q qs => exact ⟨(d :: q) :: qs, y, rfl, h2⟩
theorem rd_last (xs : List ByteArray) (y : ByteArray) : rdOf ByteArray.empty (xs ++ [y]) ((xs.length : Nat) : Int) = y := by
  unfold rdOf
  simp
theorem count_len (L : List UInt8) : (cutB 10 (ba L)).length ≤ L.length + 1 := by
  unfold cutB
  rw [List.length_map, cut_len, list_ba]
  have : L.count 10 ≤ L.length := List.count_le_length
  omega
theorem both_l (xs : List ByteArray) (hx : xs.length ≤ 100000) (d : Nat) : ∀ (k i b g : Nat), i + d = xs.length → b + g = i → d < k →
    ∃ B G : Int, spec_CountOutputs.l0 k xs (b : Int) (i : Int) = some (B, G, true) ∧ impl_CountOutputs.l0 k (b : Int) (g : Int) xs (xs.length : Int) (i : Int) = some (B, G, true) := by
  induction d with
  | zero =>
    intro k i b g h1 h2 hk
    obtain ⟨k, rfl⟩ : ∃ m, k = m + 1 := ⟨k - 1, by omega⟩
    refine ⟨(b : Int), (g : Int), ?_, ?_⟩
    · rw [spec_CountOutputs.l0, if_neg (by omega), w64 (by omega) (by omega), show (xs.length : Int) - (b : Int) = (g : Int) by omega]
    · rw [impl_CountOutputs.l0, if_neg (by omega)]
  | succ d ih =>
    intro k i b g h1 h2 hk
    obtain ⟨k, rfl⟩ : ∃ m, k = m + 1 := ⟨k - 1, by omega⟩
    have e1 : wrap64 ((i : Int) + 1) = ((i + 1 : Nat) : Int) := by rw [w64 (by omega) (by omega)]; omega
    have e2 : wrap64 ((b : Int) + 1) = ((b + 1 : Nat) : Int) := by rw [w64 (by omega) (by omega)]; omega
    have e3 : wrap64 ((g : Int) + 1) = ((g + 1 : Nat) : Int) := by rw [w64 (by omega) (by omega)]; omega
    have f1 : (i : Int) < (xs.length : Int) := by omega
    have f2 : (0 : Int) ≤ (i : Int) := by omega
    have hb := ih k (i + 1) (b + 1) g (by omega) (by omega) (by omega)
    have hg := ih k (i + 1) b (g + 1) (by omega) (by omega) (by omega)
    rw [spec_CountOutputs.l0, if_pos f1, if_pos f2, impl_CountOutputs.l0, if_pos f1, if_pos f2, if_pos f1, e1, e2, e3]
    by_cases c1 : (rdOf ByteArray.empty xs (i : Int)).toList = ([110, 111] : List UInt8)
    · rw [if_pos c1, if_pos c1]; exact hb
    · rw [if_neg c1, if_neg c1]
      by_cases c2 : (rdOf ByteArray.empty xs (i : Int)).toList = ([119, 104, 97, 116] : List UInt8)
      · rw [if_pos c2, if_pos c2]; exact hb
      · rw [if_neg c2, if_neg c2]; exact hg
/-- both behind the lines -/
theorem both_lines (xs : List ByteArray) (hx : xs.length ≤ 100000) (k : Nat) (hk : 100000 < k) :
    ∃ B G : Int, spec_CountOutputs.l0 k xs 0 0 = some (B, G, true) ∧ impl_CountOutputs.l0 k 0 0 xs (xs.length : Int) 0 = some (B, G, true) :=
  both_l xs hx xs.length k 0 0 0 (by omega) rfl (by omega)
theorem spec_lines (s : ByteArray) (hs : s.size ≤ 16000) (k : Nat) (hk : s.size + 1 < k) (A : List ByteArray) (y : ByteArray) (h : cutB 10 s = A ++ [y]) : spec_l08Lines.f k s = some (A, y) := by
  have hl : (cutB 10 s).length ≤ s.size + 1 := count_len s.data.toList
  have hn : (A ++ [y]).length = A.length + 1 := by rw [List.length_append, List.length_singleton]
  rw [h, hn] at hl
  have e1 : wrap64 (((A.length + 1 : Nat) : Int) - 1) = ((A.length : Nat) : Int) := by rw [w64 (by omega) (by omega)]; omega
  have hc : spec_l01Cut.f k s 10 = some (cutB 10 s) := cut_spec s (by omega) 10 k hk
  unfold spec_l08Lines.f
  rw [hc, Option.bind_some, h, hn, e1, if_pos ⟨by omega, by omega⟩, rd_last, Int.toNat_natCast, List.take_left]
theorem impl_lines (s : ByteArray) (hs : s.size ≤ 16000) (k : Nat) (hk : s.size + 1 < k) (A : List ByteArray) (y : ByteArray) (h : cutB 10 s = A ++ [y]) :
    ((strings_Split.f k s (⟨#[10]⟩ : ByteArray)).bind fun t144 => (if 0 ≤ (wrap64 ((t144.length : Int) - 1)) then (if (wrap64 ((t144.length : Int) - 1)) ≤ (t144.length : Int) then (some ((t144.take ((wrap64 ((t144.length : Int) - 1)) : Int).toNat), true)) else (none)) else (none))) = some (A, true) := by
  have hl : (cutB 10 s).length ≤ s.size + 1 := count_len s.data.toList
  have hn : (A ++ [y]).length = A.length + 1 := by rw [List.length_append, List.length_singleton]
  rw [h, hn] at hl
  have e1 : wrap64 (((A.length + 1 : Nat) : Int) - 1) = ((A.length : Nat) : Int) := by rw [w64 (by omega) (by omega)]; omega
  have hc : strings_Split.f k s (⟨#[10]⟩ : ByteArray) = some (cutB 10 s) := split_some s (by omega) 10 k hk
  rw [hc, Option.bind_some, h, hn, e1, if_pos (by omega), if_pos (by omega), Int.toNat_natCast, List.take_left]
theorem suffix_of (s : ByteArray) (hs : s.size ≤ 16000) (p : List UInt8) (b : UInt8) (h : s.data.toList = p ++ [b]) : strings_HasSuffix.f s (⟨#[10]⟩ : ByteArray) = some (decide (b = 10)) := by
  have hz : s.size = p.length + 1 := by rw [← size_list, h, List.length_append, List.length_singleton]
  have e1 : wrap64 ((s.size : Int) - (((⟨#[10]⟩ : ByteArray).size : Nat) : Int)) = ((p.length : Nat) : Int) := by
    rw [show (((⟨#[10]⟩ : ByteArray).size : Nat) : Int) = 1 from rfl, w64 (by omega) (by omega)]; omega
  have hx : s.extract p.length s.size = ba [b] := end_ba h _ rfl
  unfold strings_HasSuffix.f stringslite_HasSuffix.f
  rw [if_pos (show (s.size : Int) ≥ (((⟨#[10]⟩ : ByteArray).size : Nat) : Int) by rw [show (((⟨#[10]⟩ : ByteArray).size : Nat) : Int) = 1 from rfl]; omega), e1, if_pos (by omega), if_pos (by omega), Int.toNat_natCast, hx, Option.bind_some]
  congr 1
  by_cases c : b = 10
  · rw [c, decide_eq_true rfl]
    exact beq_self_eq_true _
  · rw [decide_eq_false c]
    refine beq_eq_false_iff_ne.mpr (fun e => c ?_)
    have e2 := list_inj e
    have e3 : (ba [b]).data.toList = [10] := by rw [e2]
    rw [list_ba] at e3
    injection e3
theorem both (s : ByteArray) (k : Nat) (hk : 1048586 < k) (hs : s.size ≤ 1048576) : ∃ r, spec_CountOutputs.f k s = some r ∧ impl_CountOutputs.f k s = some r := by
  unfold spec_CountOutputs.f impl_CountOutputs.f impl_readLines.f
  by_cases c : (s.size : Int) > 16000
  · rw [if_pos c, if_pos c, Option.bind_some, if_neg (by simp)]
    exact ⟨_, rfl, rfl⟩
  rw [if_neg c, if_neg c]
  have hs : s.size ≤ 16000 := by omega
  clear c
  have hl : (cutB 10 s).length ≤ s.size + 1 := count_len s.data.toList
  rcases List.eq_nil_or_concat s.data.toList with h | ⟨p, b, h⟩
  · have hC : cutB 10 s = [] ++ [ba []] := by unfold cutB; rw [h]; rfl
    have hz : s.toList = [] := nil_iff.2 (by rw [← size_list, h]; rfl)
    rw [if_pos hz, spec_lines s hs k (by omega) _ _ hC, Option.bind_some, impl_lines s hs k (by omega) _ _ hC, Option.bind_some]
    rw [if_pos (show (ba []).toList = [] from nil_iff.2 rfl), if_pos rfl]
    obtain ⟨B, G, h1, h2⟩ := both_lines [] (by simp) k (by omega)
    exact ⟨_, h1, h2⟩
  · have h : s.data.toList = p ++ [b] := by rw [h, List.concat_eq_append]
    have hz : ¬ s.toList = [] := fun e => by
      have := nil_iff.1 e
      rw [← size_list, h, List.length_append, List.length_singleton] at this
      omega
    rw [if_neg hz, suffix_of s hs p b h, Option.bind_some]
    by_cases cb : b = 10
    · subst cb
      have hC : cutB 10 s = (cut 10 p).map ba ++ [ba []] := by unfold cutB; rw [h, cut_snoc, List.map_append]; rfl
      have hA : ((cut 10 p).map ba).length ≤ 100000 := by
        rw [hC, List.length_append] at hl; omega
      rw [decide_eq_true rfl, if_pos rfl, spec_lines s hs k (by omega) _ _ hC, Option.bind_some, impl_lines s hs k (by omega) _ _ hC, Option.bind_some]
      rw [if_pos (show (ba []).toList = [] from nil_iff.2 rfl), if_pos rfl]
      obtain ⟨B, G, h1, h2⟩ := both_lines _ hA k (by omega)
      exact ⟨_, h1, h2⟩
    · obtain ⟨x, y, h1, h2⟩ := cut_snoc_ne cb p
      have hC : cutB 10 s = x.map ba ++ [ba y] := by unfold cutB; rw [h, h1, List.map_append]; rfl
      rw [decide_eq_false cb, if_neg (by simp), Option.bind_some, if_neg (by simp), spec_lines s hs k (by omega) _ _ hC, Option.bind_some]
      rw [if_neg (show ¬ (ba y).toList = [] from fun e => h2 (List.length_eq_zero_iff.1 (by rw [← size_ba]; exact nil_iff.1 e)))]
      exact ⟨_, rfl, rfl⟩
theorem pure : laws_FnExactCountOutputs.Pure := by
  intro t _
  refine ⟨1048587, ?_⟩
  unfold laws_FnExactCountOutputs.f
  by_cases c : (t.size : Int) > 1048576
  · rw [if_pos c]
  obtain ⟨⟨r1, r2, r3⟩, h1, h2⟩ := both t 1048587 (by omega) (by omega)
  rw [if_neg c, h1, Option.bind_some, h2, Option.bind_some, if_pos rfl, if_pos rfl, if_neg (by simp)]
end Go.Proofs.YtbojmdjghfhmbaaDoor.CoPure
namespace Go.Proofs.YtbojmdjghfhmbaaDoor
open Go.RowKit Go.Proofs.YtbojmdjghfhmbaaDoorW.PrintWords
theorem countOutputs_w (a0 : ByteArray) (w : World) (w0 : a0.size ≤ 140737488351232) :
    Calls Tryd.prog 11 #[.string a0] w fun e w' => e = .returned (.bool true) ∧ Below w.heap.size w w' :=
  PFnExactCountOutputs.laws_FnExactCountOutputs.walk CoPure.pure a0 w w0
end Go.Proofs.YtbojmdjghfhmbaaDoor
