/- ReadRule: what is left of the law beside the walk: for every string of at most 1048576 bytes both read the same rule. -/
import Derived.Test.YtjkpbmdkkdofkaaDoorPFnExactReadRulex
import Derived.Test.YtjkpbmdkkdofkaaDoorLm
set_option linter.unusedVariables false
set_option linter.unusedSimpArgs false
namespace Go.Proofs.YtjkpbmdkkdofkaaDoor.RdPure
open Go.RowKit Go.Proofs.YtjkpbmdkkdofkaaDoorW.PrintWords Go.Proofs.YtjkpbmdkkdofkaaDoor.PFnExactReadRule Go.Proofs.YtjkpbmdkkdofkaaDoor.Lm
theorem cutl (s : ByteArray) (hs : s.size ≤ 4194304) (c : UInt8) : ∀ (d k : Nat) (out : List ByteArray) (a i : Nat), i + d = s.size → a ≤ i → c ∉ (s.data.toList.drop a).take (i - a) → out.length ≤ i → d + 1 < k →
    spec_l01Cut.l0 k s ((c.toNat : Nat) : Int) out (a : Int) (i : Int) = some (out ++ (cut c (s.data.toList.drop a)).map ba)
  | d, 0, out, a, i, h1, ha, hc, ho, hk => by omega
  | 0, k + 1, out, a, i, h1, ha, hc, ho, hk => by
    obtain ⟨k, rfl⟩ : ∃ m, k = m + 1 := ⟨k - 1, by omega⟩
    have hi : i = s.size := h1
    subst hi
    have hd : (s.data.toList.drop a).take (s.size - a) = s.data.toList.drop a := List.take_of_length_le (by rw [List.length_drop, size_list]; exact Nat.le_refl _)
    rw [hd] at hc
    rw [spec_l01Cut.l0, if_pos (Int.le_refl _), if_pos rfl, if_pos (by omega), if_pos (by omega), if_pos (by omega), Int.toNat_natCast, Int.toNat_natCast, w64 (by omega) (by omega), spec_l01Cut.l0, if_neg (by omega), cut_none hc, extract_ba, hd]
    rfl
  | d + 1, k + 1, out, a, i, h1, ha, hc, ho, hk => by
    have hi : i < s.size := by omega
    have e1 : wrap64 ((i : Int) + 1) = ((i + 1 : Nat) : Int) := by rw [w64 (by omega) (by omega)]; omega
    have hx : s.data.toList.drop a = (s.data.toList.drop a).take (i - a) ++ (s.data.toList[i]'hi) :: s.data.toList.drop (i + 1) := by
      have h2 : (s.data.toList.drop a).drop (i - a) = (s.data.toList[i]'hi) :: s.data.toList.drop (i + 1) := by
        rw [List.drop_drop, show a + (i - a) = i by omega]; exact List.drop_eq_getElem_cons hi
      rw [← h2, List.take_append_drop]
    have hb := bt_nat s i hi
    rw [spec_l01Cut.l0, if_pos (by omega), if_neg (by omega), if_pos (by omega), if_pos (by omega), hb]
    by_cases c1 : (((s.data.toList[i]'hi).toNat : Nat) : Int) = ((c.toNat : Nat) : Int)
    · have hc1 := u8_eq c1
      rw [if_pos c1, if_pos (by omega), if_pos (by omega), if_pos (by omega), e1, Int.toNat_natCast, Int.toNat_natCast]
      rw [cutl s hs c d k _ (i + 1) (i + 1) (by omega) (Nat.le_refl _) (by rw [Nat.sub_self, List.take_zero]; exact fun h => by cases h) (by rw [List.length_append, List.length_singleton]; omega) (by omega)]
      rw [hx, hc1, cut_hit _ hc, extract_ba, List.append_assoc]
      rfl
    · rw [if_neg c1, e1]
      refine cutl s hs c d k out a (i + 1) (by omega) (by omega) ?_ (by omega) (by omega)
      have h3 : (s.data.toList.drop a).take (i + 1 - a) = (s.data.toList.drop a).take (i - a) ++ [s.data.toList[i]'hi] := by
        rw [show i + 1 - a = (i - a) + 1 by omega, List.take_succ_eq_append_getElem (by rw [List.length_drop, size_list]; omega)]
        congr 2
        rw [List.getElem_drop]
        congr 1
        omega
      rw [h3]
      intro hm
      rcases List.mem_append.1 hm with e | e
      · exact hc e
      · rw [List.mem_singleton] at e
        exact c1 (by rw [e])
theorem cut_spec (s : ByteArray) (hs : s.size ≤ 4194304) (c : UInt8) (k : Nat) (hk : s.size + 1 < k) : spec_l01Cut.f k s ((c.toNat : Nat) : Int) = some (cutB c s) :=
  cutl s hs c s.size k [] 0 0 (by omega) (by omega) (by simp) (by simp) hk
theorem gs0 (c : UInt8) (k : Nat) (x : ByteArray) (l : List ByteArray) (n : Nat) (hc : x.data.toList.count c = 0) (hl : l.length = n + 1) (hn : n ≤ 4194304) : strings_genSplit.l0 (k + 1) x (ba [c]) 0 (n : Int) l (n : Int) = some (l.take n ++ cutB c x) := by
  have hn0 : c ∉ x.data.toList := fun h => by
    have := List.count_pos_iff.2 h
    omega
  have e1 : wrap64 ((n : Int) + 1) = ((n + 1 : Nat) : Int) := by rw [w64 (by omega) (by omega)]; omega
  have f1 : ¬ ((n : Int) < (n : Int)) := by omega
  have f2 : (0 : Int) ≤ (n : Int) := by omega
  have f3 : (n : Int) < (l.length : Int) := by omega
  have f4 : (0 : Int) ≤ ((n + 1 : Nat) : Int) := by omega
  have f5 : ((n + 1 : Nat) : Int) ≤ (l.length : Int) := by omega
  have f6 : n < l.length := by omega
  rw [strings_genSplit.l0, if_neg f1, if_pos f2, if_pos f3, e1, if_pos f4, if_pos f5, Int.toNat_natCast, Int.toNat_natCast]
  unfold cutB
  rw [cut_none hn0, take_set_snoc f6]
  rfl
theorem gs1 (c : UInt8) (k : Nat) (x : ByteArray) (l : List ByteArray) (i n : Nat) (p r : List UInt8) (hin : i < n) (hl : l.length = n + 1) (hn : n ≤ 4194304) (hx : x.size ≤ 4194304) (h2 : x.data.toList = p ++ c :: r) (h4 : Lib.indexByte x.data.toList c = (p.length : Int)) :
    strings_genSplit.l0 (k + 1) x (ba [c]) 0 (n : Int) l (i : Int) = strings_genSplit.l0 k (ba r) (ba [c]) 0 (n : Int) (l.set i (ba p)) ((i + 1 : Nat) : Int) := by
  obtain ⟨g1, g2, g3⟩ := take_hit h2
  have hI : strings_Index.f x (ba [c]) = some ((p.length : Nat) : Int) := by
    unfold strings_Index.f
    rw [if_pos (show (ba [c]).size = 1 from rfl), ← h4]; rfl
  clear h4 h2
  have f1 : (i : Int) < (n : Int) := by omega
  have f2 : ¬ (((p.length : Nat) : Int) < 0) := by omega
  have f3 : (0 : Int) ≤ ((p.length : Nat) : Int) := by omega
  have f4 : ((p.length : Nat) : Int) ≤ (x.size : Int) := by omega
  have f5 : (0 : Int) ≤ (i : Int) := by omega
  have f6 : (i : Int) < (l.length : Int) := by omega
  have f7 : (0 : Int) ≤ ((p.length + 1 : Nat) : Int) := by omega
  have f8 : ((p.length + 1 : Nat) : Int) ≤ (x.size : Int) := by omega
  have e1 : wrap64 ((i : Int) + 1) = ((i + 1 : Nat) : Int) := by rw [w64 (by omega) (by omega)]; omega
  have e2 : wrap64 (((p.length : Nat) : Int) + 0) = ((p.length : Nat) : Int) := by rw [w64 (by omega) (by omega)]; omega
  have e3 : wrap64 (((p.length : Nat) : Int) + (((ba [c]).size : Nat) : Int)) = ((p.length + 1 : Nat) : Int) := by
    rw [show (((ba [c]).size : Nat) : Int) = 1 from rfl, w64 (by omega) (by omega)]; omega
  rw [strings_genSplit.l0, if_pos f1, hI, Option.bind_some, if_neg f2, e2, if_pos f3, if_pos f4, if_pos f5, if_pos f6, e3, if_pos f7, if_pos f8, e1, Int.toNat_natCast, Int.toNat_natCast, Int.toNat_natCast, g1, g2]
theorem gsl (c : UInt8) (n : Nat) (hn : n ≤ 4194304) (d : Nat) : ∀ (k : Nat) (x : ByteArray) (l : List ByteArray) (i : Nat), i + d = n → x.data.toList.count c = d → l.length = n + 1 → x.size ≤ 4194304 → d < k →
    strings_genSplit.l0 k x (ba [c]) 0 (n : Int) l (i : Int) = some (l.take i ++ cutB c x) := by
  induction d with
  | zero =>
    intro k x l i h1 hc hl hx hk
    obtain ⟨k, rfl⟩ : ∃ m, k = m + 1 := ⟨k - 1, by omega⟩
    obtain rfl : i = n := by omega
    exact gs0 c k x l i hc hl hn
  | succ d ih =>
    intro k x l i h1 hc hl hx hk
    obtain ⟨k, rfl⟩ : ∃ m, k = m + 1 := ⟨k - 1, by omega⟩
    rcases index_spec c x.data.toList with ⟨_, h⟩ | ⟨p, r, h2, h3, h4⟩
    · rw [List.count_eq_zero_of_not_mem h] at hc
      omega
    · obtain ⟨g1, g2, g3⟩ := take_hit h2
      have hcr : (ba r).data.toList.count c = d := by
        rw [h2, count_hit h3] at hc
        rw [list_ba]; omega
      rw [gs1 c k x l i n p r (by omega) hl hn hx h2 h4, ih k (ba r) _ (i + 1) (by omega) hcr (by rw [List.length_set]; exact hl) (by rw [size_ba]; omega) (by omega), take_set_snoc (by omega)]
      unfold cutB
      rw [h2, cut_hit r h3, List.append_assoc]
      rfl
theorem split_some (s : ByteArray) (hs : s.size ≤ 4194303) (c : UInt8) (k : Nat) (hk : s.size + 1 < k) : strings_Split.f k s (ba [c]) = some (cutB c s) := by
  obtain ⟨k, rfl⟩ : ∃ m, k = m + 1 := ⟨k - 1, by omega⟩
  have hle : s.data.toList.count c ≤ s.size := List.count_le_length
  have hC : strings_Count.f s (ba [c]) = some ((s.data.toList.count c : Nat) : Int) := by
    unfold strings_Count.f
    rw [if_pos (show (ba [c]).size = 1 from rfl)]; rfl
  have e1 : wrap64 (((s.data.toList.count c : Nat) : Int) + 1) = ((s.data.toList.count c + 1 : Nat) : Int) := by rw [w64 (by omega) (by omega)]; omega
  have e2 : mn ((s.data.toList.count c + 1 : Nat) : Int) (wrap64 ((s.size : Int) + 1)) = ((s.data.toList.count c + 1 : Nat) : Int) := by
    rw [w64 (by omega) (by omega)]; unfold mn; split <;> omega
  have e3 : wrap64 (((s.data.toList.count c + 1 : Nat) : Int) - 1) = ((s.data.toList.count c : Nat) : Int) := by rw [w64 (by omega) (by omega)]; omega
  have hne : ¬ ((ba [c]).toList = ([] : List UInt8)) := by
    intro h
    have := nil_iff.1 h
    cases this
  unfold strings_Split.f strings_genSplit.f
  rw [if_neg (by decide), if_neg hne, if_pos (by decide), hC, Option.bind_some, e1, strings_genSplit.j0, e2, if_pos (by omega), if_pos (by omega), e3, Int.toNat_natCast]
  have hg := gsl c (s.data.toList.count c) (by omega) (s.data.toList.count c) k s (List.replicate (s.data.toList.count c + 1) (⟨#[]⟩ : ByteArray)) 0 (by omega) rfl (by rw [List.length_replicate]) (by omega) (by omega)
  rw [show (((0 : Nat) : Int)) = 0 from rfl] at hg
  rw [hg]
  rfl
/-- letters alone -/
def alph (s : ByteArray) : Bool := s.data.toList.all fun b => decide (97 ≤ b.toNat ∧ b.toNat ≤ 122)
theorem letter_b (b : UInt8) : spec_l07Letter.f (b.toNat : Int) = some (decide (97 ≤ b.toNat ∧ b.toNat ≤ 122)) := by
  unfold spec_l07Letter.f
  by_cases h : (b.toNat : Int) ≥ 97
  · rw [if_pos h]
    congr 1
    rw [decide_eq_decide]; omega
  · rw [if_neg h]
    congr 1
    exact (decide_eq_false (by omega)).symm
theorem lettersl (s : ByteArray) (hs : s.size ≤ 4194304) (a b : Int) : ∀ (d k i : Nat), i + d = s.size → d < k →
    spec_l07Letters.l0 k s a b (i : Int) = some ((s.data.toList.drop i).all (fun b => decide (97 ≤ b.toNat ∧ b.toNat ≤ 122)) && decide (a ≤ (s.size : Int) ∧ (s.size : Int) ≤ b))
  | d, 0, i, h1, hk => by omega
  | 0, k + 1, i, h1, hk => by
    rw [spec_l07Letters.l0, if_neg (by omega), List.drop_of_length_le (by rw [size_list]; omega)]
    by_cases h : (s.size : Int) ≥ a
    · rw [if_pos h]
      simp only [List.all_nil, Bool.true_and]
      congr 1
      rw [decide_eq_decide]; omega
    · rw [if_neg h]
      simp only [List.all_nil, Bool.true_and]
      congr 1
      exact (decide_eq_false (by omega)).symm
  | d + 1, k + 1, i, h1, hk => by
    have hi : i < s.size := by omega
    have e1 : wrap64 ((i : Int) + 1) = ((i + 1 : Nat) : Int) := by rw [w64 (by omega) (by omega)]; omega
    have hd : s.data.toList.drop i = (s.data.toList[i]'hi) :: s.data.toList.drop (i + 1) := List.drop_eq_getElem_cons hi
    rw [spec_l07Letters.l0, if_pos (by omega), if_pos (by omega), bt_nat s i hi, letter_b, Option.bind_some, hd, List.all_cons]
    by_cases h : decide (97 ≤ (s.data.toList[i]'hi).toNat ∧ (s.data.toList[i]'hi).toNat ≤ 122) = true
    · rw [if_pos h, e1, lettersl s hs a b d k (i + 1) (by omega) (by omega), h, Bool.true_and]
    · rw [if_neg h]
      rw [Bool.not_eq_true] at h
      rw [h, Bool.false_and, Bool.false_and]
theorem letters_f (s : ByteArray) (hs : s.size ≤ 4194304) (a b : Int) (k : Nat) (hk : s.size < k) : spec_l07Letters.f k s a b = some (alph s && decide (a ≤ (s.size : Int) ∧ (s.size : Int) ≤ b)) :=
  lettersl s hs a b s.size k 0 (by omega) hk
theorem isNamel (s : ByteArray) (hs : s.size ≤ 4194304) : ∀ (d k i : Nat), i + d = s.size → d < k →
    impl_IsName.l0 k s (i : Int) = some ((s.data.toList.drop i).all (fun b => decide (97 ≤ b.toNat ∧ b.toNat ≤ 122)) && decide (1 ≤ s.size ∧ s.size ≤ 8))
  | d, 0, i, h1, hk => by omega
  | 0, k + 1, i, h1, hk => by
    rw [impl_IsName.l0, if_neg (by omega), List.drop_of_length_le (by rw [size_list]; omega)]
    unfold impl_within.f
    by_cases h : (s.size : Int) ≥ 1
    · rw [if_pos h]
      simp only [List.all_nil, Bool.true_and, Option.bind_some]
      congr 1
      rw [decide_eq_decide]; omega
    · rw [if_neg h]
      simp only [List.all_nil, Bool.true_and, Option.bind_some]
      congr 1
      exact (decide_eq_false (by omega)).symm
  | d + 1, k + 1, i, h1, hk => by
    have hi : i < s.size := by omega
    have e1 : wrap64 ((i : Int) + 1) = ((i + 1 : Nat) : Int) := by rw [w64 (by omega) (by omega)]; omega
    have hd : s.data.toList.drop i = (s.data.toList[i]'hi) :: s.data.toList.drop (i + 1) := List.drop_eq_getElem_cons hi
    rw [impl_IsName.l0, if_pos (by omega), if_pos (by omega), bt_nat s i hi, hd, List.all_cons]
    by_cases h : ((s.data.toList[i]'hi).toNat : Int) < 97
    · rw [if_pos h, decide_eq_false (by omega), Bool.false_and, Bool.false_and]
    · rw [if_neg h]
      by_cases h2 : ((s.data.toList[i]'hi).toNat : Int) > 122
      · rw [if_pos h2, decide_eq_false (by omega), Bool.false_and, Bool.false_and]
      · rw [if_neg h2, e1, isNamel s hs d k (i + 1) (by omega) (by omega), decide_eq_true (p := 97 ≤ (s.data.toList[i]'hi).toNat ∧ (s.data.toList[i]'hi).toNat ≤ 122) ⟨by omega, by omega⟩, Bool.true_and]
theorem isName_f (s : ByteArray) (hs : s.size ≤ 4194304) (k : Nat) (hk : s.size < k) : impl_IsName.f k s = some (alph s && decide (1 ≤ s.size ∧ s.size ≤ 8)) :=
  isNamel s hs s.size k 0 (by omega) hk
/-- a name of a sound -/
def nameB (s : ByteArray) : Bool := alph s && decide (1 ≤ s.size ∧ s.size ≤ 4)
theorem letters14 (s : ByteArray) (hs : s.size ≤ 4194304) (k : Nat) (hk : s.size < k) : spec_l07Letters.f k s 1 4 = some (nameB s) := by
  rw [letters_f s hs 1 4 k hk]
  unfold nameB
  congr 2
  rw [decide_eq_decide]; omega
theorem soundName_f (s : ByteArray) (hs : s.size ≤ 4194304) (k : Nat) (hk : s.size < k) : impl_isSoundName.f k s = some (nameB s) := by
  unfold impl_isSoundName.f nameB
  by_cases h : (s.size : Int) ≤ 4
  · rw [if_pos h, isName_f s hs k hk, Option.bind_some]
    congr 2
    rw [decide_eq_decide]; omega
  · rw [if_neg h, decide_eq_false (by omega), Bool.and_false]
/-- signs -/
def signB (b : UInt8) : Bool := decide (97 ≤ b.toNat ∧ b.toNat ≤ 122) || (b == 86 || b == 67 || b == 45)
def signsB (s : ByteArray) : Bool := s.data.toList.all signB && decide (s.size ≤ 3)
theorem eqb (b : UInt8) (n : Nat) (hn : n < 256) : ((b.toNat : Int) = (n : Int)) ↔ b = UInt8.ofNat n := by
  constructor
  · intro h
    apply UInt8.toNat_inj.1
    rw [UInt8.toNat_ofNat_of_lt' hn]; omega
  · rintro rfl
    rw [UInt8.toNat_ofNat_of_lt' hn]
theorem signsl (s : ByteArray) (hs : s.size ≤ 4194304) : ∀ (d k i : Nat), i + d = s.size → d < k →
    spec_l07Signs.l0 k s (i : Int) = some ((s.data.toList.drop i).all signB && decide (s.size ≤ 3))
  | d, 0, i, h1, hk => by omega
  | 0, k + 1, i, h1, hk => by
    rw [spec_l07Signs.l0, if_neg (by omega), List.drop_of_length_le (by rw [size_list]; omega)]
    simp only [List.all_nil, Bool.true_and]
    congr 1
    rw [decide_eq_decide]; omega
  | d + 1, k + 1, i, h1, hk => by
    have hi : i < s.size := by omega
    have e1 : wrap64 ((i : Int) + 1) = ((i + 1 : Nat) : Int) := by rw [w64 (by omega) (by omega)]; omega
    have hd : s.data.toList.drop i = (s.data.toList[i]'hi) :: s.data.toList.drop (i + 1) := List.drop_eq_getElem_cons hi
    rw [spec_l07Signs.l0, if_pos (by omega), if_pos (by omega), bt_nat s i hi, letter_b, Option.bind_some, hd, List.all_cons, e1, signsl s hs d k (i + 1) (by omega) (by omega)]
    generalize (s.data.toList[i]'hi) = b
    have q1 := eqb b 86 (by decide)
    have q2 := eqb b 67 (by decide)
    have q3 := eqb b 45 (by decide)
    have hu : signB b = (decide (97 ≤ b.toNat ∧ b.toNat ≤ 122) || (b == 86 || b == 67 || b == 45)) := rfl
    by_cases h : decide (97 ≤ b.toNat ∧ b.toNat ≤ 122) = true
    · rw [if_pos h, hu, h, Bool.true_or, Bool.true_and]
    · rw [if_neg h]
      rw [Bool.not_eq_true] at h
      rw [hu, h, Bool.false_or]
      by_cases c1 : (b.toNat : Int) = 86
      · have := q1.1 c1
        subst this
        rw [if_pos c1]; rfl
      · rw [if_neg c1]
        by_cases c2 : (b.toNat : Int) = 67
        · have := q2.1 c2
          subst this
          rw [if_pos c2]; rfl
        · rw [if_neg c2]
          by_cases c3 : (b.toNat : Int) = 45
          · have := q3.1 c3
            subst this
            rw [if_pos c3]; rfl
          · rw [if_neg c3]
            have f1 : (b == 86) = false := by rw [beq_eq_false_iff_ne]; exact fun e => c1 (q1.2 e)
            have f2 : (b == 67) = false := by rw [beq_eq_false_iff_ne]; exact fun e => c2 (q2.2 e)
            have f3 : (b == 45) = false := by rw [beq_eq_false_iff_ne]; exact fun e => c3 (q3.2 e)
            rw [f1, f2, f3]; rfl
theorem signs_f (s : ByteArray) (hs : s.size ≤ 4194304) (k : Nat) (hk : s.size < k) : spec_l07Signs.f k s = some (signsB s) := signsl s hs s.size k 0 (by omega) hk
theorem signIx : ∀ n : Fin 256, (Lib.indexByte [86, 67, 45] (UInt8.ofNat n.1) < 0) ↔ ¬ ((UInt8.ofNat n.1 == 86 || UInt8.ofNat n.1 == 67 || UInt8.ofNat n.1 == 45) = true) := by decide +kernel
theorem areSignsl (s : ByteArray) (hs : s.size ≤ 4194304) : ∀ (d k i : Nat), i + d = s.size → d < k →
    impl_areSigns.l0 k s (s.size : Int) (i : Int) = some ((s.data.toList.drop i).all signB && decide (s.size ≤ 3))
  | d, 0, i, h1, hk => by omega
  | 0, k + 1, i, h1, hk => by
    rw [impl_areSigns.l0, if_neg (by omega), List.drop_of_length_le (by rw [size_list]; omega)]
    simp only [List.all_nil, Bool.true_and]
    congr 1
    rw [decide_eq_decide]; omega
  | d + 1, k + 1, i, h1, hk => by
    have hi : i < s.size := by omega
    have e1 : wrap64 ((i : Int) + 1) = ((i + 1 : Nat) : Int) := by rw [w64 (by omega) (by omega)]; omega
    have hd : s.data.toList.drop i = (s.data.toList[i]'hi) :: s.data.toList.drop (i + 1) := List.drop_eq_getElem_cons hi
    have hL : ∀ c, impl_isLetter.f c = spec_l07Letter.f c := fun _ => rfl
    rw [impl_areSigns.l0, if_pos (by omega), if_pos (by omega), if_pos (by omega), bt_nat s i hi, hL, letter_b, Option.bind_some, hd, List.all_cons, e1, areSignsl s hs d k (i + 1) (by omega) (by omega)]
    generalize (s.data.toList[i]'hi) = b
    have hx := signIx ⟨b.toNat, UInt8.toNat_lt b⟩
    have hu : signB b = (decide (97 ≤ b.toNat ∧ b.toNat ≤ 122) || (b == 86 || b == 67 || b == 45)) := rfl
    have hb : UInt8.ofNat b.toNat = b := UInt8.ofNat_toNat
    dsimp only at hx
    rw [hb] at hx
    have hI : strings_IndexByte.f (⟨#[86, 67, 45]⟩ : ByteArray) (b.toNat : Int) = some (Lib.indexByte [86, 67, 45] b) := by
      unfold strings_IndexByte.f
      rw [Int.toNat_natCast]
      show some (Lib.indexByte [86, 67, 45] (UInt8.ofNat b.toNat)) = _
      rw [hb]
    by_cases h : decide (97 ≤ b.toNat ∧ b.toNat ≤ 122) = true
    · rw [if_pos h, hu, h, Bool.true_or, Bool.true_and]
    · rw [if_neg h, hI, Option.bind_some]
      rw [Bool.not_eq_true] at h
      rw [hu, h, Bool.false_or]
      by_cases c : (b == 86 || b == 67 || b == 45) = true
      · rw [if_neg (fun e => hx.1 e c), c, Bool.true_and]
      · rw [if_pos (hx.2 c)]
        rw [Bool.not_eq_true] at c
        rw [c]; rfl
theorem areSigns_f (s : ByteArray) (hs : s.size ≤ 4194304) (k : Nat) (hk : s.size < k) : impl_areSigns.f k s = some (signsB s) := areSignsl s hs s.size k 0 (by omega) hk
theorem rdS_at {l : List ByteArray} {i : Nat} (h : i < l.length) : rdOf ByteArray.empty l (i : Int) = l[i]'h := by
  unfold rdOf
  rw [Int.toNat_natCast, List.getD_eq_getElem?_getD, List.getElem?_eq_getElem h]; rfl
theorem namesl (s : ByteArray) (l : List ByteArray) (hl : l.length ≤ 4194304) (hp : ∀ p ∈ l, p.size ≤ 4194304) : ∀ (d k i : Nat), i + d = l.length → d + 4194305 < k →
    spec_l07Names.l0 k s l (l.length : Int) (i : Int) = some (if (l.drop i).all nameB = true then (l, decide (s.size ≤ 24)) else ([], false))
  | d, 0, i, h1, hk => by omega
  | 0, k + 1, i, h1, hk => by
    rw [spec_l07Names.l0, if_neg (by omega), List.drop_of_length_le (by omega), List.all_nil, if_pos rfl]
    congr 2
    rw [decide_eq_decide]; omega
  | d + 1, k + 1, i, h1, hk => by
    have hi : i < l.length := by omega
    have e1 : wrap64 ((i : Int) + 1) = ((i + 1 : Nat) : Int) := by rw [w64 (by omega) (by omega)]; omega
    have hz := hp _ (List.getElem_mem hi)
    rw [spec_l07Names.l0, if_pos (by omega), if_pos (by omega), if_pos (by omega), rdS_at hi, letters14 _ hz k (by omega), Option.bind_some, List.drop_eq_getElem_cons hi, List.all_cons]
    by_cases h : nameB (l[i]'hi) = true
    · rw [if_pos h, e1, namesl s l hl hp d k (i + 1) (by omega) (by omega), h, Bool.true_and]
    · rw [if_neg h]
      rw [Bool.not_eq_true] at h
      rw [h, Bool.false_and, if_neg (by simp)]
theorem cutB_ok (c : UInt8) (s : ByteArray) (hs : s.size ≤ 4194303) : (cutB c s).length ≤ 4194304 ∧ ∀ p ∈ cutB c s, p.size ≤ 4194304 := by
  constructor
  · unfold cutB
    rw [List.length_map, cut_len]
    have : s.data.toList.count c ≤ s.data.toList.length := List.count_le_length
    rw [size_list] at this
    omega
  · intro p hp
    obtain ⟨q, hq, rfl⟩ := List.mem_map.1 hp
    have := cut_piece hq
    rw [size_list] at this
    rw [size_ba]; omega
/-- the names of sounds; false if there are none of this form -/
def namesOf (s : ByteArray) : List ByteArray × Bool := if s.size = 0 then ([], true) else if (cutB 46 s).all nameB = true then (cutB 46 s, decide (s.size ≤ 24)) else ([], false)
theorem names_f (s : ByteArray) (hs : s.size ≤ 4194303) (k : Nat) (hk : 8388620 < k) : spec_l07Names.f k s = some (namesOf s) := by
  unfold spec_l07Names.f namesOf
  by_cases h : s.toList = ([] : List UInt8)
  · rw [if_pos h, if_pos (nil_iff.1 h)]
  · rw [if_neg h, if_neg (fun e => h (nil_iff.2 e))]
    have h46 := cut_spec s (by omega) 46 k (by omega)
    obtain ⟨g1, g2⟩ := cutB_ok 46 s hs
    have e : (((46 : UInt8).toNat : Nat) : Int) = 46 := rfl
    rw [e] at h46
    rw [h46, Option.bind_some]
    exact namesl s _ g1 g2 (cutB 46 s).length k 0 (by omega) (by omega)
/-- a valid rule -/
def ruleB (b l a s : ByteArray) : Bool := (namesOf s).2 && nameB l && signsB b && signsB a
theorem rule_s (b l a s : ByteArray) (hb : b.size ≤ 4194303) (hl : l.size ≤ 4194303) (ha : a.size ≤ 4194303) (hs : s.size ≤ 4194303) (k : Nat) (hk : 8388620 < k) : spec_l07Rule.f k [(⟨b, l, a, s⟩ : S26)] = some (ruleB b l a s) := by
  unfold spec_l07Rule.f ruleB
  have hr : rd_T26 [(⟨b, l, a, s⟩ : S26)] 0 = ⟨b, l, a, s⟩ := rfl
  rw [if_pos (show (0 : Int) < (([(⟨b, l, a, s⟩ : S26)] : List S26).length : Int) by show (0 : Int) < 1; decide), hr]
  dsimp only
  rw [names_f s hs k hk, Option.bind_some, letters14 l (by omega) k (by omega), signs_f b (by omega) k (by omega), signs_f a (by omega) k (by omega)]
  simp only [Option.bind_some]
  cases (namesOf s).2 <;> cases nameB l <;> cases signsB b <;> cases signsB a <;> rfl
theorem ixl (l : List ByteArray) (hl : l.length ≤ 4194304) (hp : ∀ p ∈ l, p.size ≤ 4194304) : ∀ (d k i : Nat), i + d = l.length → d + 4194305 < k →
    ∃ r : Int, slices_IndexFunc_v_impl_ValidRule_1.l0 k l (l.length : Int) (i : Int) = some r ∧ (0 ≤ r ↔ (l.drop i).all nameB = false)
  | d, 0, i, h1, hk => by omega
  | 0, k + 1, i, h1, hk => by
    rw [slices_IndexFunc_v_impl_ValidRule_1.l0, if_neg (by omega), List.drop_of_length_le (by omega), List.all_nil]
    exact ⟨-1, rfl, by simp⟩
  | d + 1, k + 1, i, h1, hk => by
    have hi : i < l.length := by omega
    have e1 : wrap64 ((i : Int) + 1) = ((i + 1 : Nat) : Int) := by rw [w64 (by omega) (by omega)]; omega
    have hz := hp _ (List.getElem_mem hi)
    rw [slices_IndexFunc_v_impl_ValidRule_1.l0, if_pos (by omega), if_pos (by omega), if_pos (by omega), rdS_at hi, List.drop_eq_getElem_cons hi, List.all_cons]
    unfold impl_ValidRule_1.f
    rw [soundName_f _ hz k (by omega), Option.bind_some, Option.bind_some]
    by_cases h : nameB (l[i]'hi) = true
    · obtain ⟨r, h3, h4⟩ := ixl l hl hp d k (i + 1) (by omega) (by omega)
      rw [h, if_neg (by simp), e1, Bool.true_and]
      exact ⟨r, h3, h4⟩
    · rw [Bool.not_eq_true] at h
      rw [h, if_pos (show (!false) = true from rfl), Bool.false_and]
      exact ⟨(i : Int), rfl, by simp⟩
theorem rule_i (b l a s : ByteArray) (hb : b.size ≤ 4194303) (hl : l.size ≤ 4194303) (ha : a.size ≤ 4194303) (hs : s.size ≤ 4194303) (k : Nat) (hk : 8388620 < k) : impl_ValidRule.f k b l a s = some (ruleB b l a s) := by
  have hS := split_some s (by omega) 46 k (by omega)
  obtain ⟨g1, g2⟩ := cutB_ok 46 s hs
  obtain ⟨r, hr, hr2⟩ := ixl (cutB 46 s) g1 g2 (cutB 46 s).length k 0 (by omega) (by omega)
  have hC : slices_ContainsFunc_v_impl_ValidRule_1.f k (cutB 46 s) = some (!((cutB 46 s).all nameB)) := by
    unfold slices_ContainsFunc_v_impl_ValidRule_1.f slices_IndexFunc_v_impl_ValidRule_1.f
    have hr' : slices_IndexFunc_v_impl_ValidRule_1.l0 k (cutB 46 s) ((cutB 46 s).length : Int) 0 = some r := hr
    rw [hr', Option.bind_some]
    rw [List.drop_zero] at hr2
    cases hx : (cutB 46 s).all nameB with
    | true =>
      rw [hx] at hr2
      rw [decide_eq_false (fun e => by cases hr2.1 e)]; rfl
    | false =>
      rw [hx] at hr2
      rw [decide_eq_true (hr2.2 rfl)]; rfl
  have hT : (if (s.size : Int) ≤ 24 then (if s.toList = ([] : List UInt8) then (some true) else ((strings_Split.f k s (⟨#[46]⟩ : ByteArray)).bind fun t173 => ((slices_ContainsFunc_v_impl_ValidRule_1.f k t173).bind fun t176 => (some (!t176))))) else (some false)) = some (namesOf s).2 := by
    unfold namesOf
    by_cases c : (s.size : Int) ≤ 24
    · rw [if_pos c]
      by_cases e : s.toList = ([] : List UInt8)
      · rw [if_pos e, if_pos (nil_iff.1 e)]
      · rw [if_neg e, if_neg (fun h => e (nil_iff.2 h))]
        have hS' : strings_Split.f k s (⟨#[46]⟩ : ByteArray) = some (cutB 46 s) := hS
        rw [hS', Option.bind_some, hC, Option.bind_some, Bool.not_not]
        cases hx : (cutB 46 s).all nameB with
        | true => rw [if_pos rfl]; congr 1; exact (decide_eq_true (by omega)).symm
        | false => rw [if_neg (by simp)]
    · rw [if_neg c, if_neg (by omega)]
      cases hx : (cutB 46 s).all nameB with
      | true => rw [if_pos rfl]; congr 1; exact (decide_eq_false (by omega)).symm
      | false => rw [if_neg (by simp)]
  unfold impl_ValidRule.f
  rw [hT, isName_f l (by omega) k (by omega), areSigns_f b (by omega) k (by omega), areSigns_f a (by omega) k (by omega)]
  simp only [Option.bind_some]
  unfold ruleB nameB
  by_cases c : (l.size : Int) ≤ 4
  · rw [if_pos c]
    have e : decide (1 ≤ l.size ∧ l.size ≤ 8) = decide (1 ≤ l.size ∧ l.size ≤ 4) := by rw [decide_eq_decide]; omega
    rw [e]
    cases (namesOf s).2 <;> cases (alph l && decide (1 ≤ l.size ∧ l.size ≤ 4)) <;> cases signsB b <;> cases signsB a <;> rfl
  · rw [if_neg c, decide_eq_false (by omega), Bool.and_false]
    cases (namesOf s).2 <;> rfl
def rtext (b l a s : ByteArray) : ByteArray := ((((((b ++ (⟨#[91]⟩ : ByteArray)) ++ l) ++ (⟨#[93]⟩ : ByteArray)) ++ a) ++ (⟨#[61]⟩ : ByteArray)) ++ s)
theorem text_i (b l a s : ByteArray) (hb : b.size ≤ 4194303) (hl : l.size ≤ 4194303) (ha : a.size ≤ 4194303) (hs : s.size ≤ 4194303) : impl_ruleText.f b l a s = some (rtext b l a s) := by
  have z1 : (⟨#[91]⟩ : ByteArray).size = 1 := rfl
  have z2 : (⟨#[93]⟩ : ByteArray).size = 1 := rfl
  have z3 : (⟨#[61]⟩ : ByteArray).size = 1 := rfl
  unfold impl_ruleText.f
  rw [if_pos (by omega), if_pos (by simp only [ByteArray.size_append]; omega), if_pos (by simp only [ByteArray.size_append]; omega), if_pos (by simp only [ByteArray.size_append]; omega), if_pos (by simp only [ByteArray.size_append]; omega), if_pos (by simp only [ByteArray.size_append]; omega)]
  rfl
theorem findl (s : ByteArray) (hs : s.size ≤ 4194303) (c : UInt8) (d : Nat) : ∀ (k i : Nat), i + d = s.size → d < k →
    spec_l07Find.l0 k s ((c.toNat : Nat) : Int) (i : Int) = some (if Lib.indexByte (s.data.toList.drop i) c = -1 then -1 else (i : Int) + Lib.indexByte (s.data.toList.drop i) c) := by
  induction d with
  | zero =>
    intro k i h1 hk
    obtain ⟨k, rfl⟩ : ∃ m, k = m + 1 := ⟨k - 1, by omega⟩
    rw [spec_l07Find.l0, if_neg (by omega), List.drop_of_length_le (by rw [size_list]; omega), if_pos (show Lib.indexByte [] c = -1 from rfl)]
  | succ d ih =>
    intro k i h1 hk
    obtain ⟨k, rfl⟩ : ∃ m, k = m + 1 := ⟨k - 1, by omega⟩
    have hi : i < s.size := by omega
    have b1 : (i : Int) < (s.size : Int) := by omega
    have b2 : (0 : Int) ≤ (i : Int) := by omega
    have ih1 := ih k (i + 1) (by omega) (by omega)
    have hd : s.data.toList.drop i = (s.data.toList[i]'hi) :: s.data.toList.drop (i + 1) := List.drop_eq_getElem_cons hi
    have hb := bt_nat s i hi
    have hge := drop_idx c (s.data.toList.drop (i + 1))
    have e1 : wrap64 ((i : Int) + 1) = ((i + 1 : Nat) : Int) := by rw [w64 (by omega) (by omega)]; omega
    rw [spec_l07Find.l0, if_pos b1, if_pos b2, hb, hd, Lib.indexByte]
    generalize (s.data.toList[i]'hi) = x
    generalize Lib.indexByte (s.data.toList.drop (i + 1)) c = m at *
    clear hb hd
    by_cases e : x = c
    · subst e
      rw [if_pos rfl, if_pos (show (x == x) = true by simp), if_neg (by decide), Int.add_zero]
    · have hx : (x == c) = false := by simpa using e
      rw [if_neg (fun h => e (u8_eq h)), e1, ih1, if_neg (show ¬ ((x == c) = true) by rw [hx]; simp)]
      by_cases hm : m = -1
      · rw [if_pos hm, if_pos (show (m == -1) = true by rw [hm]; rfl), if_pos rfl]
      · rw [if_neg hm, if_neg (show ¬ ((m == -1) = true) by simpa using hm), if_neg (by omega)]
        congr 1
        omega
theorem find_f (s : ByteArray) (hs : s.size ≤ 4194303) (c : UInt8) (k : Nat) (hk : s.size < k) : spec_l07Find.f k s ((c.toNat : Nat) : Int) = some (Lib.indexByte s.data.toList c) := by
  have h := findl s hs c s.size k 0 (by omega) hk
  have hge := drop_idx c s.data.toList
  rw [List.drop_zero] at h
  unfold spec_l07Find.f
  rw [show (((0 : Nat) : Int)) = 0 from rfl] at h
  rw [h]
  split
  · rename_i e; rw [e]
  · rw [Int.zero_add]
theorem cutF_none (s : ByteArray) (c : UInt8) (h : c ∉ s.data.toList) : strings_Cut.f s (ba [c]) = some (s, ⟨#[]⟩, false) := by
  have hI : stringslite_Index.f s (ba [c]) = some (-1) := by
    unfold stringslite_Index.f
    rw [if_pos (show (ba [c]).size = 1 from rfl), ← idx_none h]; rfl
  unfold strings_Cut.f stringslite_Cut.f
  rw [hI, Option.bind_some, if_neg (by decide), Option.bind_some]
theorem cutF_hit (s : ByteArray) (hs : s.size ≤ 4194303) (c : UInt8) (p r : List UInt8) (h : s.data.toList = p ++ c :: r) (hp : c ∉ p) : strings_Cut.f s (ba [c]) = some (ba p, ba r, true) := by
  obtain ⟨g1, g2, g3⟩ := take_hit h
  have hI : stringslite_Index.f s (ba [c]) = some ((p.length : Nat) : Int) := by
    unfold stringslite_Index.f
    rw [if_pos (show (ba [c]).size = 1 from rfl), ← idx_hit (r := r) hp, ← h]; rfl
  clear h
  have f1 : ((p.length : Nat) : Int) ≥ 0 := by omega
  have f2 : (0 : Int) ≤ ((p.length : Nat) : Int) := by omega
  have f3 : ((p.length : Nat) : Int) ≤ (s.size : Int) := by omega
  have f4 : (0 : Int) ≤ ((p.length + 1 : Nat) : Int) := by omega
  have f5 : ((p.length + 1 : Nat) : Int) ≤ (s.size : Int) := by omega
  have e3 : wrap64 (((p.length : Nat) : Int) + (((ba [c]).size : Nat) : Int)) = ((p.length + 1 : Nat) : Int) := by
    rw [show (((ba [c]).size : Nat) : Int) = 1 from rfl, w64 (by omega) (by omega)]; omega
  unfold strings_Cut.f stringslite_Cut.f
  rw [hI, Option.bind_some, if_pos f1, if_pos f2, if_pos f3, e3, if_pos f4, if_pos f5, Int.toNat_natCast, Int.toNat_natCast, g1, g2, Option.bind_some]
abbrev Res := ByteArray × ByteArray × ByteArray × ByteArray × Bool
def bad : Res := (⟨#[]⟩, ⟨#[]⟩, ⟨#[]⟩, ⟨#[]⟩, false)
def good (b l a s : ByteArray) : Res := if ruleB b l a s = true then (b, l, a, s, true) else bad
theorem rtext_size (b l a s : ByteArray) : (rtext b l a s).size = b.size + l.size + a.size + s.size + 3 := by
  have z1 : (⟨#[91]⟩ : ByteArray).size = 1 := rfl
  have z2 : (⟨#[93]⟩ : ByteArray).size = 1 := rfl
  have z3 : (⟨#[61]⟩ : ByteArray).size = 1 := rfl
  unfold rtext
  simp only [ByteArray.size_append]
  omega
theorem signs_no {s : ByteArray} (h : signsB s = true) (c : UInt8) (hc : signB c = false) : c ∉ s.data.toList := by
  intro hm
  unfold signsB at h
  rw [Bool.and_eq_true] at h
  have := List.all_eq_true.1 h.1 c hm
  rw [hc] at this
  cases this
theorem name_no {s : ByteArray} (h : nameB s = true) (c : UInt8) (hc : decide (97 ≤ c.toNat ∧ c.toNat ≤ 122) = false) : c ∉ s.data.toList := by
  intro hm
  unfold nameB alph at h
  rw [Bool.and_eq_true] at h
  have := List.all_eq_true.1 h.1 c hm
  rw [hc] at this
  cases this
theorem rule_parts {b l a s : ByteArray} (h : ruleB b l a s = true) : nameB l = true ∧ signsB b = true ∧ signsB a = true := by
  unfold ruleB at h
  simp only [Bool.and_eq_true] at h
  exact ⟨h.1.1.2, h.1.2, h.2⟩
/-- impl's reading behind its cuts -/
theorem impl_end (t b l a s : ByteArray) (k : Nat) (hk : 8388620 < k) (hb : b.size ≤ 1048576) (hl : l.size ≤ 1048576) (ha : a.size ≤ 1048576) (hs : s.size ≤ 1048576) :
    ((impl_ValidRule.f k b l a s).bind fun t193 => (if t193 = true then ((impl_ruleText.f b l a s).bind fun t194 => (if t194.toList = t.toList then (some (b, l, a, s, true)) else (some ((⟨#[]⟩ : ByteArray), (⟨#[]⟩ : ByteArray), (⟨#[]⟩ : ByteArray), (⟨#[]⟩ : ByteArray), false)))) else (some ((⟨#[]⟩ : ByteArray), (⟨#[]⟩ : ByteArray), (⟨#[]⟩ : ByteArray), (⟨#[]⟩ : ByteArray), false)))) = some (if rtext b l a s = t then good b l a s else bad) := by
  rw [rule_i b l a s (by omega) (by omega) (by omega) (by omega) k hk, Option.bind_some, text_i b l a s (by omega) (by omega) (by omega) (by omega), Option.bind_some]
  unfold good
  by_cases c : ruleB b l a s = true
  · rw [if_pos c]
    by_cases e : rtext b l a s = t
    · rw [if_pos e, if_pos c, if_pos (by rw [e])]
    · rw [if_neg e, if_neg (fun h => e (list_inj h))]; rfl
  · rw [if_neg c]
    split <;> rfl
theorem spec_true (k : Nat) (t : ByteArray) (x y z : Int) : spec_ReadRule.j0 (k + 1) t x y z true = some bad := by
  rw [spec_ReadRule.j0, if_pos rfl]; rfl
theorem empty_cut (c : UInt8) : strings_Cut.f (⟨#[]⟩ : ByteArray) (ba [c]) = some (⟨#[]⟩, ⟨#[]⟩, false) := cutF_none _ c (fun h => by cases h)
theorem rtext_list (b l a s : ByteArray) : (rtext b l a s).data.toList = b.data.toList ++ 91 :: (l.data.toList ++ 93 :: (a.data.toList ++ 61 :: s.data.toList)) := by
  unfold rtext
  simp only [ByteArray.data_append, Array.toList_append, List.append_assoc]
  rfl
theorem spec_end (t : ByteArray) (p l a s : List UInt8) (k : Nat) (hk : 8388620 < k) (ht : t.size ≤ 1048576) (hz : t.size = p.length + 1 + l.length + 1 + a.length + 1 + s.length) (x1 : t.extract 0 p.length = ba p) (x2 : t.extract (p.length + 1) (p.length + 1 + l.length) = ba l)
    (x3 : t.extract (p.length + 1 + l.length + 1) (p.length + 1 + l.length + 1 + a.length) = ba a) (x4 : t.extract (p.length + 1 + l.length + 1 + a.length + 1) t.size = ba s) :
    spec_ReadRule.j0 (k + 1) t ((p.length : Nat) : Int) ((p.length + 1 + l.length : Nat) : Int) ((p.length + 1 + l.length + 1 + a.length : Nat) : Int) false = some (good (ba p) (ba l) (ba a) (ba s)) := by
  have w1 : wrap64 (((p.length : Nat) : Int) + 1) = ((p.length + 1 : Nat) : Int) := by rw [w64 (by omega) (by omega)]; omega
  have w2 : wrap64 (((p.length + 1 + l.length : Nat) : Int) + 1) = ((p.length + 1 + l.length + 1 : Nat) : Int) := by rw [w64 (by omega) (by omega)]; omega
  have w3 : wrap64 (((p.length + 1 + l.length + 1 + a.length : Nat) : Int) + 1) = ((p.length + 1 + l.length + 1 + a.length + 1 : Nat) : Int) := by rw [w64 (by omega) (by omega)]; omega
  have tn : ∀ m : Nat, (m : Int).toNat = m := fun m => Int.toNat_natCast m
  have b1 : (0 : Int) ≤ ((p.length : Nat) : Int) := Int.natCast_nonneg _
  have b2 : ((p.length : Nat) : Int) ≤ (t.size : Int) := Int.ofNat_le.2 (by omega)
  have b3 : (0 : Int) ≤ ((p.length + 1 : Nat) : Int) := Int.natCast_nonneg _
  have b4 : ((p.length + 1 : Nat) : Int) ≤ ((p.length + 1 + l.length : Nat) : Int) := Int.ofNat_le.2 (by omega)
  have b5 : ((p.length + 1 + l.length : Nat) : Int) ≤ (t.size : Int) := Int.ofNat_le.2 (by omega)
  have b6 : (0 : Int) ≤ ((p.length + 1 + l.length + 1 : Nat) : Int) := Int.natCast_nonneg _
  have b7 : ((p.length + 1 + l.length + 1 : Nat) : Int) ≤ ((p.length + 1 + l.length + 1 + a.length : Nat) : Int) := Int.ofNat_le.2 (by omega)
  have b8 : ((p.length + 1 + l.length + 1 + a.length : Nat) : Int) ≤ (t.size : Int) := Int.ofNat_le.2 (by omega)
  have b9 : (0 : Int) ≤ ((p.length + 1 + l.length + 1 + a.length + 1 : Nat) : Int) := Int.natCast_nonneg _
  have b10 : ((p.length + 1 + l.length + 1 + a.length + 1 : Nat) : Int) ≤ (t.size : Int) := Int.ofNat_le.2 (by omega)
  have s1 : (ba p).size ≤ 4194303 := by rw [size_ba]; omega
  have s2 : (ba l).size ≤ 4194303 := by rw [size_ba]; omega
  have s3 : (ba a).size ≤ 4194303 := by rw [size_ba]; omega
  have s4 : (ba s).size ≤ 4194303 := by rw [size_ba]; omega
  rw [spec_ReadRule.j0, if_neg Bool.false_ne_true, if_pos b1, if_pos b2, w1, if_pos b3, if_pos b4, if_pos b5, w2, if_pos b6, if_pos b7, if_pos b8, w3, if_pos b9, if_pos b10]
  simp only [tn]
  rw [x1, x2, x3, x4, rule_s _ _ _ _ s1 s2 s3 s4 k hk, Option.bind_some]
  unfold good
  split <;> rfl
set_option maxHeartbeats 1600000 in
theorem both (t : ByteArray) (ht : t.size ≤ 1048576) (k : Nat) (hk : 8388620 < k) : ∃ r : Res, spec_ReadRule.f (k + 1) t = some r ∧ impl_ReadRule.f (k + 1) t = some r := by
  have f91 := find_f t (by omega) 91 (k + 1) (by omega)
  have f93 := find_f t (by omega) 93 (k + 1) (by omega)
  have f61 := find_f t (by omega) 61 (k + 1) (by omega)
  have z1 : spec_l07Find.f (k + 1) t 91 = some (Lib.indexByte t.data.toList 91) := f91
  have z2 : spec_l07Find.f (k + 1) t 93 = some (Lib.indexByte t.data.toList 93) := f93
  have z3 : spec_l07Find.f (k + 1) t 61 = some (Lib.indexByte t.data.toList 61) := f61
  have hsp : spec_ReadRule.f (k + 1) t = (if Lib.indexByte t.data.toList 91 < 0 then (some bad) else (if Lib.indexByte t.data.toList 93 < Lib.indexByte t.data.toList 91 then (some bad) else (spec_ReadRule.j0 (k + 1) t (Lib.indexByte t.data.toList 91) (Lib.indexByte t.data.toList 93) (Lib.indexByte t.data.toList 61) (decide (Lib.indexByte t.data.toList 61 < Lib.indexByte t.data.toList 93))))) := by
    unfold spec_ReadRule.f
    rw [z1, Option.bind_some, z2, Option.bind_some, z3, Option.bind_some, spec_true]
  have him : impl_ReadRule.f (k + 1) t = (strings_Cut.f t (ba [91])).bind fun bt183 => ((strings_Cut.f bt183.2.1 (ba [93])).bind fun bt186 => ((strings_Cut.f bt186.2.1 (ba [61])).bind fun bt189 => ((impl_ValidRule.f (k + 1) bt183.1 bt186.1 bt189.1 bt189.2.1).bind fun t193 => (if t193 = true then ((impl_ruleText.f bt183.1 bt186.1 bt189.1 bt189.2.1).bind fun t194 => (if t194.toList = t.toList then (some (bt183.1, bt186.1, bt189.1, bt189.2.1, true)) else (some ((⟨#[]⟩ : ByteArray), (⟨#[]⟩ : ByteArray), (⟨#[]⟩ : ByteArray), (⟨#[]⟩ : ByteArray), false)))) else (some ((⟨#[]⟩ : ByteArray), (⟨#[]⟩ : ByteArray), (⟨#[]⟩ : ByteArray), (⟨#[]⟩ : ByteArray), false)))))) := rfl
  clear f91 f93 f61 z1 z2 z3
  rw [hsp, him]
  clear hsp him
  have e0 : (⟨#[]⟩ : ByteArray).size = 0 := rfl
  rcases index_spec 91 t.data.toList with ⟨h1, h2⟩ | ⟨p, r1, h1, h2, h3⟩
  · refine ⟨bad, by rw [h1, if_pos (by decide)], ?_⟩
    rw [cutF_none t 91 h2, Option.bind_some, empty_cut, Option.bind_some, empty_cut, Option.bind_some]
    rw [impl_end t t _ _ _ (k + 1) (by omega) ht (by rw [e0]; omega) (by rw [e0]; omega) (by rw [e0]; omega)]
    have : good t (⟨#[]⟩ : ByteArray) ⟨#[]⟩ ⟨#[]⟩ = bad := by
      unfold good
      rw [if_neg (fun h => by have := (rule_parts h).1; cases this)]
    rw [this]
    split <;> rfl
  · have hsz1 : t.size = p.length + 1 + r1.length := (take_hit h1).2.2
    rw [cutF_hit t (by omega) 91 p r1 h1 h2, Option.bind_some, h3, if_neg (by omega)]
    dsimp only
    rcases index_spec 93 r1 with ⟨g1, g2⟩ | ⟨l, r2, g1, g2, g3⟩
    · refine ⟨bad, ?_, ?_⟩
      · rw [if_pos]
        rw [h1]
        by_cases m : (93 : UInt8) ∈ p
        · exact (idx_mem _ m).2
        · rw [idx_none (by simp [m, g2])]; omega
      · rw [cutF_none (ba r1) 93 g2, Option.bind_some, empty_cut, Option.bind_some, impl_end t _ _ _ _ (k + 1) (by omega) (by rw [size_ba]; omega) (by rw [size_ba]; omega) (by rw [e0]; omega) (by rw [e0]; omega), if_neg]
        intro h
        have := rtext_size (ba p) (ba r1) ⟨#[]⟩ ⟨#[]⟩
        rw [h, size_ba, size_ba, e0] at this
        omega
    · have hsz2 : r1.length = l.length + 1 + r2.length := by rw [g1, List.length_append, List.length_cons]; omega
      rw [cutF_hit (ba r1) (by rw [size_ba]; omega) 93 l r2 g1 g2, Option.bind_some]
      dsimp only
      have hT : t.data.toList = (p ++ 91 :: l) ++ 93 :: r2 := by rw [h1, g1, List.append_assoc]; rfl
      have hle : (p ++ 91 :: l).length = p.length + 1 + l.length := by rw [List.length_append, List.length_cons]; omega
      rcases index_spec 61 r2 with ⟨i1, i2⟩ | ⟨a, s, i1, i2, i3⟩
      · refine ⟨bad, ?_, ?_⟩
        · by_cases m : (93 : UInt8) ∈ p
          · rw [if_pos (by rw [h1]; exact (idx_mem _ m).2)]
          · have e93 : Lib.indexByte t.data.toList 93 = ((p.length + 1 + l.length : Nat) : Int) := by rw [hT, idx_hit (by simp [m, g2]), hle]
            rw [e93, if_neg (by omega)]
            have hlt : Lib.indexByte t.data.toList 61 < ((p.length + 1 + l.length : Nat) : Int) := by
              by_cases m2 : (61 : UInt8) ∈ p ++ 91 :: l
              · have := (idx_mem (93 :: r2) m2).2
                rw [← hT, hle] at this
                exact this
              · rw [idx_none (by rw [hT]; simp at m2 ⊢; exact ⟨m2.1, m2.2, i2⟩)]; omega
            rw [decide_eq_true hlt, spec_true]
        · rw [cutF_none (ba r2) 61 i2, Option.bind_some, impl_end t _ _ _ _ (k + 1) (by omega) (by rw [size_ba]; omega) (by rw [size_ba]; omega) (by rw [size_ba]; omega) (by rw [e0]; omega), if_neg]
          intro h
          have := rtext_size (ba p) (ba l) (ba r2) ⟨#[]⟩
          rw [h, size_ba, size_ba, size_ba, e0] at this
          omega
      · have hsz3 : r2.length = a.length + 1 + s.length := by rw [i1, List.length_append, List.length_cons]; omega
        rw [cutF_hit (ba r2) (by rw [size_ba]; omega) 61 a s i1 i2, Option.bind_some]
        dsimp only
        have hrt : rtext (ba p) (ba l) (ba a) (ba s) = t := by
          apply ByteArray.ext
          apply Array.toList_inj.1
          rw [rtext_list, h1, g1, i1]; rfl
        refine ⟨good (ba p) (ba l) (ba a) (ba s), ?_, ?_⟩
        · have nob : ruleB (ba p) (ba l) (ba a) (ba s) = false → good (ba p) (ba l) (ba a) (ba s) = bad := fun h => by unfold good; rw [if_neg (by rw [h]; simp)]
          by_cases m : (93 : UInt8) ∈ p
          · rw [if_pos (by rw [h1]; exact (idx_mem _ m).2), nob]
            cases hr : ruleB (ba p) (ba l) (ba a) (ba s) with
            | false => rfl
            | true => exact absurd m (signs_no (rule_parts hr).2.1 93 (by decide))
          · have e93 : Lib.indexByte t.data.toList 93 = ((p.length + 1 + l.length : Nat) : Int) := by rw [hT, idx_hit (by simp [m, g2]), hle]
            rw [e93, if_neg (by omega)]
            by_cases m2 : (61 : UInt8) ∈ p ++ 91 :: l
            · have hlt : Lib.indexByte t.data.toList 61 < ((p.length + 1 + l.length : Nat) : Int) := by
                have := (idx_mem (93 :: r2) m2).2
                rw [← hT, hle] at this
                exact this
              rw [decide_eq_true hlt, spec_true, nob]
              cases hr : ruleB (ba p) (ba l) (ba a) (ba s) with
              | false => rfl
              | true =>
                have q1 := signs_no (rule_parts hr).2.1 61 (by decide)
                have q2 := name_no (rule_parts hr).1 61 (by decide)
                rcases List.mem_append.1 m2 with x | x
                · exact absurd x q1
                · rcases List.mem_cons.1 x with x | x
                  · cases x
                  · exact absurd x q2
            · have hT2 : t.data.toList = (p ++ 91 :: (l ++ 93 :: a)) ++ 61 :: s := by rw [h1, g1, i1]; simp only [List.append_assoc, List.cons_append]
              have hle2 : (p ++ 91 :: (l ++ 93 :: a)).length = p.length + 1 + l.length + 1 + a.length := by simp only [List.length_append, List.length_cons]; omega
              have e61 : Lib.indexByte t.data.toList 61 = ((p.length + 1 + l.length + 1 + a.length : Nat) : Int) := by
                rw [hT2, idx_hit ?_, hle2]
                simp at m2 ⊢
                exact ⟨m2.1, m2.2, i2⟩
              have x1 : t.extract 0 p.length = ba p := (take_hit h1).1
              have x2 : t.extract (p.length + 1) (p.length + 1 + l.length) = ba l := mid_ba (x := p ++ [91]) (y := l) (z := 93 :: r2) (by rw [hT]; simp) _ _ (by simp) (by simp)
              have x3 : t.extract (p.length + 1 + l.length + 1) (p.length + 1 + l.length + 1 + a.length) = ba a := mid_ba (x := p ++ 91 :: (l ++ [93])) (y := a) (z := 61 :: s) (by rw [hT2]; simp) _ _ (by simp; omega) (by simp; omega)
              have x4 : t.extract (p.length + 1 + l.length + 1 + a.length + 1) t.size = ba s := end_ba (x := p ++ 91 :: (l ++ 93 :: a) ++ [61]) (y := s) (by rw [hT2]; simp) _ (by simp; omega)
              have hdf : decide (((p.length + 1 + l.length + 1 + a.length : Nat) : Int) < ((p.length + 1 + l.length : Nat) : Int)) = false := decide_eq_false (by omega)
              rw [e61, hdf]
              exact spec_end t p l a s k hk ht (by omega) x1 x2 x3 x4
        · rw [impl_end t _ _ _ _ (k + 1) (by omega) (by rw [size_ba]; omega) (by rw [size_ba]; omega) (by rw [size_ba]; omega) (by rw [size_ba]; omega), if_pos hrt]
theorem pure : laws_FnExactReadRule.Pure := by
  intro t _
  refine ⟨8388622 + 1, ?_⟩
  unfold laws_FnExactReadRule.f
  by_cases c : (t.size : Int) > 1048576
  · rw [if_pos c]
  obtain ⟨r, h1, h2⟩ := both t (by omega) 8388622 (by omega)
  rw [if_neg c, h1, Option.bind_some, h2, Option.bind_some]
  unfold laws_eqRule.f
  rw [if_pos rfl, if_pos rfl, if_pos rfl, if_pos rfl, Option.bind_some, if_pos rfl, if_neg (by simp)]
end Go.Proofs.YtjkpbmdkkdofkaaDoor.RdPure
namespace Go.Proofs.YtjkpbmdkkdofkaaDoor
open Go.RowKit Go.Proofs.YtjkpbmdkkdofkaaDoorW.PrintWords
theorem readRule_w (a0 : ByteArray) (w : World) (w0 : a0.size ≤ 140737488351232) :
    Calls Tryd.prog 5 #[.string a0] w fun e w' => e = .returned (.bool true) ∧ Below w.heap.size w w' :=
  PFnExactReadRule.laws_FnExactReadRule.walk RdPure.pure a0 w w0
end Go.Proofs.YtjkpbmdkkdofkaaDoor
