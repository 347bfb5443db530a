import Derived.Test.YtjkpbmdkkdofkaaDoorPFnExactSpellTextx
import Derived.Test.YtjkpbmdkkdofkaaDoorLm
import Derived.Test.YtjkpbmdkkdofkaaDoorOp
import Derived.Lib.IndexBytes
set_option linter.unusedVariables false
set_option linter.unusedSimpArgs false
namespace Go.Proofs.YtjkpbmdkkdofkaaDoor.SpPure
open Go.RowKit Go.Proofs.YtjkpbmdkkdofkaaDoorW.PrintWords Go.Proofs.YtjkpbmdkkdofkaaDoor.PFnExactSpellText Go.Proofs.YtjkpbmdkkdofkaaDoor.Lm
theorem cutl (s : ByteArray) (hs : s.size ≤ 4194304) (c : UInt8) : ∀ (d k : Nat) (out : List ByteArray) (a i : Nat), i + d = s.size → a ≤ i → c ∉ (s.data.toList.drop a).take (i - a) → out.length ≤ i → d + 1 < k →
    spec_l01Cut.l0 k s ((c.toNat : Nat) : Int) out (a : Int) (i : Int) = some (out ++ (cut c (s.data.toList.drop a)).map ba)
  | d, 0, out, a, i, h1, ha, hc, ho, hk => by omega
  | 0, k + 1, out, a, i, h1, ha, hc, ho, hk => by
    obtain ⟨k, rfl⟩ : ∃ m, k = m + 1 := ⟨k - 1, by omega⟩
    have hi : i = s.size := h1
    subst hi
    have hd : (s.data.toList.drop a).take (s.size - a) = s.data.toList.drop a := List.take_of_length_le (by rw [List.length_drop, size_list]; exact Nat.le_refl _)
    rw [hd] at hc
    rw [spec_l01Cut.l0, if_pos (Int.le_refl _), if_pos rfl, if_pos (by omega), if_pos (by omega), if_pos (by omega), Int.toNat_natCast, Int.toNat_natCast, w64 (by omega) (by omega), spec_l01Cut.l0, if_neg (by omega), cut_none hc, extract_ba, hd]
    rfl
  | d + 1, k + 1, out, a, i, h1, ha, hc, ho, hk => by
    have hi : i < s.size := by omega
    have e1 : wrap64 ((i : Int) + 1) = ((i + 1 : Nat) : Int) := by rw [w64 (by omega) (by omega)]; omega
    have hx : s.data.toList.drop a = (s.data.toList.drop a).take (i - a) ++ (s.data.toList[i]'hi) :: s.data.toList.drop (i + 1) := by
      have h2 : (s.data.toList.drop a).drop (i - a) = (s.data.toList[i]'hi) :: s.data.toList.drop (i + 1) := by
        rw [List.drop_drop, show a + (i - a) = i by omega]; exact List.drop_eq_getElem_cons hi
      rw [← h2, List.take_append_drop]
    have hb := bt_nat s i hi
    rw [spec_l01Cut.l0, if_pos (by omega), if_neg (by omega), if_pos (by omega), if_pos (by omega), hb]
    by_cases c1 : (((s.data.toList[i]'hi).toNat : Nat) : Int) = ((c.toNat : Nat) : Int)
    · have hc1 := u8_eq c1
      rw [if_pos c1, if_pos (by omega), if_pos (by omega), if_pos (by omega), e1, Int.toNat_natCast, Int.toNat_natCast]
      rw [cutl s hs c d k _ (i + 1) (i + 1) (by omega) (Nat.le_refl _) (by rw [Nat.sub_self, List.take_zero]; exact fun h => by cases h) (by rw [List.length_append, List.length_singleton]; omega) (by omega)]
      rw [hx, hc1, cut_hit _ hc, extract_ba, List.append_assoc]
      rfl
    · rw [if_neg c1, e1]
      refine cutl s hs c d k out a (i + 1) (by omega) (by omega) ?_ (by omega) (by omega)
      have h3 : (s.data.toList.drop a).take (i + 1 - a) = (s.data.toList.drop a).take (i - a) ++ [s.data.toList[i]'hi] := by
        rw [show i + 1 - a = (i - a) + 1 by omega, List.take_succ_eq_append_getElem (by rw [List.length_drop, size_list]; omega)]
        congr 2
        rw [List.getElem_drop]
        congr 1
        omega
      rw [h3]
      intro hm
      rcases List.mem_append.1 hm with e | e
      · exact hc e
      · rw [List.mem_singleton] at e
        exact c1 (by rw [e])
theorem cut_spec (s : ByteArray) (hs : s.size ≤ 4194304) (c : UInt8) (k : Nat) (hk : s.size + 1 < k) : spec_l01Cut.f k s ((c.toNat : Nat) : Int) = some (cutB c s) :=
  cutl s hs c s.size k [] 0 0 (by omega) (by omega) (by simp) (by simp) hk
theorem gs0 (c : UInt8) (k : Nat) (x : ByteArray) (l : List ByteArray) (n : Nat) (hc : x.data.toList.count c = 0) (hl : l.length = n + 1) (hn : n ≤ 4194304) : strings_genSplit.l0 (k + 1) x (ba [c]) 0 (n : Int) l (n : Int) = some (l.take n ++ cutB c x) := by
  have hn0 : c ∉ x.data.toList := fun h => by
    have := List.count_pos_iff.2 h
    omega
  have e1 : wrap64 ((n : Int) + 1) = ((n + 1 : Nat) : Int) := by rw [w64 (by omega) (by omega)]; omega
  have f1 : ¬ ((n : Int) < (n : Int)) := by omega
  have f2 : (0 : Int) ≤ (n : Int) := by omega
  have f3 : (n : Int) < (l.length : Int) := by omega
  have f4 : (0 : Int) ≤ ((n + 1 : Nat) : Int) := by omega
  have f5 : ((n + 1 : Nat) : Int) ≤ (l.length : Int) := by omega
  have f6 : n < l.length := by omega
  rw [strings_genSplit.l0, if_neg f1, if_pos f2, if_pos f3, e1, if_pos f4, if_pos f5, Int.toNat_natCast, Int.toNat_natCast]
  unfold cutB
  rw [cut_none hn0, take_set_snoc f6]
  rfl
theorem gs1 (c : UInt8) (k : Nat) (x : ByteArray) (l : List ByteArray) (i n : Nat) (p r : List UInt8) (hin : i < n) (hl : l.length = n + 1) (hn : n ≤ 4194304) (hx : x.size ≤ 4194304) (h2 : x.data.toList = p ++ c :: r) (h4 : Lib.indexByte x.data.toList c = (p.length : Int)) :
    strings_genSplit.l0 (k + 1) x (ba [c]) 0 (n : Int) l (i : Int) = strings_genSplit.l0 k (ba r) (ba [c]) 0 (n : Int) (l.set i (ba p)) ((i + 1 : Nat) : Int) := by
  obtain ⟨g1, g2, g3⟩ := take_hit h2
  have hI : strings_Index.f x (ba [c]) = some ((p.length : Nat) : Int) := by
    unfold strings_Index.f
    rw [if_pos (show (ba [c]).size = 1 from rfl), ← h4]; rfl
  clear h4 h2
  have f1 : (i : Int) < (n : Int) := by omega
  have f2 : ¬ (((p.length : Nat) : Int) < 0) := by omega
  have f3 : (0 : Int) ≤ ((p.length : Nat) : Int) := by omega
  have f4 : ((p.length : Nat) : Int) ≤ (x.size : Int) := by omega
  have f5 : (0 : Int) ≤ (i : Int) := by omega
  have f6 : (i : Int) < (l.length : Int) := by omega
  have f7 : (0 : Int) ≤ ((p.length + 1 : Nat) : Int) := by omega
  have f8 : ((p.length + 1 : Nat) : Int) ≤ (x.size : Int) := by omega
  have e1 : wrap64 ((i : Int) + 1) = ((i + 1 : Nat) : Int) := by rw [w64 (by omega) (by omega)]; omega
  have e2 : wrap64 (((p.length : Nat) : Int) + 0) = ((p.length : Nat) : Int) := by rw [w64 (by omega) (by omega)]; omega
  have e3 : wrap64 (((p.length : Nat) : Int) + (((ba [c]).size : Nat) : Int)) = ((p.length + 1 : Nat) : Int) := by
    rw [show (((ba [c]).size : Nat) : Int) = 1 from rfl, w64 (by omega) (by omega)]; omega
  rw [strings_genSplit.l0, if_pos f1, hI, Option.bind_some, if_neg f2, e2, if_pos f3, if_pos f4, if_pos f5, if_pos f6, e3, if_pos f7, if_pos f8, e1, Int.toNat_natCast, Int.toNat_natCast, Int.toNat_natCast, g1, g2]
theorem gsl (c : UInt8) (n : Nat) (hn : n ≤ 4194304) (d : Nat) : ∀ (k : Nat) (x : ByteArray) (l : List ByteArray) (i : Nat), i + d = n → x.data.toList.count c = d → l.length = n + 1 → x.size ≤ 4194304 → d < k →
    strings_genSplit.l0 k x (ba [c]) 0 (n : Int) l (i : Int) = some (l.take i ++ cutB c x) := by
  induction d with
  | zero =>
    intro k x l i h1 hc hl hx hk
    obtain ⟨k, rfl⟩ : ∃ m, k = m + 1 := ⟨k - 1, by omega⟩
    obtain rfl : i = n := by omega
    exact gs0 c k x l i hc hl hn
  | succ d ih =>
    intro k x l i h1 hc hl hx hk
    obtain ⟨k, rfl⟩ : ∃ m, k = m + 1 := ⟨k - 1, by omega⟩
    rcases index_spec c x.data.toList with ⟨_, h⟩ | ⟨p, r, h2, h3, h4⟩
    · rw [List.count_eq_zero_of_not_mem h] at hc
      omega
    · obtain ⟨g1, g2, g3⟩ := take_hit h2
      have hcr : (ba r).data.toList.count c = d := by
        rw [h2, count_hit h3] at hc
        rw [list_ba]; omega
      rw [gs1 c k x l i n p r (by omega) hl hn hx h2 h4, ih k (ba r) _ (i + 1) (by omega) hcr (by rw [List.length_set]; exact hl) (by rw [size_ba]; omega) (by omega), take_set_snoc (by omega)]
      unfold cutB
      rw [h2, cut_hit r h3, List.append_assoc]
      rfl
theorem split_some (s : ByteArray) (hs : s.size ≤ 4194303) (c : UInt8) (k : Nat) (hk : s.size + 1 < k) : strings_Split.f k s (ba [c]) = some (cutB c s) := by
  obtain ⟨k, rfl⟩ : ∃ m, k = m + 1 := ⟨k - 1, by omega⟩
  have hle : s.data.toList.count c ≤ s.size := List.count_le_length
  have hC : strings_Count.f s (ba [c]) = some ((s.data.toList.count c : Nat) : Int) := by
    unfold strings_Count.f
    rw [if_pos (show (ba [c]).size = 1 from rfl)]; rfl
  have e1 : wrap64 (((s.data.toList.count c : Nat) : Int) + 1) = ((s.data.toList.count c + 1 : Nat) : Int) := by rw [w64 (by omega) (by omega)]; omega
  have e2 : mn ((s.data.toList.count c + 1 : Nat) : Int) (wrap64 ((s.size : Int) + 1)) = ((s.data.toList.count c + 1 : Nat) : Int) := by
    rw [w64 (by omega) (by omega)]; unfold mn; split <;> omega
  have e3 : wrap64 (((s.data.toList.count c + 1 : Nat) : Int) - 1) = ((s.data.toList.count c : Nat) : Int) := by rw [w64 (by omega) (by omega)]; omega
  have hne : ¬ ((ba [c]).toList = ([] : List UInt8)) := by
    intro h
    have := nil_iff.1 h
    cases this
  unfold strings_Split.f strings_genSplit.f
  rw [if_neg (by decide), if_neg hne, if_pos (by decide), hC, Option.bind_some, e1, strings_genSplit.j0, e2, if_pos (by omega), if_pos (by omega), e3, Int.toNat_natCast]
  have hg := gsl c (s.data.toList.count c) (by omega) (s.data.toList.count c) k s (List.replicate (s.data.toList.count c + 1) (⟨#[]⟩ : ByteArray)) 0 (by omega) rfl (by rw [List.length_replicate]) (by omega) (by omega)
  rw [show (((0 : Nat) : Int)) = 0 from rfl] at hg
  rw [hg]
  rfl
def alph (s : ByteArray) : Bool := s.data.toList.all fun b => decide (97 ≤ b.toNat ∧ b.toNat ≤ 122)
theorem letter_b (b : UInt8) : spec_l07Letter.f (b.toNat : Int) = some (decide (97 ≤ b.toNat ∧ b.toNat ≤ 122)) := by
  unfold spec_l07Letter.f
  by_cases h : (b.toNat : Int) ≥ 97
  · rw [if_pos h]
    congr 1
    rw [decide_eq_decide]; omega
  · rw [if_neg h]
    congr 1
    exact (decide_eq_false (by omega)).symm
theorem lettersl (s : ByteArray) (hs : s.size ≤ 4194304) (a b : Int) : ∀ (d k i : Nat), i + d = s.size → d < k →
    spec_l07Letters.l0 k s a b (i : Int) = some ((s.data.toList.drop i).all (fun b => decide (97 ≤ b.toNat ∧ b.toNat ≤ 122)) && decide (a ≤ (s.size : Int) ∧ (s.size : Int) ≤ b))
  | d, 0, i, h1, hk => by omega
  | 0, k + 1, i, h1, hk => by
    rw [spec_l07Letters.l0, if_neg (by omega), List.drop_of_length_le (by rw [size_list]; omega)]
    by_cases h : (s.size : Int) ≥ a
    · rw [if_pos h]
      simp only [List.all_nil, Bool.true_and]
      congr 1
      rw [decide_eq_decide]; omega
    · rw [if_neg h]
      simp only [List.all_nil, Bool.true_and]
      congr 1
      exact (decide_eq_false (by omega)).symm
  | d + 1, k + 1, i, h1, hk => by
    have hi : i < s.size := by omega
    have e1 : wrap64 ((i : Int) + 1) = ((i + 1 : Nat) : Int) := by rw [w64 (by omega) (by omega)]; omega
    have hd : s.data.toList.drop i = (s.data.toList[i]'hi) :: s.data.toList.drop (i + 1) := List.drop_eq_getElem_cons hi
    rw [spec_l07Letters.l0, if_pos (by omega), if_pos (by omega), bt_nat s i hi, letter_b, Option.bind_some, hd, List.all_cons]
    by_cases h : decide (97 ≤ (s.data.toList[i]'hi).toNat ∧ (s.data.toList[i]'hi).toNat ≤ 122) = true
    · rw [if_pos h, e1, lettersl s hs a b d k (i + 1) (by omega) (by omega), h, Bool.true_and]
    · rw [if_neg h]
      rw [Bool.not_eq_true] at h
      rw [h, Bool.false_and, Bool.false_and]
theorem letters_f (s : ByteArray) (hs : s.size ≤ 4194304) (a b : Int) (k : Nat) (hk : s.size < k) : spec_l07Letters.f k s a b = some (alph s && decide (a ≤ (s.size : Int) ∧ (s.size : Int) ≤ b)) :=
  lettersl s hs a b s.size k 0 (by omega) hk
theorem isNamel (s : ByteArray) (hs : s.size ≤ 4194304) : ∀ (d k i : Nat), i + d = s.size → d < k →
    impl_IsName.l0 k s (i : Int) = some ((s.data.toList.drop i).all (fun b => decide (97 ≤ b.toNat ∧ b.toNat ≤ 122)) && decide (1 ≤ s.size ∧ s.size ≤ 8))
  | d, 0, i, h1, hk => by omega
  | 0, k + 1, i, h1, hk => by
    rw [impl_IsName.l0, if_neg (by omega), List.drop_of_length_le (by rw [size_list]; omega)]
    unfold impl_within.f
    by_cases h : (s.size : Int) ≥ 1
    · rw [if_pos h]
      simp only [List.all_nil, Bool.true_and, Option.bind_some]
      congr 1
      rw [decide_eq_decide]; omega
    · rw [if_neg h]
      simp only [List.all_nil, Bool.true_and, Option.bind_some]
      congr 1
      exact (decide_eq_false (by omega)).symm
  | d + 1, k + 1, i, h1, hk => by
    have hi : i < s.size := by omega
    have e1 : wrap64 ((i : Int) + 1) = ((i + 1 : Nat) : Int) := by rw [w64 (by omega) (by omega)]; omega
    have hd : s.data.toList.drop i = (s.data.toList[i]'hi) :: s.data.toList.drop (i + 1) := List.drop_eq_getElem_cons hi
    rw [impl_IsName.l0, if_pos (by omega), if_pos (by omega), bt_nat s i hi, hd, List.all_cons]
    by_cases h : ((s.data.toList[i]'hi).toNat : Int) < 97
    · rw [if_pos h, decide_eq_false (by omega), Bool.false_and, Bool.false_and]
    · rw [if_neg h]
      by_cases h2 : ((s.data.toList[i]'hi).toNat : Int) > 122
      · rw [if_pos h2, decide_eq_false (by omega), Bool.false_and, Bool.false_and]
      · rw [if_neg h2, e1, isNamel s hs d k (i + 1) (by omega) (by omega), decide_eq_true (p := 97 ≤ (s.data.toList[i]'hi).toNat ∧ (s.data.toList[i]'hi).toNat ≤ 122) ⟨by omega, by omega⟩, Bool.true_and]
theorem isName_f (s : ByteArray) (hs : s.size ≤ 4194304) (k : Nat) (hk : s.size < k) : impl_IsName.f k s = some (alph s && decide (1 ≤ s.size ∧ s.size ≤ 8)) :=
  isNamel s hs s.size k 0 (by omega) hk
def nameB (s : ByteArray) : Bool := alph s && decide (1 ≤ s.size ∧ s.size ≤ 4)
theorem letters14 (s : ByteArray) (hs : s.size ≤ 4194304) (k : Nat) (hk : s.size < k) : spec_l07Letters.f k s 1 4 = some (nameB s) := by
  rw [letters_f s hs 1 4 k hk]
  unfold nameB
  congr 2
  rw [decide_eq_decide]; omega
theorem soundName_f (s : ByteArray) (hs : s.size ≤ 4194304) (k : Nat) (hk : s.size < k) : impl_isSoundName.f k s = some (nameB s) := by
  unfold impl_isSoundName.f nameB
  by_cases h : (s.size : Int) ≤ 4
  · rw [if_pos h, isName_f s hs k hk, Option.bind_some]
    congr 2
    rw [decide_eq_decide]; omega
  · rw [if_neg h, decide_eq_false (by omega), Bool.and_false]
def signB (b : UInt8) : Bool := decide (97 ≤ b.toNat ∧ b.toNat ≤ 122) || (b == 86 || b == 67 || b == 45)
def signsB (s : ByteArray) : Bool := s.data.toList.all signB && decide (s.size ≤ 3)
theorem eqb (b : UInt8) (n : Nat) (hn : n < 256) : ((b.toNat : Int) = (n : Int)) ↔ b = UInt8.ofNat n := by
  constructor
  · intro h
    apply UInt8.toNat_inj.1
    rw [UInt8.toNat_ofNat_of_lt' hn]; omega
  · rintro rfl
    rw [UInt8.toNat_ofNat_of_lt' hn]
theorem signsl (s : ByteArray) (hs : s.size ≤ 4194304) : ∀ (d k i : Nat), i + d = s.size → d < k →
    spec_l07Signs.l0 k s (i : Int) = some ((s.data.toList.drop i).all signB && decide (s.size ≤ 3))
  | d, 0, i, h1, hk => by omega
  | 0, k + 1, i, h1, hk => by
    rw [spec_l07Signs.l0, if_neg (by omega), List.drop_of_length_le (by rw [size_list]; omega)]
    simp only [List.all_nil, Bool.true_and]
    congr 1
    rw [decide_eq_decide]; omega
  | d + 1, k + 1, i, h1, hk => by
    have hi : i < s.size := by omega
    have e1 : wrap64 ((i : Int) + 1) = ((i + 1 : Nat) : Int) := by rw [w64 (by omega) (by omega)]; omega
    have hd : s.data.toList.drop i = (s.data.toList[i]'hi) :: s.data.toList.drop (i + 1) := List.drop_eq_getElem_cons hi
    rw [spec_l07Signs.l0, if_pos (by omega), if_pos (by omega), bt_nat s i hi, letter_b, Option.bind_some, hd, List.all_cons, e1, signsl s hs d k (i + 1) (by omega) (by omega)]
    generalize (s.data.toList[i]'hi) = b
    have q1 := eqb b 86 (by decide)
    have q2 := eqb b 67 (by decide)
    have q3 := eqb b 45 (by decide)
    have hu : signB b = (decide (97 ≤ b.toNat ∧ b.toNat ≤ 122) || (b == 86 || b == 67 || b == 45)) := rfl
    by_cases h : decide (97 ≤ b.toNat ∧ b.toNat ≤ 122) = true
    · rw [if_pos h, hu, h, Bool.true_or, Bool.true_and]
    · rw [if_neg h]
      rw [Bool.not_eq_true] at h
      rw [hu, h, Bool.false_or]
      by_cases c1 : (b.toNat : Int) = 86
      · have := q1.1 c1
        subst this
        rw [if_pos c1]; rfl
      · rw [if_neg c1]
        by_cases c2 : (b.toNat : Int) = 67
        · have := q2.1 c2
          subst this
          rw [if_pos c2]; rfl
        · rw [if_neg c2]
          by_cases c3 : (b.toNat : Int) = 45
          · have := q3.1 c3
            subst this
            rw [if_pos c3]; rfl
          · rw [if_neg c3]
            have f1 : (b == 86) = false := by rw [beq_eq_false_iff_ne]; exact fun e => c1 (q1.2 e)
            have f2 : (b == 67) = false := by rw [beq_eq_false_iff_ne]; exact fun e => c2 (q2.2 e)
            have f3 : (b == 45) = false := by rw [beq_eq_false_iff_ne]; exact fun e => c3 (q3.2 e)
            rw [f1, f2, f3]; rfl
theorem signs_f (s : ByteArray) (hs : s.size ≤ 4194304) (k : Nat) (hk : s.size < k) : spec_l07Signs.f k s = some (signsB s) := signsl s hs s.size k 0 (by omega) hk
theorem signIx : ∀ n : Fin 256, (Lib.indexByte [86, 67, 45] (UInt8.ofNat n.1) < 0) ↔ ¬ ((UInt8.ofNat n.1 == 86 || UInt8.ofNat n.1 == 67 || UInt8.ofNat n.1 == 45) = true) := by decide +kernel
theorem areSignsl (s : ByteArray) (hs : s.size ≤ 4194304) : ∀ (d k i : Nat), i + d = s.size → d < k →
    impl_areSigns.l0 k s (s.size : Int) (i : Int) = some ((s.data.toList.drop i).all signB && decide (s.size ≤ 3))
  | d, 0, i, h1, hk => by omega
  | 0, k + 1, i, h1, hk => by
    rw [impl_areSigns.l0, if_neg (by omega), List.drop_of_length_le (by rw [size_list]; omega)]
    simp only [List.all_nil, Bool.true_and]
    congr 1
    rw [decide_eq_decide]; omega
  | d + 1, k + 1, i, h1, hk => by
    have hi : i < s.size := by omega
    have e1 : wrap64 ((i : Int) + 1) = ((i + 1 : Nat) : Int) := by rw [w64 (by omega) (by omega)]; omega
    have hd : s.data.toList.drop i = (s.data.toList[i]'hi) :: s.data.toList.drop (i + 1) := List.drop_eq_getElem_cons hi
    have hL : ∀ c, impl_isLetter.f c = spec_l07Letter.f c := fun _ => rfl
    rw [impl_areSigns.l0, if_pos (by omega), if_pos (by omega), if_pos (by omega), bt_nat s i hi, hL, letter_b, Option.bind_some, hd, List.all_cons, e1, areSignsl s hs d k (i + 1) (by omega) (by omega)]
    generalize (s.data.toList[i]'hi) = b
    have hx := signIx ⟨b.toNat, UInt8.toNat_lt b⟩
    have hu : signB b = (decide (97 ≤ b.toNat ∧ b.toNat ≤ 122) || (b == 86 || b == 67 || b == 45)) := rfl
    have hb : UInt8.ofNat b.toNat = b := UInt8.ofNat_toNat
    dsimp only at hx
    rw [hb] at hx
    have hI : strings_IndexByte.f (⟨#[86, 67, 45]⟩ : ByteArray) (b.toNat : Int) = some (Lib.indexByte [86, 67, 45] b) := by
      unfold strings_IndexByte.f
      rw [Int.toNat_natCast]
      show some (Lib.indexByte [86, 67, 45] (UInt8.ofNat b.toNat)) = _
      rw [hb]
    by_cases h : decide (97 ≤ b.toNat ∧ b.toNat ≤ 122) = true
    · rw [if_pos h, hu, h, Bool.true_or, Bool.true_and]
    · rw [if_neg h, hI, Option.bind_some]
      rw [Bool.not_eq_true] at h
      rw [hu, h, Bool.false_or]
      by_cases c : (b == 86 || b == 67 || b == 45) = true
      · rw [if_neg (fun e => hx.1 e c), c, Bool.true_and]
      · rw [if_pos (hx.2 c)]
        rw [Bool.not_eq_true] at c
        rw [c]; rfl
theorem areSigns_f (s : ByteArray) (hs : s.size ≤ 4194304) (k : Nat) (hk : s.size < k) : impl_areSigns.f k s = some (signsB s) := areSignsl s hs s.size k 0 (by omega) hk
theorem rdS_at {l : List ByteArray} {i : Nat} (h : i < l.length) : rdOf ByteArray.empty l (i : Int) = l[i]'h := by
  unfold rdOf
  rw [Int.toNat_natCast, List.getD_eq_getElem?_getD, List.getElem?_eq_getElem h]; rfl
theorem namesl (s : ByteArray) (l : List ByteArray) (hl : l.length ≤ 4194304) (hp : ∀ p ∈ l, p.size ≤ 4194304) : ∀ (d k i : Nat), i + d = l.length → d + 4194305 < k →
    spec_l07Names.l0 k s l (l.length : Int) (i : Int) = some (if (l.drop i).all nameB = true then (l, decide (s.size ≤ 24)) else ([], false))
  | d, 0, i, h1, hk => by omega
  | 0, k + 1, i, h1, hk => by
    rw [spec_l07Names.l0, if_neg (by omega), List.drop_of_length_le (by omega), List.all_nil, if_pos rfl]
    congr 2
    rw [decide_eq_decide]; omega
  | d + 1, k + 1, i, h1, hk => by
    have hi : i < l.length := by omega
    have e1 : wrap64 ((i : Int) + 1) = ((i + 1 : Nat) : Int) := by rw [w64 (by omega) (by omega)]; omega
    have hz := hp _ (List.getElem_mem hi)
    rw [spec_l07Names.l0, if_pos (by omega), if_pos (by omega), if_pos (by omega), rdS_at hi, letters14 _ hz k (by omega), Option.bind_some, List.drop_eq_getElem_cons hi, List.all_cons]
    by_cases h : nameB (l[i]'hi) = true
    · rw [if_pos h, e1, namesl s l hl hp d k (i + 1) (by omega) (by omega), h, Bool.true_and]
    · rw [if_neg h]
      rw [Bool.not_eq_true] at h
      rw [h, Bool.false_and, if_neg (by simp)]
theorem cutB_ok (c : UInt8) (s : ByteArray) (hs : s.size ≤ 4194303) : (cutB c s).length ≤ 4194304 ∧ ∀ p ∈ cutB c s, p.size ≤ 4194304 := by
  constructor
  · unfold cutB
    rw [List.length_map, cut_len]
    have : s.data.toList.count c ≤ s.data.toList.length := List.count_le_length
    rw [size_list] at this
    omega
  · intro p hp
    obtain ⟨q, hq, rfl⟩ := List.mem_map.1 hp
    have := cut_piece hq
    rw [size_list] at this
    rw [size_ba]; omega
def namesOf (s : ByteArray) : List ByteArray × Bool := if s.size = 0 then ([], true) else if (cutB 46 s).all nameB = true then (cutB 46 s, decide (s.size ≤ 24)) else ([], false)
theorem names_f (s : ByteArray) (hs : s.size ≤ 4194303) (k : Nat) (hk : 8388620 < k) : spec_l07Names.f k s = some (namesOf s) := by
  unfold spec_l07Names.f namesOf
  by_cases h : s.toList = ([] : List UInt8)
  · rw [if_pos h, if_pos (nil_iff.1 h)]
  · rw [if_neg h, if_neg (fun e => h (nil_iff.2 e))]
    have h46 := cut_spec s (by omega) 46 k (by omega)
    obtain ⟨g1, g2⟩ := cutB_ok 46 s hs
    have e : (((46 : UInt8).toNat : Nat) : Int) = 46 := rfl
    rw [e] at h46
    rw [h46, Option.bind_some]
    exact namesl s _ g1 g2 (cutB 46 s).length k 0 (by omega) (by omega)
def ruleB (b l a s : ByteArray) : Bool := (namesOf s).2 && nameB l && signsB b && signsB a
theorem rule_s (b l a s : ByteArray) (hb : b.size ≤ 4194303) (hl : l.size ≤ 4194303) (ha : a.size ≤ 4194303) (hs : s.size ≤ 4194303) (k : Nat) (hk : 8388620 < k) : spec_l07Rule.f k [(⟨b, l, a, s⟩ : S26)] = some (ruleB b l a s) := by
  unfold spec_l07Rule.f ruleB
  have hr : rd_T26 [(⟨b, l, a, s⟩ : S26)] 0 = ⟨b, l, a, s⟩ := rfl
  rw [if_pos (show (0 : Int) < (([(⟨b, l, a, s⟩ : S26)] : List S26).length : Int) by show (0 : Int) < 1; decide), hr]
  dsimp only
  rw [names_f s hs k hk, Option.bind_some, letters14 l (by omega) k (by omega), signs_f b (by omega) k (by omega), signs_f a (by omega) k (by omega)]
  simp only [Option.bind_some]
  cases (namesOf s).2 <;> cases nameB l <;> cases signsB b <;> cases signsB a <;> rfl
theorem ixl (l : List ByteArray) (hl : l.length ≤ 4194304) (hp : ∀ p ∈ l, p.size ≤ 4194304) : ∀ (d k i : Nat), i + d = l.length → d + 4194305 < k →
    ∃ r : Int, slices_IndexFunc_v_impl_ValidRule_1.l0 k l (l.length : Int) (i : Int) = some r ∧ (0 ≤ r ↔ (l.drop i).all nameB = false)
  | d, 0, i, h1, hk => by omega
  | 0, k + 1, i, h1, hk => by
    rw [slices_IndexFunc_v_impl_ValidRule_1.l0, if_neg (by omega), List.drop_of_length_le (by omega), List.all_nil]
    exact ⟨-1, rfl, by simp⟩
  | d + 1, k + 1, i, h1, hk => by
    have hi : i < l.length := by omega
    have e1 : wrap64 ((i : Int) + 1) = ((i + 1 : Nat) : Int) := by rw [w64 (by omega) (by omega)]; omega
    have hz := hp _ (List.getElem_mem hi)
    rw [slices_IndexFunc_v_impl_ValidRule_1.l0, if_pos (by omega), if_pos (by omega), if_pos (by omega), rdS_at hi, List.drop_eq_getElem_cons hi, List.all_cons]
    unfold impl_ValidRule_1.f
    rw [soundName_f _ hz k (by omega), Option.bind_some, Option.bind_some]
    by_cases h : nameB (l[i]'hi) = true
    · obtain ⟨r, h3, h4⟩ := ixl l hl hp d k (i + 1) (by omega) (by omega)
      rw [h, if_neg (by simp), e1, Bool.true_and]
      exact ⟨r, h3, h4⟩
    · rw [Bool.not_eq_true] at h
      rw [h, if_pos (show (!false) = true from rfl), Bool.false_and]
      exact ⟨(i : Int), rfl, by simp⟩
theorem rule_i (b l a s : ByteArray) (hb : b.size ≤ 4194303) (hl : l.size ≤ 4194303) (ha : a.size ≤ 4194303) (hs : s.size ≤ 4194303) (k : Nat) (hk : 8388620 < k) : impl_ValidRule.f k b l a s = some (ruleB b l a s) := by
  have hS := split_some s (by omega) 46 k (by omega)
  obtain ⟨g1, g2⟩ := cutB_ok 46 s hs
  obtain ⟨r, hr, hr2⟩ := ixl (cutB 46 s) g1 g2 (cutB 46 s).length k 0 (by omega) (by omega)
  have hC : slices_ContainsFunc_v_impl_ValidRule_1.f k (cutB 46 s) = some (!((cutB 46 s).all nameB)) := by
    unfold slices_ContainsFunc_v_impl_ValidRule_1.f slices_IndexFunc_v_impl_ValidRule_1.f
    have hr' : slices_IndexFunc_v_impl_ValidRule_1.l0 k (cutB 46 s) ((cutB 46 s).length : Int) 0 = some r := hr
    rw [hr', Option.bind_some]
    rw [List.drop_zero] at hr2
    cases hx : (cutB 46 s).all nameB with
    | true =>
      rw [hx] at hr2
      rw [decide_eq_false (fun e => by cases hr2.1 e)]; rfl
    | false =>
      rw [hx] at hr2
      rw [decide_eq_true (hr2.2 rfl)]; rfl
  have hT : (if (s.size : Int) ≤ 24 then (if s.toList = ([] : List UInt8) then (some true) else ((strings_Split.f k s (⟨#[46]⟩ : ByteArray)).bind fun t173 => ((slices_ContainsFunc_v_impl_ValidRule_1.f k t173).bind fun t176 => (some (!t176))))) else (some false)) = some (namesOf s).2 := by
    unfold namesOf
    by_cases c : (s.size : Int) ≤ 24
    · rw [if_pos c]
      by_cases e : s.toList = ([] : List UInt8)
      · rw [if_pos e, if_pos (nil_iff.1 e)]
      · rw [if_neg e, if_neg (fun h => e (nil_iff.2 h))]
        have hS' : strings_Split.f k s (⟨#[46]⟩ : ByteArray) = some (cutB 46 s) := hS
        rw [hS', Option.bind_some, hC, Option.bind_some, Bool.not_not]
        cases hx : (cutB 46 s).all nameB with
        | true => rw [if_pos rfl]; congr 1; exact (decide_eq_true (by omega)).symm
        | false => rw [if_neg (by simp)]
    · rw [if_neg c, if_neg (by omega)]
      cases hx : (cutB 46 s).all nameB with
      | true => rw [if_pos rfl]; congr 1; exact (decide_eq_false (by omega)).symm
      | false => rw [if_neg (by simp)]
  unfold impl_ValidRule.f
  rw [hT, isName_f l (by omega) k (by omega), areSigns_f b (by omega) k (by omega), areSigns_f a (by omega) k (by omega)]
  simp only [Option.bind_some]
  unfold ruleB nameB
  by_cases c : (l.size : Int) ≤ 4
  · rw [if_pos c]
    have e : decide (1 ≤ l.size ∧ l.size ≤ 8) = decide (1 ≤ l.size ∧ l.size ≤ 4) := by rw [decide_eq_decide]; omega
    rw [e]
    cases (namesOf s).2 <;> cases (alph l && decide (1 ≤ l.size ∧ l.size ≤ 4)) <;> cases signsB b <;> cases signsB a <;> rfl
  · rw [if_neg c, decide_eq_false (by omega), Bool.and_false]
    cases (namesOf s).2 <;> rfl
abbrev SL := S23
abbrev SI := S26
def okS (x : SL) : Prop := x.f0.size ≤ 140737488351232 ∧ x.f1.size ≤ 140737488351232 ∧ x.f2.size ≤ 140737488351232 ∧ x.f3.size ≤ 140737488351232
def okR (x : SI) : Prop := x.f0.size ≤ 1048576 ∧ x.f1.size ≤ 1048576 ∧ x.f2.size ≤ 1048576 ∧ x.f3.size ≤ 1048576
def convR (l : List SL) : List SI := l.map fun x => ⟨x.f0, x.f1, x.f2, x.f3⟩
theorem convR_len (l : List SL) : (convR l).length = l.length := by unfold convR; rw [List.length_map]
theorem rdL_at {l : List SL} {i : Nat} (h : i < l.length) : rd_T23 l (i : Int) = l[i]'h := by
  unfold rd_T23
  rw [Int.toNat_natCast, List.getD_eq_getElem?_getD, List.getElem?_eq_getElem h]; rfl
theorem rdI_at {l : List SI} {i : Nat} (h : i < l.length) : rd_T26 l (i : Int) = l[i]'h := by
  unfold rd_T26
  rw [Int.toNat_natCast, List.getD_eq_getElem?_getD, List.getElem?_eq_getElem h]; rfl
theorem convR_at {l : List SL} {i : Nat} (h : i < l.length) : (convR l)[i]? = some ⟨(l[i]'h).f0, (l[i]'h).f1, (l[i]'h).f2, (l[i]'h).f3⟩ := by
  unfold convR
  rw [List.getElem?_map, List.getElem?_eq_getElem h]; rfl
theorem szR2 (b l a s : ByteArray) (hb : b.size ≤ 140737488351232) (hl : l.size ≤ 140737488351232) (ha : a.size ≤ 140737488351232) (hs : s.size ≤ 140737488351232) (n : Int) (h0 : 0 ≤ n) (hn : n ≤ 1048576) :
    ∃ r, laws_szRule.f b l a s n = some r ∧ (r < 0 ∨ (0 ≤ r ∧ r ≤ 1048576) ∧ b.size ≤ 1048576 ∧ l.size ≤ 1048576 ∧ a.size ≤ 1048576 ∧ s.size ≤ 1048576) := by
  unfold laws_szRule.f
  generalize b.size = b at *
  generalize l.size = l at *
  generalize a.size = a at *
  generalize s.size = s at *
  rw [w64 (x := n - b) (by omega) (by omega)]
  by_cases c1 : n - (b : Int) < 0
  · rw [if_pos c1]; exact ⟨_, rfl, .inl (by omega)⟩
  rw [if_neg c1, w64 (x := n - b - l) (by omega) (by omega)]
  by_cases c2 : n - (b : Int) - l < 0
  · rw [if_pos c2]; exact ⟨_, rfl, .inl (by omega)⟩
  rw [if_neg c2, w64 (x := n - b - l - a) (by omega) (by omega)]
  by_cases c3 : n - (b : Int) - l - a < 0
  · rw [if_pos c3]; exact ⟨_, rfl, .inl (by omega)⟩
  rw [if_neg c3, w64 (x := n - b - l - a - s) (by omega) (by omega)]
  by_cases c4 : n - (b : Int) - l - a - s < 0
  · rw [if_pos c4]; exact ⟨_, rfl, .inl (by omega)⟩
  rw [if_neg c4]
  exact ⟨_, rfl, .inr ⟨⟨by omega, by omega⟩, by omega, by omega, by omega, by omega⟩⟩
theorem szl (l : List SL) (hl : l.length ≤ 1048576) (ho : ∀ x ∈ l, okS x) (d : Nat) : ∀ (k : Nat) (a : Int) (i : Nat), i + d = l.length → d < k → 0 ≤ a → a ≤ 1048576 →
    ∃ r, laws_szRuleS.l0 k l a (i : Int) = some r ∧ (r < 0 ∨ ∀ j (h : j < l.length), i ≤ j → okR ⟨(l[j]'h).f0, (l[j]'h).f1, (l[j]'h).f2, (l[j]'h).f3⟩) := by
  induction d with
  | zero =>
    intro k a i h1 hk _ _
    obtain ⟨k, rfl⟩ : ∃ m, k = m + 1 := ⟨k - 1, by omega⟩
    rw [laws_szRuleS.l0, if_neg (nlt (by omega))]
    exact ⟨_, rfl, .inr (fun j h hj => by omega)⟩
  | succ d ih =>
    intro k a i h1 hk ha hb
    obtain ⟨k, rfl⟩ : ∃ m, k = m + 1 := ⟨k - 1, by omega⟩
    have hi : i < l.length := by omega
    obtain ⟨o1, o2, o3, o4⟩ := ho _ (List.getElem_mem hi)
    obtain ⟨r, hr, h⟩ := szR2 (l[i]'hi).f0 (l[i]'hi).f1 (l[i]'hi).f2 (l[i]'hi).f3 o1 o2 o3 o4 a ha hb
    rw [laws_szRuleS.l0, if_pos (lt' hi), if_pos (nn i), rdL_at hi, hr, Option.bind_some]
    by_cases c : r < 0
    · rw [if_pos c]; exact ⟨_, rfl, .inl (by omega)⟩
    · obtain ⟨⟨h2, h3⟩, h4⟩ := h.resolve_left c
      obtain ⟨q, hq, hq2⟩ := ih k r (i + 1) (by omega) (by omega) h2 h3
      rw [if_neg c, up hi (by omega)]
      refine ⟨q, hq, ?_⟩
      rcases hq2 with hq2 | hq2
      · exact .inl hq2
      · refine .inr fun j h hj => ?_
        by_cases e : j = i
        · subst e; exact h4
        · exact hq2 j h (by omega)
theorem szs (l : List SL) (hl : l.length ≤ 9223372036854775807) (ho : ∀ x ∈ l, okS x) (n : Int) (h0 : 0 ≤ n) (hn : n ≤ 1048576) : ∃ r, (r < 0 ∨ l.length ≤ 1048576 ∧ ∀ x ∈ convR l, okR x) ∧ ∀ k, 1048577 ≤ k → laws_szRuleS.f k l n = some r := by
  by_cases c : wrap64 (n - (l.length : Int)) < 0
  · exact ⟨-1, .inl (by decide), fun k _ => by unfold laws_szRuleS.f; rw [if_pos c]⟩
  · have e : wrap64 (n - (l.length : Int)) = n - (l.length : Int) := w64 (by omega) (by omega)
    rw [e] at c
    obtain ⟨r, hr, h⟩ := szl l (by omega) ho l.length 1048577 (n - (l.length : Int)) 0 (by omega) (by omega) (by omega) (by omega)
    refine ⟨r, ?_, fun k hk => at_rounds (g := fun k => laws_szRuleS.f k l n) (laws_szRuleS.mono l n) hk (by unfold laws_szRuleS.f; rw [e, if_neg c]; exact hr)⟩
    rcases h with h | h
    · exact .inl h
    · refine .inr ⟨by omega, fun x hx => ?_⟩
      obtain ⟨j, hj, rfl⟩ := List.getElem_of_mem hx
      have hj2 : j < l.length := by rw [convR_len] at hj; exact hj
      have h2 := convR_at hj2
      rw [List.getElem?_eq_getElem hj] at h2
      rw [Option.some.inj h2]
      exact h j hj2 (Nat.zero_le _)
theorem tol (l : List SL) (hl : l.length ≤ 1048576) (d : Nat) : ∀ (k : Nat) (ys : List SI) (i : Nat), i + d = l.length → d < k → ys.length = l.length → ys.take i = (convR l).take i → laws_toRuleS.l0 k l ys (i : Int) = some (convR l) := by
  induction d with
  | zero =>
    intro k ys i h1 hk hy ht
    obtain ⟨k, rfl⟩ : ∃ m, k = m + 1 := ⟨k - 1, by omega⟩
    obtain rfl : i = l.length := by omega
    rw [laws_toRuleS.l0, if_neg (nlt (Nat.le_refl _))]
    rw [List.take_of_length_le (by omega), List.take_of_length_le (by rw [convR_len]; exact Nat.le_refl _)] at ht
    rw [ht]
  | succ d ih =>
    intro k ys i h1 hk hy ht
    obtain ⟨k, rfl⟩ : ∃ m, k = m + 1 := ⟨k - 1, by omega⟩
    have hi : i < l.length := by omega
    have hiy : i < ys.length := by omega
    have hset := take_set_succ (by rw [convR_len]; exact hi) (by rw [convR_len]; exact hy) ht (convR_at hi)
    rw [laws_toRuleS.l0, if_pos (lt' hi), if_pos (nn i), rdL_at hi]
    unfold laws_toRule.f
    rw [Option.bind_some]
    dsimp only
    rw [if_pos (lt' hiy), up hi (by omega), Int.toNat_natCast]
    exact ih k _ (i + 1) (by omega) (by omega) (by rw [List.length_set]; exact hy) hset
theorem tos (l : List SL) (hl : l.length ≤ 1048576) (k : Nat) (hk : 1048577 ≤ k) : laws_toRuleS.f k l = some (convR l) := by
  unfold laws_toRuleS.f
  rw [if_pos (nn _), if_pos (by omega)]
  exact tol l hl l.length k _ 0 (by omega) (by omega) (by rw [List.length_replicate]; omega) rfl
theorem eqR_refl (x0 x1 x2 x3 : ByteArray) : laws_eqRule.f x0 x1 x2 x3 x0 x1 x2 x3 = some true := by
  unfold laws_eqRule.f
  rw [if_pos rfl, if_pos rfl, if_pos rfl, if_pos rfl]
theorem eqRl (l : List SI) (hl : l.length ≤ 1048576) (d : Nat) : ∀ (k i : Nat), i + d = l.length → d < k → laws_eqRuleS.l0 k l l (i : Int) = some true := by
  induction d with
  | zero =>
    intro k i h1 hk
    obtain ⟨k, rfl⟩ : ∃ m, k = m + 1 := ⟨k - 1, by omega⟩
    rw [laws_eqRuleS.l0, if_neg (nlt (by omega))]
  | succ d ih =>
    intro k i h1 hk
    obtain ⟨k, rfl⟩ : ∃ m, k = m + 1 := ⟨k - 1, by omega⟩
    have hi : i < l.length := by omega
    rw [laws_eqRuleS.l0, if_pos (lt' hi), if_pos (nn i), if_pos (lt' hi), eqR_refl, Option.bind_some, if_pos rfl, up hi (by omega)]
    exact ih k (i + 1) (by omega) (by omega)
theorem eqRs (l : List SI) (hl : l.length ≤ 1048576) (k : Nat) (hk : 1048577 ≤ k) : laws_eqRuleS.f k l l = some true := by
  unfold laws_eqRuleS.f
  rw [if_pos rfl]
  exact eqRl l hl l.length k 0 (by omega) (by omega)
theorem mtl (m : Nat) : ∀ (k x : Nat) (s : ByteArray), x < 10 ^ m → m < k → s.size + m ≤ 1000 → x ≤ 1000000000 → ∃ t, laws_markText.l0 k (x : Int) s = some t := by
  induction m with
  | zero =>
    intro k x s hx hk hs h9
    obtain ⟨k, rfl⟩ : ∃ m, k = m + 1 := ⟨k - 1, by omega⟩
    have hx0 : x = 0 := by simpa using hx
    rw [laws_markText.l0, if_neg (by omega), if_pos (by omega)]
    exact ⟨_, rfl⟩
  | succ m ih =>
    intro k x s hx hk hs h9
    obtain ⟨k, rfl⟩ : ∃ m, k = m + 1 := ⟨k - 1, by omega⟩
    by_cases c : (x : Int) > 0
    · have hd : wrap64 (Int.tdiv (x : Int) 10) = ((x / 10 : Nat) : Int) := by
        rw [Int.tdiv_eq_ediv_of_nonneg (by omega), w64 (by omega) (by omega)]; omega
      have h10 : x / 10 < 10 ^ m := by
        rw [Nat.pow_succ] at hx
        exact Nat.div_lt_of_lt_mul (by rw [Nat.mul_comm]; exact hx)
      rw [laws_markText.l0, if_pos c, Option.bind_some, hd]
      have hsz : ∀ z : Int, (strOfNums [z]).size = 1 := fun z => by simp [strOfNums, ByteArray.size]
      rw [hsz, if_pos (by omega)]
      exact ih k (x / 10) _ h10 (by omega) (by rw [ByteArray.size_append, hsz]; omega) (by omega)
    · rw [laws_markText.l0, if_neg c, if_pos (by omega)]
      exact ⟨_, rfl⟩
theorem mt_some (x : Nat) (hx : x < 100000000) (k : Nat) (hk : 8 < k) : ∃ t, laws_markText.f k (x : Int) = some t := by
  unfold laws_markText.f
  by_cases c : (x : Int) ≤ 0
  · rw [if_pos c]; exact ⟨_, rfl⟩
  · rw [if_neg c]
    exact mtl 8 k x _ (by omega) hk (by decide) (by omega)
theorem mrl (d : Nat) : ∀ (k x : Nat) (l : List SI) (i : Nat), i + d = l.length → d + 8 < k → x + 4 * d ≤ 90000000 → l.length ≤ 1048576 → ∃ r zs, laws_markRuleS.l0 k l (x : Int) (i : Int) = some (r, zs) ∧ 0 ≤ r := by
  induction d with
  | zero =>
    intro k x l i h1 hk hx hl
    obtain ⟨k, rfl⟩ : ∃ m, k = m + 1 := ⟨k - 1, by omega⟩
    rw [laws_markRuleS.l0, if_neg (nlt (by omega))]
    exact ⟨_, _, rfl, nn x⟩
  | succ d ih =>
    intro k x l i h1 hk hx hl
    obtain ⟨k, rfl⟩ : ∃ m, k = m + 1 := ⟨k - 1, by omega⟩
    have hi : i < l.length := by omega
    obtain ⟨t1, e1⟩ := mt_some x (by omega) k (by omega)
    obtain ⟨t2, e2⟩ := mt_some (x + 1) (by omega) k (by omega)
    obtain ⟨t3, e3⟩ := mt_some (x + 1 + 1) (by omega) k (by omega)
    obtain ⟨t4, e4⟩ := mt_some (x + 1 + 1 + 1) (by omega) k (by omega)
    have w1 : wrap64 ((x : Int) + 1) = ((x + 1 : Nat) : Int) := by rw [w64 (by omega) (by omega)]; omega
    have w2 : wrap64 (((x + 1 : Nat) : Int) + 1) = ((x + 1 + 1 : Nat) : Int) := by rw [w64 (by omega) (by omega)]; omega
    have w3 : wrap64 (((x + 1 + 1 : Nat) : Int) + 1) = ((x + 1 + 1 + 1 : Nat) : Int) := by rw [w64 (by omega) (by omega)]; omega
    have w4 : wrap64 (((x + 1 + 1 + 1 : Nat) : Int) + 1) = ((x + 1 + 1 + 1 + 1 : Nat) : Int) := by rw [w64 (by omega) (by omega)]; omega
    rw [laws_markRuleS.l0, if_pos (lt' hi), e1, Option.bind_some, if_pos (nn i), Option.bind_some, w1, e2, Option.bind_some, Option.bind_some, w2, e3, Option.bind_some, Option.bind_some, w3, e4, Option.bind_some, w4, up hi (by omega)]
    exact ih k _ _ (i + 1) (by simp only [List.length_set]; omega) (by omega) (by omega) (by simp only [List.length_set]; exact hl)
theorem mr_some (l : List SI) (hl : l.length ≤ 1048576) (k : Nat) (hk : 1048600 ≤ k) : ∃ r zs, laws_markRuleS.f k l 1 = some (r, zs) ∧ ¬ r < 0 := by
  obtain ⟨r, zs, h1, h2⟩ := mrl l.length k 1 l 0 (by omega) (by omega) (by omega) hl
  exact ⟨r, zs, h1, by omega⟩
theorem rdN_at {l : List Int} {i : Nat} (h : i < l.length) : rd l (i : Int) = l[i]'h := by
  unfold rd
  rw [Int.toNat_natCast, List.getD_eq_getElem?_getD, List.getElem?_eq_getElem h]; rfl
def rB (x : SI) : Bool := ruleB x.f0 x.f1 x.f2 x.f3
theorem rules_s (l : List SI) (ho : ∀ x ∈ l, okR x) (d : Nat) : ∀ (k i : Nat), i + d = l.length → 2 * d + 8388630 < k → spec_l07Rules.l0 k l (i : Int) = some (decide (l.length ≤ 48) && (l.drop i).all rB) := by
  induction d with
  | zero =>
    intro k i h1 hk
    obtain ⟨k, rfl⟩ : ∃ m, k = m + 1 + 1 := ⟨k - 2, by omega⟩
    rw [spec_l07Rules.l0, if_neg (nlt (by omega)), spec_l07Rules.j1, if_neg Bool.false_ne_true, List.drop_of_length_le (by omega), List.all_nil, Bool.and_true]
    congr 1
    rw [decide_eq_decide]; omega
  | succ d ih =>
    intro k i h1 hk
    obtain ⟨k, rfl⟩ : ∃ m, k = m + 1 + 1 := ⟨k - 2, by omega⟩
    have hi : i < l.length := by omega
    obtain ⟨o1, o2, o3, o4⟩ := ho _ (List.getElem_mem hi)
    rw [spec_l07Rules.l0, if_pos (lt' hi)]
    by_cases c : (l.length : Int) ≤ 48
    · have hr := rule_s (l[i]'hi).f0 (l[i]'hi).f1 (l[i]'hi).f2 (l[i]'hi).f3 (by omega) (by omega) (by omega) (by omega) k (by omega)
      have hr' : spec_l07Rule.f k [l[i]'hi] = some (rB (l[i]'hi)) := hr
      rw [decide_eq_true c, spec_l07Rules.j1, if_pos rfl, if_pos (nn i), if_pos (lt' hi), rdI_at hi, hr', Option.bind_some, List.drop_eq_getElem_cons hi, List.all_cons, up hi (by omega)]
      by_cases x : rB (l[i]'hi) = true
      · rw [if_pos x, ih k (i + 1) (by omega) (by omega), x, Bool.true_and]
      · rw [if_neg x]
        rw [Bool.not_eq_true] at x
        rw [x, Bool.false_and, Bool.and_false]
    · rw [decide_eq_false c, spec_l07Rules.j1, if_neg Bool.false_ne_true, decide_eq_false c, decide_eq_false (by omega), Bool.false_and]
def rulesB (l : List SI) : Bool := decide (l.length ≤ 48) && l.all rB
theorem rules_f (l : List SI) (hl : l.length ≤ 1048576) (ho : ∀ x ∈ l, okR x) (k : Nat) (hk : 12000000 < k) : spec_l07Rules.f k l = some (rulesB l) := rules_s l ho l.length k 0 (by omega) (by omega)
theorem ixR (l : List SI) (hl : l.length ≤ 1048576) (ho : ∀ x ∈ l, okR x) (d : Nat) : ∀ (k i : Nat), i + d = l.length → d + 8388630 < k →
    ∃ r : Int, slices_IndexFunc_v_impl_areRules_1.l0 k l (l.length : Int) (i : Int) = some r ∧ (0 ≤ r ↔ (l.drop i).all rB = false) := by
  induction d with
  | zero =>
    intro k i h1 hk
    obtain ⟨k, rfl⟩ : ∃ m, k = m + 1 := ⟨k - 1, by omega⟩
    rw [slices_IndexFunc_v_impl_areRules_1.l0, if_neg (nlt (by omega)), List.drop_of_length_le (by omega), List.all_nil]
    exact ⟨-1, rfl, by simp⟩
  | succ d ih =>
    intro k i h1 hk
    obtain ⟨k, rfl⟩ : ∃ m, k = m + 1 := ⟨k - 1, by omega⟩
    have hi : i < l.length := by omega
    obtain ⟨o1, o2, o3, o4⟩ := ho _ (List.getElem_mem hi)
    have hr : impl_areRules_1.f k (l[i]'hi).f0 (l[i]'hi).f1 (l[i]'hi).f2 (l[i]'hi).f3 = some (!rB (l[i]'hi)) := by
      unfold impl_areRules_1.f
      rw [rule_i _ _ _ _ (by omega) (by omega) (by omega) (by omega) k (by omega)]; rfl
    have e1 := up hi (by omega)
    obtain ⟨r, h3, h4⟩ := ih k (i + 1) (by omega) (by omega)
    rw [slices_IndexFunc_v_impl_areRules_1.l0, if_pos (lt' hi), if_pos (nn i), if_pos (lt' hi), rdI_at hi, hr, Option.bind_some, List.drop_eq_getElem_cons hi, List.all_cons]
    by_cases h : rB (l[i]'hi) = true
    · rw [h, if_neg (by simp), e1, Bool.true_and]
      exact ⟨r, h3, h4⟩
    · rw [Bool.not_eq_true] at h
      rw [h, if_pos (show (!false) = true from rfl), Bool.false_and]
      exact ⟨(i : Int), rfl, by simp⟩
theorem areRules_f (l : List SI) (hl : l.length ≤ 1048576) (ho : ∀ x ∈ l, okR x) (k : Nat) (hk : 12000000 < k) : impl_areRules.f k l = some (rulesB l) := by
  unfold impl_areRules.f rulesB
  by_cases c : (l.length : Int) ≤ 48
  · obtain ⟨r, hr, hr2⟩ := ixR l hl ho l.length k 0 (by omega) (by omega)
    have hr' : slices_IndexFunc_v_impl_areRules_1.l0 k l (l.length : Int) 0 = some r := hr
    rw [List.drop_zero] at hr2
    rw [if_pos c, decide_eq_true (by omega), Bool.true_and]
    unfold slices_ContainsFunc_v_impl_areRules_1.f slices_IndexFunc_v_impl_areRules_1.f
    rw [hr', Option.bind_some, Option.bind_some]
    cases hx : l.all rB with
    | true =>
      rw [hx] at hr2
      rw [decide_eq_false (fun e => by cases hr2.1 e)]; rfl
    | false =>
      rw [hx] at hr2
      rw [decide_eq_true (hr2.2 rfl)]; rfl
  · rw [if_neg c, decide_eq_false (by omega), Bool.false_and]
def vow (b : UInt8) : Bool := b == 97 || b == 101 || b == 105 || b == 111 || b == 117 || b == 121
theorem vow_s0 : ∀ n : Fin 256, spec_l07Vowel.f (n.1 : Int) = some (vow (UInt8.ofNat n.1)) := by decide +kernel
theorem vow_i0 : ∀ n : Fin 256, impl_isVowel.f (n.1 : Int) = some (vow (UInt8.ofNat n.1)) := by decide +kernel
theorem vow_s (b : UInt8) : spec_l07Vowel.f (b.toNat : Int) = some (vow b) := by
  have := vow_s0 ⟨b.toNat, UInt8.toNat_lt b⟩
  rwa [show UInt8.ofNat b.toNat = b from UInt8.ofNat_toNat] at this
theorem vow_i (b : UInt8) : impl_isVowel.f (b.toNat : Int) = some (vow b) := by
  have := vow_i0 ⟨b.toNat, UInt8.toNat_lt b⟩
  rwa [show UInt8.ofNat b.toNat = b from UInt8.ofNat_toNat] at this
def sgn (s b : UInt8) : Bool := if s = 86 then vow b else if s = 67 then !vow b else b == s
theorem sgn_s (s b : UInt8) : spec_l07Sign.f (s.toNat : Int) (b.toNat : Int) = some (sgn s b) := by
  have q1 : (((s).toNat : Nat) : Int) = 86 ↔ s = 86 := eqb s 86 (by decide)
  have q2 : (((s).toNat : Nat) : Int) = 67 ↔ s = 67 := eqb s 67 (by decide)
  unfold spec_l07Sign.f sgn
  by_cases c1 : s = 86
  · rw [if_pos (q1.2 c1), if_pos c1, vow_s]; rfl
  · rw [if_neg (fun h => c1 (q1.1 h)), if_neg c1]
    by_cases c2 : s = 67
    · rw [if_pos (q2.2 c2), if_pos c2, vow_s]; rfl
    · rw [if_neg (fun h => c2 (q2.1 h)), if_neg c2]
      congr 1
      by_cases e : b = s
      · rw [e]; simp
      · rw [beq_eq_false_iff_ne.2 e, beq_eq_false_iff_ne]
        exact fun h => e (u8_eq h).symm
theorem sgn_i (k : Nat) (w : ByteArray) (e : Nat) (he : e < w.size) (s : UInt8) : impl_matchesSign.f (k + 1) (s.toNat : Int) w (e : Int) = some (sgn s (w.data.toList[e]'he)) := by
  have q1 : (((s).toNat : Nat) : Int) = 86 ↔ s = 86 := eqb s 86 (by decide)
  have q2 : (((s).toNat : Nat) : Int) = 67 ↔ s = 67 := eqb s 67 (by decide)
  have hb := bt_nat w e he
  have b1 : ¬ ((e : Int) < 0) := by omega
  have b2 : decide ((e : Int) ≥ (w.size : Int)) = false := decide_eq_false (by omega)
  have b3 : (0 : Int) ≤ (e : Int) := by omega
  have b4 : (e : Int) < (w.size : Int) := by omega
  unfold impl_matchesSign.f
  rw [if_neg b1, b2, impl_matchesSign.j0, if_neg Bool.false_ne_true, if_pos b3, if_pos b4, if_pos b3, if_pos b4, if_pos b3, if_pos b4, hb, vow_i]
  generalize (w.data.toList[e]'he) = b
  unfold sgn
  by_cases c1 : s = 86
  · rw [if_pos (q1.2 c1), if_pos c1]; rfl
  · rw [if_neg (fun h => c1 (q1.1 h)), if_neg c1]
    by_cases c2 : s = 67
    · rw [if_pos (q2.2 c2), if_pos c2]; rfl
    · rw [if_neg (fun h => c2 (q2.1 h)), if_neg c2]
      congr 1
      by_cases e : b = s
      · rw [e]; simp
      · rw [beq_eq_false_iff_ne.2 e, beq_eq_false_iff_ne]
        exact fun h => e (u8_eq h)
theorem sgn_out (k : Nat) (w : ByteArray) (e : Int) (he : e < 0 ∨ (w.size : Int) ≤ e) (s : Int) : impl_matchesSign.f (k + 1) s w e = some false := by
  unfold impl_matchesSign.f
  by_cases c : e < 0
  · rw [if_pos c, impl_matchesSign.j0, if_pos rfl]
  · rw [if_neg c, decide_eq_true (he.resolve_left c), impl_matchesSign.j0, if_pos rfl]
def mat : List UInt8 → List UInt8 → Bool
  | [], _ => true
  | s :: ss, r => if s = 45 then (r.isEmpty && mat ss r) else match r with | [] => false | b :: r' => sgn s b && mat ss r'
theorem mat_dash (ss r : List UInt8) : mat (45 :: ss) r = (r.isEmpty && mat ss r) := by cases r <;> simp [mat]
theorem mat_nil {s : UInt8} (h : s ≠ 45) (ss : List UInt8) : mat (s :: ss) [] = false := by simp [mat, h]
theorem mat_cons {s : UInt8} (h : s ≠ 45) (ss : List UInt8) (b : UInt8) (r : List UInt8) : mat (s :: ss) (b :: r) = (sgn s b && mat ss r) := by simp [mat, h]
theorem rev_take {l : List UInt8} {j : Nat} (h : j < l.length) : (l.take (j + 1)).reverse = l[j] :: (l.take j).reverse := by
  rw [List.take_succ_eq_append_getElem h, List.reverse_append]; rfl
abbrev RI := S26
section
variable (b l a s w : ByteArray)
theorem mB_s (hb : b.size ≤ 4194303) (hw : w.size ≤ 4194303) (j : Nat) : ∀ (k e : Nat), j ≤ b.size → e ≤ w.size → j < k →
    spec_l07Matches.l1 k [(⟨b, l, a, s⟩ : RI)] w (e : Int) ((j : Int) - 1) = some (mat (b.data.toList.take j).reverse (w.data.toList.take e).reverse) := by
  have hr : rd_T26 [(⟨b, l, a, s⟩ : RI)] 0 = ⟨b, l, a, s⟩ := rfl
  have hl1 : (0 : Int) < (([(⟨b, l, a, s⟩ : RI)] : List RI).length : Int) := by show (0 : Int) < 1; decide
  induction j with
  | zero =>
    intro k e hj he hk
    obtain ⟨k, rfl⟩ : ∃ m, k = m + 1 := ⟨k - 1, by omega⟩
    rw [spec_l07Matches.l1, if_neg (by omega), List.take_zero]; rfl
  | succ j ih =>
    intro k e hj he hk
    obtain ⟨k, rfl⟩ : ∃ m, k = m + 1 := ⟨k - 1, by omega⟩
    have hj' : j < b.size := by omega
    have g1 : j < k := by omega
    have g3 : j ≤ 4194304 := by omega
    have e0 := sub1 j
    have e1 := dn g3
    have hbt := bt_nat b j hj'
    have q : ((((b.data.toList[j]'hj')).toNat : Nat) : Int) = 45 ↔ (b.data.toList[j]'hj') = 45 := eqb (b.data.toList[j]'hj') 45 (by decide)
    have c1 : (j : Int) ≥ 0 := nn j
    have c2 := nn j
    have c3 := lt' hj'
    rw [spec_l07Matches.l1, e0, if_pos c1, if_pos hl1, hr, if_pos c2]
    dsimp only
    rw [if_pos c3, hbt, rev_take hj', e1]
    by_cases d : (b.data.toList[j]'hj') = 45
    · rw [if_pos (q.2 d), d, mat_dash]
      by_cases z : e = 0
      · subst z
        rw [if_pos (show (((0 : Nat) : Int)) = 0 from rfl)]
        exact ih k 0 (Nat.le_of_lt hj') (Nat.zero_le _) g1
      · have z2 : ¬ ((e : Int) = 0) := ne' (b := 0) z
        rw [if_neg z2]
        have : (w.data.toList.take e).reverse.isEmpty = false := take_pos z he
        rw [this, Bool.false_and]
    · rw [if_neg (fun h => d (q.1 h))]
      by_cases z : e = 0
      · subst z
        rw [if_pos (show (((0 : Nat) : Int)) = 0 from rfl), List.take_zero, List.reverse_nil, mat_nil d]
      · obtain ⟨e, rfl⟩ : ∃ m, e = m + 1 := Nat.exists_eq_succ_of_ne_zero z
        have he' : e < w.size := he
        have he4 : e ≤ 4194304 := Nat.le_trans (Nat.le_of_lt he') (Nat.le_trans hw (by decide))
        have z2 : ¬ (((e + 1 : Nat) : Int) = 0) := ne' (b := 0) z
        have e3 := dn1 he4
        have c4 := nn e
        have c5 := lt' he'
        rw [if_neg z2, e3, if_pos c4, if_pos c5, bt_nat w e he', sgn_s, Option.bind_some, rev_take he', mat_cons d]
        by_cases y : sgn (b.data.toList[j]'hj') (w.data.toList[e]'he') = true
        · rw [if_pos y, y, Bool.true_and]
          exact ih k e (Nat.le_of_lt hj') (Nat.le_of_lt he') g1
        · rw [if_neg y]
          rw [Bool.not_eq_true] at y
          rw [y, Bool.false_and]
theorem mA_s (hb : b.size ≤ 4194303) (ha : a.size ≤ 4194303) (hw : w.size ≤ 4194303) (p : Nat) (hp : p ≤ w.size) (d : Nat) : ∀ (k e i : Nat), i + d = a.size → e ≤ w.size → d + b.size + 1 < k →
    spec_l07Matches.l0 k [(⟨b, l, a, s⟩ : RI)] w (p : Int) (e : Int) (i : Int) = some (mat (a.data.toList.drop i) (w.data.toList.drop e) && mat b.data.toList.reverse (w.data.toList.take p).reverse) := by
  have hr : rd_T26 [(⟨b, l, a, s⟩ : RI)] 0 = ⟨b, l, a, s⟩ := rfl
  have hl1 : (0 : Int) < (([(⟨b, l, a, s⟩ : RI)] : List RI).length : Int) := by show (0 : Int) < 1; decide
  induction d with
  | zero =>
    intro k e i hi he hk
    obtain ⟨k, rfl⟩ : ∃ m, k = m + 1 := ⟨k - 1, by omega⟩
    have hB := mB_s b l a s w hb hw b.size k p (Nat.le_refl _) hp (by omega)
    rw [List.take_of_length_le (Nat.le_of_eq (size_list b))] at hB
    have e1 := dn (j := b.size) (by omega)
    rw [spec_l07Matches.l0, if_pos hl1, hr]
    dsimp only
    rw [if_neg (nlt (Nat.le_of_eq (show a.size = i from hi.symm))), e1, hB, List.drop_of_length_le (by rw [size_list]; exact Nat.le_of_eq hi.symm)]
    rfl
  | succ d ih =>
    intro k e i hi he hk
    obtain ⟨k, rfl⟩ : ∃ m, k = m + 1 := ⟨k - 1, by omega⟩
    have hi' : i < a.size := by omega
    have g1 : i + 1 + d = a.size := by omega
    have g2 : d + b.size + 1 < k := by omega
    have ha4 : a.size ≤ 4194304 := by omega
    have hw4 : w.size ≤ 4194304 := by omega
    have e1 := up hi' ha4
    have hbt := bt_nat a i hi'
    have q : ((((a.data.toList[i]'hi')).toNat : Nat) : Int) = 45 ↔ (a.data.toList[i]'hi') = 45 := eqb (a.data.toList[i]'hi') 45 (by decide)
    have hd : a.data.toList.drop i = (a.data.toList[i]'hi') :: a.data.toList.drop (i + 1) := List.drop_eq_getElem_cons hi'
    have c2 := nn i
    have c3 := lt' hi'
    rw [spec_l07Matches.l0, if_pos hl1, hr]
    dsimp only
    rw [if_pos c3, if_pos c2, hbt, e1, hd]
    by_cases z : e = w.size
    · have hnil : w.data.toList.drop e = [] := List.drop_of_length_le (by rw [size_list, z]; exact Nat.le_refl _)
      have hez : (e : Int) = (w.size : Int) := by rw [z]
      have hge : (e : Int) ≥ (w.size : Int) := by rw [z]; exact Int.le_refl _
      rw [hnil]
      by_cases x : (a.data.toList[i]'hi') = 45
      · have ih1 := ih k e (i + 1) g1 he g2
        rw [hnil] at ih1
        rw [if_pos (q.2 x), x, mat_dash, if_pos hez, ih1]; rfl
      · rw [if_neg (fun h => x (q.1 h)), mat_nil x, if_pos hge]; rfl
    · have he' : e < w.size := Nat.lt_of_le_of_ne he z
      have hcons : w.data.toList.drop e = (w.data.toList[e]'he') :: w.data.toList.drop (e + 1) := List.drop_eq_getElem_cons he'
      rw [hcons]
      by_cases x : (a.data.toList[i]'hi') = 45
      · rw [if_pos (q.2 x), x, mat_dash, if_neg (ne' z)]; rfl
      · have e3 := up he' hw4
        have c4 := nn e
        have c5 := lt' he'
        have c6 := nge he'
        rw [if_neg (fun h => x (q.1 h)), mat_cons x, if_neg c6, if_pos c4, if_pos c5, bt_nat w e he', sgn_s, Option.bind_some, e3]
        by_cases y : sgn (a.data.toList[i]'hi') (w.data.toList[e]'he') = true
        · rw [if_pos y, y, Bool.true_and]
          exact ih k (e + 1) (i + 1) g1 he' g2
        · rw [if_neg y]
          rw [Bool.not_eq_true] at y
          rw [y]; rfl
def matB (p : Nat) : Bool := l.data.toList.isPrefixOf (w.data.toList.drop p) && (mat a.data.toList (w.data.toList.drop (p + l.size)) && mat b.data.toList.reverse (w.data.toList.take p).reverse)
theorem pre_iff (x y : List UInt8) : x.isPrefixOf y = decide (x.length ≤ y.length ∧ y.take x.length = x) := by
  rw [Bool.eq_iff_iff, List.isPrefixOf_iff_prefix, decide_eq_true_iff]
  constructor
  · rintro ⟨z, rfl⟩
    exact ⟨by rw [List.length_append]; omega, by rw [List.take_left' rfl]⟩
  · rintro ⟨_, h⟩
    exact ⟨y.drop x.length, by have := List.take_append_drop x.length y; rw [h] at this; exact this⟩
theorem matches_s (hb : b.size ≤ 1048576) (hl : l.size ≤ 1048576) (ha : a.size ≤ 1048576) (hw : w.size ≤ 1048576) (p : Nat) (hp : p ≤ w.size) (k : Nat) (hk : 8388620 < k) : spec_l07Matches.f k [(⟨b, l, a, s⟩ : RI)] w (p : Int) = some (matB b l a w p) := by
  obtain ⟨k, rfl⟩ : ∃ m, k = m + 1 := ⟨k - 1, by omega⟩
  have hr : rd_T26 [(⟨b, l, a, s⟩ : RI)] 0 = ⟨b, l, a, s⟩ := rfl
  have hl1 : (0 : Int) < (([(⟨b, l, a, s⟩ : RI)] : List RI).length : Int) := by show (0 : Int) < 1; decide
  have e1 : wrap64 ((p : Int) + (l.size : Int)) = ((p + l.size : Nat) : Int) := sum (Nat.le_refl _) (by omega)
  unfold spec_l07Matches.f matB
  rw [if_pos hl1, hr]
  dsimp only
  rw [e1, pre_iff, List.length_drop, size_list, size_list]
  by_cases c : ((p + l.size : Nat) : Int) > (w.size : Int)
  · rw [if_pos c, spec_l07Matches.j0, if_pos rfl, decide_eq_false (by omega), Bool.false_and]
  · have hA := mA_s b l a s w (by omega) (by omega) (by omega) p hp a.size k (p + l.size) 0 (by omega) (by omega) (by omega)
    rw [show (((0 : Nat) : Int)) = 0 from rfl, List.drop_zero] at hA
    rw [if_neg c, if_pos (by omega), if_pos (by omega), if_pos (by omega), Int.toNat_natCast, Int.toNat_natCast, spec_l07Matches.j0, hA]
    have hx : (w.extract p (p + l.size)).toList = (w.data.toList.drop p).take l.size := by
      rw [Go.Lib.extract_toList, Nat.add_sub_cancel_left]
    rw [hx, ByteArray.toList_eq]
    by_cases y : (w.data.toList.drop p).take l.size = l.data.toList
    · rw [if_neg (by rw [y]; simp), decide_eq_true ⟨by omega, y⟩, Bool.true_and]
    · rw [if_pos (by simpa using y), decide_eq_false (fun h => y h.2), Bool.false_and]
theorem mB_i (hb : b.size ≤ 4194303) (hw : w.size ≤ 4194303) (j : Nat) : ∀ (k e : Nat), j ≤ b.size → e ≤ w.size → 2 * j + 1 < k →
    impl_matchesAt.l1 k w ((e : Int) - 1) ((j : Int) - 1) b l a s = some (mat (b.data.toList.take j).reverse (w.data.toList.take e).reverse) := by
  induction j with
  | zero =>
    intro k e hj he hk
    obtain ⟨k, rfl⟩ : ∃ m, k = m + 1 := ⟨k - 1, by omega⟩
    rw [impl_matchesAt.l1, if_neg (by omega), List.take_zero]; rfl
  | succ j ih =>
    intro k e hj he hk
    obtain ⟨k, rfl⟩ : ∃ m, k = m + 1 + 1 := ⟨k - 2, by omega⟩
    obtain ⟨k, rfl⟩ : ∃ m, k = m + 1 := ⟨k - 1, by omega⟩
    have hj' : j < b.size := by omega
    have g1 : 2 * j + 1 < k + 1 := by omega
    have g3 : j ≤ 4194304 := by omega
    have e0 := sub1 j
    have e1 := dn g3
    have hbt := bt_nat b j hj'
    have q : ((((b.data.toList[j]'hj')).toNat : Nat) : Int) = 45 ↔ (b.data.toList[j]'hj') = 45 := eqb (b.data.toList[j]'hj') 45 (by decide)
    have c1 : (j : Int) ≥ 0 := nn j
    have c2 := nn j
    have c3 := lt' hj'
    rw [impl_matchesAt.l1, e0, if_pos c1, if_pos c2, if_pos c3, hbt, rev_take hj']
    by_cases d : (b.data.toList[j]'hj') = 45
    · rw [if_pos (q.2 d), d, mat_dash]
      by_cases z : e = 0
      · subst z
        rw [decide_eq_true (show (((0 : Nat) : Int) - 1) < 0 by decide), impl_matchesAt.j3, if_pos rfl, e1]
        exact ih (k + 1) 0 (Nat.le_of_lt hj') (Nat.zero_le _) g1
      · have : (w.data.toList.take e).reverse.isEmpty = false := take_pos z he
        rw [decide_eq_false (nlt1 z), impl_matchesAt.j3, if_neg Bool.false_ne_true, if_pos c2, if_pos c3, hbt, if_pos (q.2 d), this, Bool.false_and]
    · rw [if_neg (fun h => d (q.1 h)), impl_matchesAt.j3, if_neg Bool.false_ne_true, if_pos c2, if_pos c3, hbt, if_neg (fun h => d (q.1 h))]
      by_cases z : e = 0
      · subst z
        rw [sgn_out k w _ (.inl (show (((0 : Nat) : Int) - 1) < 0 by decide)) _, Option.bind_some, if_neg Bool.false_ne_true, List.take_zero, List.reverse_nil, mat_nil d]
      · obtain ⟨e, rfl⟩ : ∃ m, e = m + 1 := Nat.exists_eq_succ_of_ne_zero z
        have he' : e < w.size := he
        have he4 : e ≤ 4194304 := Nat.le_trans (Nat.le_of_lt he') (Nat.le_trans hw (by decide))
        have e3 := sub1 e
        have e4 := dn he4
        rw [e3, sgn_i k w e he', Option.bind_some, rev_take he', mat_cons d, e1, e4]
        by_cases y : sgn (b.data.toList[j]'hj') (w.data.toList[e]'he') = true
        · rw [if_pos y, y, Bool.true_and]
          exact ih (k + 1) e (Nat.le_of_lt hj') (Nat.le_of_lt he') g1
        · rw [if_neg y]
          rw [Bool.not_eq_true] at y
          rw [y, Bool.false_and]
theorem mA_i (hb : b.size ≤ 4194303) (ha : a.size ≤ 4194303) (hw : w.size ≤ 4194303) (p : Nat) (hp : p ≤ w.size) (d : Nat) : ∀ (k e i : Nat), i + d = a.size → e ≤ w.size → 2 * d + 2 * b.size + 3 < k →
    impl_matchesAt.l0 k w (p : Int) (e : Int) (a.size : Int) (i : Int) b l a s = some (mat (a.data.toList.drop i) (w.data.toList.drop e) && mat b.data.toList.reverse (w.data.toList.take p).reverse) := by
  induction d with
  | zero =>
    intro k e i hi he hk
    obtain ⟨k, rfl⟩ : ∃ m, k = m + 1 := ⟨k - 1, by omega⟩
    have hB := mB_i b l a s w hb hw b.size k p (Nat.le_refl _) hp (by omega)
    rw [List.take_of_length_le (Nat.le_of_eq (size_list b))] at hB
    have e1 := dn (j := b.size) (by omega)
    have e2 := dn (j := p) (by omega)
    rw [impl_matchesAt.l0, if_neg (nlt (Nat.le_of_eq (show a.size = i from hi.symm))), e1, e2, hB, List.drop_of_length_le (by rw [size_list]; exact Nat.le_of_eq hi.symm)]
    rfl
  | succ d ih =>
    intro k e i hi he hk
    obtain ⟨k, rfl⟩ : ∃ m, k = m + 1 + 1 := ⟨k - 2, by omega⟩
    obtain ⟨k, rfl⟩ : ∃ m, k = m + 1 := ⟨k - 1, by omega⟩
    have hi' : i < a.size := by omega
    have g1 : i + 1 + d = a.size := by omega
    have g2 : 2 * d + 2 * b.size + 3 < k + 1 := by omega
    have ha4 : a.size ≤ 4194304 := by omega
    have hw4 : w.size ≤ 4194304 := by omega
    have e1 := up hi' ha4
    have hbt := bt_nat a i hi'
    have q : ((((a.data.toList[i]'hi')).toNat : Nat) : Int) = 45 ↔ (a.data.toList[i]'hi') = 45 := eqb (a.data.toList[i]'hi') 45 (by decide)
    have hd : a.data.toList.drop i = (a.data.toList[i]'hi') :: a.data.toList.drop (i + 1) := List.drop_eq_getElem_cons hi'
    have c2 := nn i
    have c3 := lt' hi'
    rw [impl_matchesAt.l0, if_pos c3, if_pos c2, if_pos c3, hbt, hd]
    by_cases z : e = w.size
    · have hnil : w.data.toList.drop e = [] := List.drop_of_length_le (by rw [size_list, z]; exact Nat.le_refl _)
      have hez : (e : Int) = (w.size : Int) := by rw [z]
      have hge : (e : Int) ≥ (w.size : Int) := by rw [z]; exact Int.le_refl _
      rw [hnil]
      by_cases x : (a.data.toList[i]'hi') = 45
      · have ih1 := ih (k + 1) e (i + 1) g1 he g2
        rw [hnil] at ih1
        rw [if_pos (q.2 x), x, mat_dash, show ((e : Int) == (w.size : Int)) = true by rw [z]; simp, impl_matchesAt.j1, if_pos rfl, e1, ih1]; rfl
      · rw [if_neg (fun h => x (q.1 h)), mat_nil x, impl_matchesAt.j1, if_neg Bool.false_ne_true, if_pos c2, if_pos c3, hbt, if_neg (fun h => x (q.1 h)), sgn_out k w _ (.inr hge) _, Option.bind_some, if_neg Bool.false_ne_true]; rfl
    · have he' : e < w.size := Nat.lt_of_le_of_ne he z
      have hcons : w.data.toList.drop e = (w.data.toList[e]'he') :: w.data.toList.drop (e + 1) := List.drop_eq_getElem_cons he'
      rw [hcons]
      by_cases x : (a.data.toList[i]'hi') = 45
      · have hne : ((e : Int) == (w.size : Int)) = false := beq_eq_false_iff_ne.2 (ne' z)
        rw [if_pos (q.2 x), x, mat_dash, hne, impl_matchesAt.j1, if_neg Bool.false_ne_true, if_pos c2, if_pos c3, hbt, if_pos (q.2 x)]; rfl
      · have e3 := up he' hw4
        rw [if_neg (fun h => x (q.1 h)), mat_cons x, impl_matchesAt.j1, if_neg Bool.false_ne_true, if_pos c2, if_pos c3, hbt, if_neg (fun h => x (q.1 h)), sgn_i k w e he', Option.bind_some, e3, e1]
        by_cases y : sgn (a.data.toList[i]'hi') (w.data.toList[e]'he') = true
        · rw [if_pos y, y, Bool.true_and]
          exact ih (k + 1) (e + 1) (i + 1) g1 he' g2
        · rw [if_neg y]
          rw [Bool.not_eq_true] at y
          rw [y]; rfl
theorem matches_i (hb : b.size ≤ 1048576) (hl : l.size ≤ 1048576) (ha : a.size ≤ 1048576) (hw : w.size ≤ 1048576) (p : Nat) (hp : p ≤ w.size) (k : Nat) (hk : 8388620 < k) : impl_matchesAt.f k b l a s w (p : Int) = some (matB b l a w p) := by
  have e1 : wrap64 ((p : Int) + (l.size : Int)) = ((p + l.size : Nat) : Int) := sum (Nat.le_refl _) (by omega)
  have hsz : (w.extract p w.size).size = w.size - p := by rw [ByteArray.size_extract]; omega
  have hP : strings_HasPrefix.f (w.extract p w.size) l = some (l.data.toList.isPrefixOf (w.data.toList.drop p)) := by
    unfold strings_HasPrefix.f stringslite_HasPrefix.f
    rw [pre_iff, List.length_drop, size_list, size_list]
    by_cases c : ((w.extract p w.size).size : Int) ≥ (l.size : Int)
    · rw [if_pos c, if_pos (by omega), if_pos c, Option.bind_some, Int.toNat_natCast]
      rw [hsz] at c
      congr 1
      have hx : ((w.extract p w.size).extract 0 l.size).toList = (w.data.toList.drop p).take l.size := by
        rw [Go.Lib.extract_toList, Go.Lib.extract_to_end, List.drop_zero, Nat.sub_zero]
      rw [hx, ByteArray.toList_eq, Bool.eq_iff_iff, beq_iff_eq, decide_eq_true_iff]
      constructor
      · intro h; exact ⟨by omega, h⟩
      · exact fun h => h.2
    · rw [if_neg c, Option.bind_some]
      rw [hsz] at c
      rw [decide_eq_false (by omega)]
  unfold impl_matchesAt.f matB
  rw [if_pos (by omega), if_pos (by omega), Int.toNat_natCast, hP, Option.bind_some, e1]
  by_cases y : l.data.toList.isPrefixOf (w.data.toList.drop p) = true
  · rw [if_pos y, y, Bool.true_and]
    rw [pre_iff, decide_eq_true_iff, List.length_drop, size_list, size_list] at y
    have hA := mA_i b l a s w (by omega) (by omega) (by omega) p hp a.size k (p + l.size) 0 (by omega) (by omega) (by omega)
    rw [show (((0 : Nat) : Int)) = 0 from rfl, List.drop_zero] at hA
    exact hA
  · rw [if_neg y]
    rw [Bool.not_eq_true] at y
    rw [y, Bool.false_and]
end
theorem isWordl (s : ByteArray) (hs : s.size ≤ 4194304) (d : Nat) : ∀ (k i : Nat), i + d = s.size → d < k →
    impl_isWord.l0 k s (s.size : Int) (i : Int) = some ((s.data.toList.drop i).all (fun b => decide (97 ≤ b.toNat ∧ b.toNat ≤ 122)) && decide (1 ≤ (s.size : Int) ∧ (s.size : Int) ≤ 24)) := by
  induction d with
  | zero =>
    intro k i h1 hk
    obtain ⟨k, rfl⟩ : ∃ m, k = m + 1 := ⟨k - 1, by omega⟩
    rw [impl_isWord.l0, if_neg (by omega), List.drop_of_length_le (by rw [size_list]; omega)]
    unfold impl_within.f
    by_cases h : (s.size : Int) ≥ 1
    · rw [if_pos h]
      simp only [List.all_nil, Bool.true_and, Option.bind_some]
      congr 1
      rw [decide_eq_decide]; omega
    · rw [if_neg h]
      simp only [List.all_nil, Bool.true_and, Option.bind_some]
      congr 1
      exact (decide_eq_false (by omega)).symm
  | succ d ih =>
    intro k i h1 hk
    obtain ⟨k, rfl⟩ : ∃ m, k = m + 1 := ⟨k - 1, by omega⟩
    have hi : i < s.size := by omega
    have e1 : wrap64 ((i : Int) + 1) = ((i + 1 : Nat) : Int) := by rw [w64 (by omega) (by omega)]; omega
    have hd : s.data.toList.drop i = (s.data.toList[i]'hi) :: s.data.toList.drop (i + 1) := List.drop_eq_getElem_cons hi
    have hL : ∀ c, impl_isLetter.f c = spec_l07Letter.f c := fun _ => rfl
    rw [impl_isWord.l0, if_pos (by omega), if_pos (by omega), if_pos (by omega), bt_nat s i hi, hL, letter_b, Option.bind_some, hd, List.all_cons]
    by_cases h : decide (97 ≤ (s.data.toList[i]'hi).toNat ∧ (s.data.toList[i]'hi).toNat ≤ 122) = true
    · rw [if_pos h, e1, ih k (i + 1) (by omega) (by omega), h, Bool.true_and]
    · rw [if_neg h]
      rw [Bool.not_eq_true] at h
      rw [h, Bool.false_and, Bool.false_and]
def wordB (s : ByteArray) : Bool := alph s && decide (1 ≤ (s.size : Int) ∧ (s.size : Int) ≤ 24)
theorem word_i (s : ByteArray) (hs : s.size ≤ 4194304) (k : Nat) (hk : s.size < k) : impl_isWord.f k s = some (wordB s) := isWordl s hs s.size k 0 (by omega) hk
theorem word_s (s : ByteArray) (hs : s.size ≤ 4194304) (k : Nat) (hk : s.size < k) : spec_l07Word.f k s = some (wordB s) := by
  unfold spec_l07Word.f
  rw [letters_f s hs 1 24 k hk]; rfl
abbrev W9 := S9
abbrev W3 := S3
def mR (w : ByteArray) (p : Nat) (x : SI) : Bool := matB x.f0 x.f1 x.f2 w p
def fi (m : SI → Bool) : List SI → Nat → Option Nat
  | [], _ => none
  | x :: xs, i => if m x = true then some i else fi m xs (i + 1)
theorem fi_lt (m : SI → Bool) (l : List SI) (e : Nat) : ∀ (i j : Nat), i + e = l.length → fi m (l.drop i) i = some j → ∃ h : j < l.length, m (l[j]'h) = true := by
  induction e with
  | zero =>
    intro i j h1 h2
    rw [List.drop_of_length_le (by omega), fi] at h2
    cases h2
  | succ e ih =>
    intro i j h1 h2
    have hi : i < l.length := by omega
    rw [List.drop_eq_getElem_cons hi, fi] at h2
    by_cases c : m (l[i]'hi) = true
    · rw [if_pos c] at h2
      cases h2
      exact ⟨hi, c⟩
    · rw [if_neg c] at h2
      exact ih (i + 1) j (by omega) h2
theorem ixF (w : ByteArray) (hw : w.size ≤ 1048576) (p : Nat) (hp : p ≤ w.size) (l : List SI) (hl : l.length ≤ 1048576) (ho : ∀ x ∈ l, okR x) (e : Nat) : ∀ (k i : Nat), i + e = l.length → e + 8388630 < k →
    slices_IndexFunc_v_impl_rulesFor_1.l0 k l (l.length : Int) (i : Int) [(⟨w⟩ : W9)] [(⟨(p : Int)⟩ : W3)] = some (match fi (mR w p) (l.drop i) i with | some j => (j : Int) | none => -1) := by
  induction e with
  | zero =>
    intro k i h1 hk
    obtain ⟨k, rfl⟩ : ∃ m, k = m + 1 := ⟨k - 1, by omega⟩
    rw [slices_IndexFunc_v_impl_rulesFor_1.l0, if_neg (nlt (by omega)), List.drop_of_length_le (by omega)]
    rfl
  | succ e ih =>
    intro k i h1 hk
    obtain ⟨k, rfl⟩ : ∃ m, k = m + 1 := ⟨k - 1, by omega⟩
    have hi : i < l.length := by omega
    obtain ⟨o1, o2, o3, o4⟩ := ho _ (List.getElem_mem hi)
    have e1 := up hi (by omega)
    have hr : impl_rulesFor_1.f k (l[i]'hi).f0 (l[i]'hi).f1 (l[i]'hi).f2 (l[i]'hi).f3 [(⟨w⟩ : W9)] [(⟨(p : Int)⟩ : W3)] = some (mR w p (l[i]'hi)) := by
      have hm := matches_i (l[i]'hi).f0 (l[i]'hi).f1 (l[i]'hi).f2 (l[i]'hi).f3 w o1 o2 o3 hw p hp k (by omega)
      unfold impl_rulesFor_1.f
      rw [if_pos (show (0 : Int) < (([(⟨w⟩ : W9)] : List W9).length : Int) by show (0 : Int) < 1; decide), if_pos (show (0 : Int) < (([(⟨(p : Int)⟩ : W3)] : List W3).length : Int) by show (0 : Int) < 1; decide)]
      rw [show (rd_T9 [(⟨w⟩ : W9)] 0).f0 = w from rfl, show (rd_T3 [(⟨(p : Int)⟩ : W3)] 0).f0 = (p : Int) from rfl, hm]
      rfl
    rw [slices_IndexFunc_v_impl_rulesFor_1.l0, if_pos (lt' hi), if_pos (nn i), if_pos (lt' hi), rdI_at hi, hr, Option.bind_some, List.drop_eq_getElem_cons hi, fi]
    by_cases c : mR w p (l[i]'hi) = true
    · rw [if_pos c, if_pos c]
    · rw [if_neg c, if_neg c, e1]
      exact ih k (i + 1) (by omega) (by omega)
theorem inF (w : ByteArray) (hw : w.size ≤ 1048576) (p : Nat) (hp : p ≤ w.size) (l : List SI) (hl : l.length ≤ 1048576) (ho : ∀ x ∈ l, okR x) (x6 : List Int) (e : Nat) : ∀ (k i : Nat), i + e = l.length → 2 * e + 8388640 < k →
    ∃ k', k ≤ k' + 2 * e + 2 ∧ spec_l07For.l1 k l w x6 (p : Int) (-1) (i : Int) = (match fi (mR w p) (l.drop i) i with
      | some j => if x6.length < 17592186044416 then spec_l07For.l0 k' l w (x6 ++ [(j : Int)]) (wrap64 ((p : Int) + (((rd_T26 l (j : Int)).f1).size : Int))) else none
      | none => some ([], false)) := by
  induction e with
  | zero =>
    intro k i h1 hk
    obtain ⟨k, rfl⟩ : ∃ m, k = m + 1 + 1 := ⟨k - 2, by omega⟩
    refine ⟨k, by omega, ?_⟩
    rw [spec_l07For.l1, if_neg (nlt (by omega)), spec_l07For.j2, if_neg Bool.false_ne_true, if_pos (by decide), List.drop_of_length_le (by omega)]
    rfl
  | succ e ih =>
    intro k i h1 hk
    obtain ⟨k, rfl⟩ : ∃ m, k = m + 1 + 1 + 1 + 1 := ⟨k - 4, by omega⟩
    have hi : i < l.length := by omega
    have hA : k + 1 + 1 + 1 + 1 ≤ k + 2 * (e + 1) + 2 := by omega
    have hk2 : 8388620 < k + 1 + 1 := by omega
    obtain ⟨k', h2, h3⟩ := ih (k + 1 + 1) (i + 1) (by omega) (by omega)
    have hB : k + 1 + 1 + 1 + 1 ≤ k' + 2 * (e + 1) + 2 := by omega
    obtain ⟨o1, o2, o3, o4⟩ := ho _ (List.getElem_mem hi)
    clear ih hk h1 h2
    have n0 : ¬ ((i : Int) < 0) := Int.not_lt.mpr (nn i)
    have e1 := up hi (Nat.le_trans hl (by decide))
    have hm : spec_l07Matches.f (k + 1 + 1) [l[i]'hi] w (p : Int) = some (mR w p (l[i]'hi)) := matches_s (l[i]'hi).f0 (l[i]'hi).f1 (l[i]'hi).f2 (l[i]'hi).f3 w o1 o2 o3 hw p hp (k + 1 + 1) hk2
    have hd : decide ((-1 : Int) < 0) = true := rfl
    rw [spec_l07For.l1, if_pos (lt' hi), hd, spec_l07For.j2, if_pos rfl, if_pos (nn i), if_pos (lt' hi), rdI_at hi, hm, Option.bind_some, List.drop_eq_getElem_cons hi, fi]
    by_cases c : mR w p (l[i]'hi) = true
    · refine ⟨k, hA, ?_⟩
      rw [if_pos c, if_pos c, e1]
      have hj : spec_l07For.j2 (k + 1) l w x6 (p : Int) (i : Int) ((i + 1 : Nat) : Int) false = if x6.length < 17592186044416 then spec_l07For.l0 k l w (x6 ++ [(i : Int)]) (wrap64 ((p : Int) + (((rd_T26 l (i : Int)).f1).size : Int))) else none := by
        rw [spec_l07For.j2, if_neg Bool.false_ne_true, if_neg n0]
        by_cases c2 : x6.length < 17592186044416
        · rw [if_pos c2, if_pos c2, if_pos (nn i), if_pos (lt' hi)]
        · rw [if_neg c2, if_neg c2]
      rw [spec_l07For.l1, decide_eq_false n0]
      dsimp only
      rw [← hj]
      by_cases c3 : ((i + 1 : Nat) : Int) < (l.length : Int)
      · rw [if_pos c3]
      · rw [if_neg c3]
    · refine ⟨k', hB, ?_⟩
      rw [if_neg c, if_neg c, e1]
      exact h3
theorem mR_size {w : ByteArray} {p : Nat} {x : SI} (h : mR w p x = true) (hp : p ≤ w.size) : p + x.f1.size ≤ w.size := by
  unfold mR matB at h
  rw [Bool.and_eq_true, pre_iff, decide_eq_true_iff, List.length_drop, size_list, size_list] at h
  omega
theorem nums (x p w d n k1 k2 k' l : Nat) (hw : w ≤ 24) (hl : l ≤ 48) (hp : p ≤ w) (hd : w ≤ p + (d + 1)) (hx : x ≤ p) (h1 : 200 * (d + 1) + 8388800 < k1 + 1) (h2 : d + 1 + 8388800 < k2 + 1) (h3 : k1 ≤ k' + 2 * l + 2) (z1 : p + n ≤ w) (z2 : 1 ≤ n) :
    x < 17592186044416 ∧ w ≤ p + n + d ∧ x + 1 ≤ p + n ∧ 200 * d + 8388800 < k' ∧ d + 8388800 < k2 := by omega
theorem upn {p n w : Nat} (h : p + n ≤ w) (hw : w ≤ 24) : wrap64 ((p : Int) + (n : Int)) = ((p + n : Nat) : Int) := by rw [w64 (by omega) (by omega)]; omega
theorem for_both (w : ByteArray) (hw : w.size ≤ 24) (l : List SI) (hl : l.length ≤ 48) (ho : ∀ x ∈ l, okR x) (hn : ∀ x ∈ l, 1 ≤ x.f1.size) (d : Nat) : ∀ (k1 k2 : Nat) (x6 : List Int) (p : Nat), p ≤ w.size → w.size ≤ p + d → x6.length ≤ p → 200 * d + 8388800 < k1 → d + 8388800 < k2 →
    ∃ r : List Int × Bool, (r.1.length ≤ 24 ∧ (r.2 = true ∨ r = ([], false)) ∧ ∀ x ∈ r.1, x ∈ x6 ∨ (0 ≤ x ∧ x < (l.length : Int))) ∧ spec_l07For.l0 k1 l w x6 (p : Int) = some r ∧ impl_rulesFor.l0 k2 l x6 w (p : Int) = some r := by
  induction d with
  | zero =>
    intro k1 k2 x6 p hp hd hx h1 h2
    obtain ⟨k1, rfl⟩ : ∃ m, k1 = m + 1 := ⟨k1 - 1, by omega⟩
    obtain ⟨k2, rfl⟩ : ∃ m, k2 = m + 1 := ⟨k2 - 1, by omega⟩
    refine ⟨(x6, true), ⟨by show x6.length ≤ 24; omega, .inl rfl, fun x h => .inl h⟩, ?_, ?_⟩
    · rw [spec_l07For.l0, if_neg (by omega)]
    · rw [impl_rulesFor.l0, if_neg (by omega)]
  | succ d ih =>
    intro k1 k2 x6 p hp hd hx h1 h2
    obtain ⟨k1, rfl⟩ : ∃ m, k1 = m + 1 := ⟨k1 - 1, by omega⟩
    obtain ⟨k2, rfl⟩ : ∃ m, k2 = m + 1 := ⟨k2 - 1, by omega⟩
    by_cases c : (p : Int) < (w.size : Int)
    · obtain ⟨k', h3, h4⟩ := inF w (by omega) p hp l (by omega) ho x6 l.length k1 0 (by omega) (by omega)
      have h5 := ixF w (by omega) p hp l (by omega) ho l.length k2 0 (by omega) (by omega)
      have h4' : spec_l07For.l1 k1 l w x6 (p : Int) (-1) 0 = _ := h4
      have h5' : slices_IndexFunc_v_impl_rulesFor_1.l0 k2 l (l.length : Int) 0 [(⟨w⟩ : W9)] [(⟨(p : Int)⟩ : W3)] = _ := h5
      rw [spec_l07For.l0, if_pos c, h4', impl_rulesFor.l0, if_pos c]
      unfold slices_IndexFunc_v_impl_rulesFor_1.f
      rw [h5', Option.bind_some]
      cases hf : fi (mR w p) (l.drop 0) 0 with
      | none => exact ⟨([], false), ⟨by show 0 ≤ 24; decide, .inr rfl, fun x h => by cases h⟩, rfl, by dsimp only; rw [if_pos (by decide)]⟩
      | some j =>
        obtain ⟨hj, hm⟩ := fi_lt (mR w p) l l.length 0 j (Nat.zero_add _) hf
        have z1 := mR_size hm hp
        have z2 := hn _ (List.getElem_mem hj)
        obtain ⟨n, hnn⟩ : ∃ n, (l[j]'hj).f1.size = n := ⟨_, rfl⟩
        rw [hnn] at z1 z2
        obtain ⟨hx4, g1, g2, g3, g4⟩ := nums x6.length p w.size d n k1 k2 k' l.length hw hl hp hd hx h1 h2 h3 z1 z2
        have g2' : (x6 ++ [(j : Int)]).length ≤ p + n := by rw [List.length_append, List.length_singleton]; exact g2
        obtain ⟨r, ⟨hr1, hr0, hr2⟩, hr3⟩ := ih k' k2 (x6 ++ [(j : Int)]) (p + n) z1 g1 g2' g3 g4
        have e2 : wrap64 ((p : Int) + (n : Int)) = ((p + n : Nat) : Int) := upn z1 hw
        dsimp only
        rw [if_pos hx4, if_neg (Int.not_lt.mpr (nn j)), if_pos hx4, if_pos (nn j), if_pos (lt' hj), rdI_at hj, hnn, e2]
        refine ⟨r, ⟨hr1, hr0, fun x h => ?_⟩, hr3⟩
        rcases hr2 x h with h | h
        · rcases List.mem_append.1 h with h | h
          · exact .inl h
          · rw [List.mem_singleton] at h
            exact .inr ⟨by rw [h]; exact nn j, by rw [h]; exact lt' hj⟩
        · exact .inr h
    · refine ⟨(x6, true), ⟨by show x6.length ≤ 24; omega, .inl rfl, fun x h => .inl h⟩, ?_, ?_⟩
      · rw [spec_l07For.l0, if_neg c]
      · rw [impl_rulesFor.l0, if_neg c]
theorem rB_name {x : SI} (h : rB x = true) : 1 ≤ x.f1.size := by
  unfold rB ruleB nameB at h
  simp only [Bool.and_eq_true, decide_eq_true_eq] at h
  exact h.1.1.2.2.1
theorem wordB_size {w : ByteArray} (h : wordB w = true) : w.size ≤ 24 := by
  unfold wordB at h
  rw [Bool.and_eq_true, decide_eq_true_iff] at h
  omega
theorem eqSl (l : List ByteArray) (hl : l.length ≤ 4194304) (d : Nat) : ∀ (k i : Nat), i + d = l.length → d < k → laws_eqStringS.l0 k l l (i : Int) = some true := by
  induction d with
  | zero =>
    intro k i h1 hk
    obtain ⟨k, rfl⟩ : ∃ m, k = m + 1 := ⟨k - 1, by omega⟩
    rw [laws_eqStringS.l0, if_neg (nlt (by omega))]
  | succ d ih =>
    intro k i h1 hk
    obtain ⟨k, rfl⟩ : ∃ m, k = m + 1 := ⟨k - 1, by omega⟩
    have hi : i < l.length := by omega
    rw [laws_eqStringS.l0, if_pos (lt' hi), if_pos (nn i), if_pos (lt' hi), if_pos rfl, up hi (by omega)]
    exact ih k (i + 1) (by omega) (by omega)
theorem eqSs (l : List ByteArray) (hl : l.length ≤ 4194303) (k : Nat) (hk : 4194304 ≤ k) : laws_eqStringS.f k l l = some true := by
  unfold laws_eqStringS.f
  rw [if_pos rfl]
  exact eqSl l (by omega) l.length k 0 (by omega) (by omega)
def mtx (x : Nat) : ByteArray := (laws_markText.f 9 (x : Int)).getD ⟨#[]⟩
theorem mtx_f (x : Nat) (hx : x < 100000000) (k : Nat) (hk : 9 ≤ k) : laws_markText.f k (x : Int) = some (mtx x) := by
  obtain ⟨t, ht⟩ := mt_some x hx 9 (by decide)
  have h9 : laws_markText.f 9 (x : Int) = some (mtx x) := by unfold mtx; rw [ht]; rfl
  exact at_rounds (g := fun k => laws_markText.f k (x : Int)) (laws_markText.mono (x : Int)) hk h9
def marksS (n : Nat) : List ByteArray := (List.range n).map fun j => mtx (1 + j)
theorem marksS_len (n : Nat) : (marksS n).length = n := by unfold marksS; rw [List.length_map, List.length_range]
theorem marksS_at {n i : Nat} (h : i < n) : (marksS n)[i]? = some (mtx (1 + i)) := by
  unfold marksS
  rw [List.getElem?_map, List.getElem?_range h]; rfl
theorem upm {i n : Nat} (h : i < n) (hn : n ≤ 4194304) : wrap64 (((1 + i : Nat) : Int) + 1) = ((1 + (i + 1) : Nat) : Int) := by rw [w64 (by omega) (by omega)]; omega
theorem markSl (n : Nat) (hn : n ≤ 4194303) (d : Nat) : ∀ (k : Nat) (xs : List ByteArray) (i : Nat), i + d = n → xs.length = n → xs.take i = (marksS n).take i → d + 9 < k →
    laws_markStringS.l0 k xs ((1 + i : Nat) : Int) (i : Int) = some (((1 + n : Nat) : Int), marksS n) := by
  induction d with
  | zero =>
    intro k xs i h1 hl ht hk
    obtain ⟨k, rfl⟩ : ∃ m, k = m + 1 := ⟨k - 1, by omega⟩
    obtain rfl : i = n := by omega
    rw [laws_markStringS.l0, if_neg (nlt (by omega))]
    rw [List.take_of_length_le (by omega), List.take_of_length_le (by rw [marksS_len]; exact Nat.le_refl _)] at ht
    rw [ht]
  | succ d ih =>
    intro k xs i h1 hl ht hk
    obtain ⟨k, rfl⟩ : ∃ m, k = m + 1 := ⟨k - 1, by omega⟩
    have hi : i < n := by omega
    have hix : i < xs.length := by omega
    have hk9 : 9 ≤ k := by omega
    have hx8 : 1 + i < 100000000 := by omega
    have hih := fun ys => ih k ys (i + 1) (by omega)
    have hkd : d + 9 < k := by omega
    have hset := take_set_succ (by rw [marksS_len]; exact hi) (by rw [marksS_len]; exact hl) ht (marksS_at hi)
    rw [laws_markStringS.l0, if_pos (lt' hix), mtx_f (1 + i) hx8 k hk9, Option.bind_some, if_pos (nn i), up hi (Nat.le_trans hn (by decide)), upm hi (Nat.le_trans hn (by decide)), Int.toNat_natCast]
    exact hih _ (by rw [List.length_set]; exact hl) hset hkd
theorem markS_some (l : List ByteArray) (hl : l.length ≤ 4194303) (k : Nat) (hk : l.length + 9 < k) : laws_markStringS.f k l 1 = some (((1 + l.length : Nat) : Int), marksS l.length) :=
  markSl l.length hl l.length k l 0 (by omega) rfl rfl hk
theorem heldSl (n : Nat) (hn : n ≤ 4194303) (d : Nat) : ∀ (k i : Nat), i + d = n → d + 9 < k → laws_heldStringS.l0 k (marksS n) ((1 + i : Nat) : Int) (i : Int) = some ((1 + n : Nat) : Int) := by
  induction d with
  | zero =>
    intro k i h1 hk
    obtain ⟨k, rfl⟩ : ∃ m, k = m + 1 := ⟨k - 1, by omega⟩
    obtain rfl : i = n := by omega
    rw [laws_heldStringS.l0, if_neg (nlt (by rw [marksS_len]; exact Nat.le_refl _))]
  | succ d ih =>
    intro k i h1 hk
    obtain ⟨k, rfl⟩ : ∃ m, k = m + 1 := ⟨k - 1, by omega⟩
    have hi : i < n := by omega
    have hi2 : i < (marksS n).length := by rw [marksS_len]; exact hi
    have hk9 : 9 ≤ k := by omega
    have hx8 : 1 + i < 100000000 := by omega
    have hih := ih k (i + 1) (by omega) (by omega)
    have e3 : (marksS n)[i]'hi2 = mtx (1 + i) := by
      have := marksS_at hi
      rw [List.getElem?_eq_getElem hi2] at this
      exact Option.some.inj this
    rw [laws_heldStringS.l0, if_pos (lt' hi2), if_pos (nn i), mtx_f (1 + i) hx8 k hk9, Option.bind_some, rdS_at hi2, e3, if_pos rfl, up hi (Nat.le_trans hn (by decide)), upm hi (Nat.le_trans hn (by decide))]
    exact hih
theorem heldS_some (n : Nat) (hn : n ≤ 4194303) (k : Nat) (hk : n + 9 < k) : laws_heldStringS.f k (marksS n) 1 = some ((1 + n : Nat) : Int) := heldSl n hn n k 0 (by omega) hk
def sn (x : SI) : List ByteArray := (namesOf x.f3).1
theorem rB_names {x : SI} (h : rB x = true) : (namesOf x.f3).2 = true := by
  unfold rB ruleB at h
  simp only [Bool.and_eq_true] at h
  exact h.1.1.1
theorem sn_split {x : SI} (h : rB x = true) (hz : ¬ x.f3.size = 0) : sn x = cutB 46 x.f3 ∧ x.f3.size ≤ 24 := by
  have h2 := rB_names h
  unfold sn
  unfold namesOf at h2 ⊢
  rw [if_neg hz] at h2 ⊢
  by_cases c : (cutB 46 x.f3).all nameB = true
  · rw [if_pos c] at h2 ⊢
    exact ⟨rfl, of_decide_eq_true h2⟩
  · rw [if_neg c] at h2
    cases h2
theorem sn_nil {x : SI} (hz : x.f3.size = 0) : sn x = [] := by
  unfold sn namesOf
  rw [if_pos hz]
theorem sn_len {x : SI} (h : rB x = true) : (sn x).length ≤ 25 := by
  by_cases hz : x.f3.size = 0
  · rw [sn_nil hz]; decide
  · obtain ⟨h1, h2⟩ := sn_split h hz
    rw [h1]
    unfold cutB
    rw [List.length_map, cut_len]
    have : x.f3.data.toList.count 46 ≤ x.f3.data.toList.length := List.count_le_length
    rw [size_list] at this
    omega
theorem nums2 {a b i d n k1 k2 : Nat} (ha : a ≤ 25 * i) (hb : b ≤ 25) (h1 : i + (d + 1) = n) (hn : n ≤ 24) (h2 : d + 1 + 8388630 < k1 + 1) (h3 : d + 1 + 8388630 < k2 + 1) :
    a + b < 8796093022208 ∧ a + b ≤ 25 * (i + 1) ∧ i + 1 + d = n ∧ d + 8388630 < k1 ∧ d + 8388630 < k2 ∧ a ≤ 25 * (i + 1) ∧ 8388620 < k1 ∧ 8388620 < k2 ∧ i < n ∧ n ≤ 4194304 := by omega
theorem snd_both (l : List SI) (ho : ∀ x ∈ l, okR x) (hr : ∀ x ∈ l, rB x = true) (x6 : List Int) (hx : x6.length ≤ 24) (hm : ∀ x ∈ x6, 0 ≤ x ∧ x < (l.length : Int)) (ok : Bool) (d : Nat) : ∀ (k1 k2 : Nat) (x8 : List ByteArray) (i : Nat), i + d = x6.length → x8.length ≤ 25 * i → d + 8388630 < k1 → d + 8388630 < k2 →
    ∃ r : List ByteArray, r.length ≤ 600 ∧ spec_l07Sounds.l0 k1 l x6 x8 (x6.length : Int) (i : Int) = some (r, true) ∧ impl_soundsOf.l0 k2 l ok x8 x6 (x6.length : Int) (i : Int) = some (r, ok) := by
  induction d with
  | zero =>
    intro k1 k2 x8 i h1 h2 h3 h4
    obtain ⟨k1, rfl⟩ : ∃ m, k1 = m + 1 := ⟨k1 - 1, by omega⟩
    obtain ⟨k2, rfl⟩ : ∃ m, k2 = m + 1 := ⟨k2 - 1, by omega⟩
    refine ⟨x8, by omega, ?_, ?_⟩
    · rw [spec_l07Sounds.l0, if_neg (nlt (by omega))]
    · rw [impl_soundsOf.l0, if_neg (nlt (by omega))]
  | succ d ih =>
    intro k1 k2 x8 i h1 h2 h3 h4
    obtain ⟨k1, rfl⟩ : ∃ m, k1 = m + 1 := ⟨k1 - 1, by omega⟩
    obtain ⟨k2, rfl⟩ : ∃ m, k2 = m + 1 := ⟨k2 - 1, by omega⟩
    have hi : i < x6.length := by omega
    obtain ⟨m0, m1⟩ := hm _ (List.getElem_mem hi)
    obtain ⟨n, hn⟩ := Int.eq_ofNat_of_zero_le m0
    have hnl : n < l.length := by rw [hn] at m1; exact Int.ofNat_lt.1 m1
    have hxr := hr _ (List.getElem_mem hnl)
    have hx3 : (l[n]'hnl).f3.size ≤ 1048576 := (ho _ (List.getElem_mem hnl)).2.2.2
    obtain ⟨g1, g2, g3, g4, g5, g6, g7, g8, g9, g10⟩ := nums2 h2 (sn_len hxr) h1 hx h3 h4
    have g2' : (x8 ++ sn (l[n]'hnl)).length ≤ 25 * (i + 1) := by rw [List.length_append]; exact g2
    obtain ⟨r, r1, r2, r3⟩ := ih k1 k2 (x8 ++ sn (l[n]'hnl)) (i + 1) g3 g2' g4 g5
    have hnm : spec_l07Names.f k1 (l[n]'hnl).f3 = some (namesOf (l[n]'hnl).f3) := names_f _ (Nat.le_trans hx3 (by decide)) k1 g7
    have e1 := up hi g10
    refine ⟨r, r1, ?_, ?_⟩
    · rw [spec_l07Sounds.l0, if_pos (lt' hi), if_pos (nn i), if_pos (lt' hi), rdN_at hi, hn, if_pos (nn n), if_pos (lt' hnl), rdI_at hnl, hnm, Option.bind_some, e1]
      have hs : (namesOf (l[n]'hnl).f3).1 = sn (l[n]'hnl) := rfl
      rw [hs, if_pos g1]
      exact r2
    · rw [impl_soundsOf.l0, if_pos (lt' hi), if_pos (nn i), if_pos (lt' hi), rdN_at hi, hn, if_pos (nn n), if_pos (lt' hnl), rdI_at hnl, e1]
      by_cases hz : (l[n]'hnl).f3.toList = ([] : List UInt8)
      · rw [if_pos hz]
        rw [sn_nil (nil_iff.1 hz), List.append_nil] at r3
        exact r3
      · obtain ⟨q1, q2⟩ := sn_split hxr (fun e => hz (nil_iff.2 e))
        have hsp : strings_Split.f k2 (l[n]'hnl).f3 (⟨#[46]⟩ : ByteArray) = some (cutB 46 (l[n]'hnl).f3) := split_some _ (Nat.le_trans hx3 (by decide)) 46 k2 (Nat.lt_of_le_of_lt (Nat.add_le_add_right hx3 1) (Nat.lt_of_le_of_lt (by decide) g8))
        rw [if_neg hz, hsp, Option.bind_some, ← q1, if_pos g1]
        exact r3
theorem sounds_both (l : List SI) (hl : l.length ≤ 48) (ho : ∀ x ∈ l, okR x) (hr : ∀ x ∈ l, rB x = true) (w : ByteArray) (hw : w.size ≤ 24) :
    ∃ r : List ByteArray × Bool, r.1.length ≤ 600 ∧ ∀ k, 12000001 ≤ k → spec_l07Sounds.f k l w = some r ∧ impl_soundsOf.f k l w = some r := by
  have hn : ∀ x ∈ l, 1 ≤ x.f1.size := fun x hx => rB_name (hr x hx)
  obtain ⟨⟨x6, b⟩, ⟨h0, hb, hm⟩, h1, h2⟩ := for_both w hw l hl ho hn 24 12000001 12000001 [] 0 (by omega) (by omega) (by decide) (by omega) (by omega)
  replace h0 : x6.length ≤ 24 := h0
  replace hm : ∀ x ∈ x6, 0 ≤ x ∧ x < (l.length : Int) := fun x h => (hm x h).resolve_left (fun h => by cases h)
  have h1' : spec_l07For.f 12000001 l w = some (x6, b) := h1
  have h2' : impl_rulesFor.f 12000001 l w = some (x6, b) := h2
  obtain ⟨r, g0, g1, g2⟩ := snd_both l ho hr x6 h0 hm b x6.length 12000001 12000001 [] 0 (by omega) (by decide) (by omega) (by omega)
  have g1' : spec_l07Sounds.l0 12000001 l x6 [] (x6.length : Int) 0 = some (r, true) := g1
  have g2' : impl_soundsOf.l0 12000001 l b [] x6 (x6.length : Int) 0 = some (r, b) := g2
  have key : ∃ q : List ByteArray × Bool, q.1.length ≤ 600 ∧ spec_l07Sounds.f 12000001 l w = some q ∧ impl_soundsOf.f 12000001 l w = some q := by
    unfold spec_l07Sounds.f impl_soundsOf.f
    rw [h1', Option.bind_some, h2', Option.bind_some]
    cases b with
    | true => exact ⟨(r, true), g0, by rw [if_pos rfl]; exact g1', g2'⟩
    | false =>
      rcases hb with hb | hb
      · cases hb
      · have hx6 : x6 = [] := (Prod.mk.inj hb).1
        subst hx6
        refine ⟨([], false), by decide, by rw [if_neg Bool.false_ne_true], ?_⟩
        have : r = [] := by
          have e : spec_l07Sounds.l0 (12000000 + 1) l [] [] ((([] : List Int).length : Nat) : Int) 0 = some (r, true) := g1'
          rw [spec_l07Sounds.l0, if_neg (by simp)] at e
          exact (Prod.mk.inj (Option.some.inj e)).1.symm
        rw [this] at g2'
        exact g2'
  obtain ⟨q, q0, q1, q2⟩ := key
  exact ⟨q, q0, fun k hk => ⟨at_rounds (g := fun k => spec_l07Sounds.f k l w) (spec_l07Sounds.mono l w) hk q1, at_rounds (g := fun k => impl_soundsOf.f k l w) (impl_soundsOf.mono l w) hk q2⟩⟩
theorem rulesB_parts {l : List SI} (c : rulesB l = true) : l.length ≤ 48 ∧ ∀ x ∈ l, rB x = true := by
  unfold rulesB at c
  rw [Bool.and_eq_true] at c
  exact ⟨of_decide_eq_true c.1, fun x hx => List.all_eq_true.1 c.2 x hx⟩
end Go.Proofs.YtjkpbmdkkdofkaaDoor.SpPure
