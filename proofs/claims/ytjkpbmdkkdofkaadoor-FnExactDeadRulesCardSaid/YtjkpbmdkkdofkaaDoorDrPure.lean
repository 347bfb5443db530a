/- What the printed functions of DeadRules come to: both find the same rules. -/
import Derived.Test.YtjkpbmdkkdofkaaDoorPFnExactDeadRulesx
import Derived.Test.YtjkpbmdkkdofkaaDoorLm
import Derived.Test.YtjkpbmdkkdofkaaDoorOp
set_option linter.unusedVariables false
set_option linter.unusedSimpArgs false
namespace Go.Proofs.YtjkpbmdkkdofkaaDoor.DrPure
open Go.RowKit Go.Proofs.YtjkpbmdkkdofkaaDoorW.PrintWords Go.Proofs.YtjkpbmdkkdofkaaDoor.PFnExactDeadRules Go.Proofs.YtjkpbmdkkdofkaaDoor.Lm
theorem cutl (s : ByteArray) (hs : s.size ≤ 4194304) (c : UInt8) : ∀ (d k : Nat) (out : List ByteArray) (a i : Nat), i + d = s.size → a ≤ i → c ∉ (s.data.toList.drop a).take (i - a) → out.length ≤ i → d + 1 < k →
    spec_l01Cut.l0 k s ((c.toNat : Nat) : Int) out (a : Int) (i : Int) = some (out ++ (cut c (s.data.toList.drop a)).map ba)
  | d, 0, out, a, i, h1, ha, hc, ho, hk => by omega
  | 0, k + 1, out, a, i, h1, ha, hc, ho, hk => by
    obtain ⟨k, rfl⟩ : ∃ m, k = m + 1 := ⟨k - 1, by omega⟩
    have hi : i = s.size := h1
    subst hi
    have hd : (s.data.toList.drop a).take (s.size - a) = s.data.toList.drop a := List.take_of_length_le (by rw [List.length_drop, size_list]; exact Nat.le_refl _)
    rw [hd] at hc
    rw [spec_l01Cut.l0, if_pos (Int.le_refl _), if_pos rfl, if_pos (by omega), if_pos (by omega), if_pos (by omega), Int.toNat_natCast, Int.toNat_natCast, w64 (by omega) (by omega), spec_l01Cut.l0, if_neg (by omega), cut_none hc, extract_ba, hd]
    rfl
  | d + 1, k + 1, out, a, i, h1, ha, hc, ho, hk => by
    have hi : i < s.size := by omega
    have e1 : wrap64 ((i : Int) + 1) = ((i + 1 : Nat) : Int) := by rw [w64 (by omega) (by omega)]; omega
    have hx : s.data.toList.drop a = (s.data.toList.drop a).take (i - a) ++ (s.data.toList[i]'hi) :: s.data.toList.drop (i + 1) := by
      have h2 : (s.data.toList.drop a).drop (i - a) = (s.data.toList[i]'hi) :: s.data.toList.drop (i + 1) := by
        rw [List.drop_drop, show a + (i - a) = i by omega]; exact List.drop_eq_getElem_cons hi
      rw [← h2, List.take_append_drop]
    have hb := bt_nat s i hi
    rw [spec_l01Cut.l0, if_pos (by omega), if_neg (by omega), if_pos (by omega), if_pos (by omega), hb]
    by_cases c1 : (((s.data.toList[i]'hi).toNat : Nat) : Int) = ((c.toNat : Nat) : Int)
    · have hc1 := u8_eq c1
      rw [if_pos c1, if_pos (by omega), if_pos (by omega), if_pos (by omega), e1, Int.toNat_natCast, Int.toNat_natCast]
      rw [cutl s hs c d k _ (i + 1) (i + 1) (by omega) (Nat.le_refl _) (by rw [Nat.sub_self, List.take_zero]; exact fun h => by cases h) (by rw [List.length_append, List.length_singleton]; omega) (by omega)]
      rw [hx, hc1, cut_hit _ hc, extract_ba, List.append_assoc]
      rfl
    · rw [if_neg c1, e1]
      refine cutl s hs c d k out a (i + 1) (by omega) (by omega) ?_ (by omega) (by omega)
      have h3 : (s.data.toList.drop a).take (i + 1 - a) = (s.data.toList.drop a).take (i - a) ++ [s.data.toList[i]'hi] := by
        rw [show i + 1 - a = (i - a) + 1 by omega, List.take_succ_eq_append_getElem (by rw [List.length_drop, size_list]; omega)]
        congr 2
        rw [List.getElem_drop]
        congr 1
        omega
      rw [h3]
      intro hm
      rcases List.mem_append.1 hm with e | e
      · exact hc e
      · rw [List.mem_singleton] at e
        exact c1 (by rw [e])
theorem cut_spec (s : ByteArray) (hs : s.size ≤ 4194304) (c : UInt8) (k : Nat) (hk : s.size + 1 < k) : spec_l01Cut.f k s ((c.toNat : Nat) : Int) = some (cutB c s) :=
  cutl s hs c s.size k [] 0 0 (by omega) (by omega) (by simp) (by simp) hk
theorem gs0 (c : UInt8) (k : Nat) (x : ByteArray) (l : List ByteArray) (n : Nat) (hc : x.data.toList.count c = 0) (hl : l.length = n + 1) (hn : n ≤ 4194304) : strings_genSplit.l0 (k + 1) x (ba [c]) 0 (n : Int) l (n : Int) = some (l.take n ++ cutB c x) := by
  have hn0 : c ∉ x.data.toList := fun h => by
    have := List.count_pos_iff.2 h
    omega
  have e1 : wrap64 ((n : Int) + 1) = ((n + 1 : Nat) : Int) := by rw [w64 (by omega) (by omega)]; omega
  have f1 : ¬ ((n : Int) < (n : Int)) := by omega
  have f2 : (0 : Int) ≤ (n : Int) := by omega
  have f3 : (n : Int) < (l.length : Int) := by omega
  have f4 : (0 : Int) ≤ ((n + 1 : Nat) : Int) := by omega
  have f5 : ((n + 1 : Nat) : Int) ≤ (l.length : Int) := by omega
  have f6 : n < l.length := by omega
  rw [strings_genSplit.l0, if_neg f1, if_pos f2, if_pos f3, e1, if_pos f4, if_pos f5, Int.toNat_natCast, Int.toNat_natCast]
  unfold cutB
  rw [cut_none hn0, take_set_snoc f6]
  rfl
theorem gs1 (c : UInt8) (k : Nat) (x : ByteArray) (l : List ByteArray) (i n : Nat) (p r : List UInt8) (hin : i < n) (hl : l.length = n + 1) (hn : n ≤ 4194304) (hx : x.size ≤ 4194304) (h2 : x.data.toList = p ++ c :: r) (h4 : Lib.indexByte x.data.toList c = (p.length : Int)) :
    strings_genSplit.l0 (k + 1) x (ba [c]) 0 (n : Int) l (i : Int) = strings_genSplit.l0 k (ba r) (ba [c]) 0 (n : Int) (l.set i (ba p)) ((i + 1 : Nat) : Int) := by
  obtain ⟨g1, g2, g3⟩ := take_hit h2
  have hI : strings_Index.f x (ba [c]) = some ((p.length : Nat) : Int) := by
    unfold strings_Index.f
    rw [if_pos (show (ba [c]).size = 1 from rfl), ← h4]; rfl
  clear h4 h2
  have f1 : (i : Int) < (n : Int) := by omega
  have f2 : ¬ (((p.length : Nat) : Int) < 0) := by omega
  have f3 : (0 : Int) ≤ ((p.length : Nat) : Int) := by omega
  have f4 : ((p.length : Nat) : Int) ≤ (x.size : Int) := by omega
  have f5 : (0 : Int) ≤ (i : Int) := by omega
  have f6 : (i : Int) < (l.length : Int) := by omega
  have f7 : (0 : Int) ≤ ((p.length + 1 : Nat) : Int) := by omega
  have f8 : ((p.length + 1 : Nat) : Int) ≤ (x.size : Int) := by omega
  have e1 : wrap64 ((i : Int) + 1) = ((i + 1 : Nat) : Int) := by rw [w64 (by omega) (by omega)]; omega
  have e2 : wrap64 (((p.length : Nat) : Int) + 0) = ((p.length : Nat) : Int) := by rw [w64 (by omega) (by omega)]; omega
  have e3 : wrap64 (((p.length : Nat) : Int) + (((ba [c]).size : Nat) : Int)) = ((p.length + 1 : Nat) : Int) := by
    rw [show (((ba [c]).size : Nat) : Int) = 1 from rfl, w64 (by omega) (by omega)]; omega
  rw [strings_genSplit.l0, if_pos f1, hI, Option.bind_some, if_neg f2, e2, if_pos f3, if_pos f4, if_pos f5, if_pos f6, e3, if_pos f7, if_pos f8, e1, Int.toNat_natCast, Int.toNat_natCast, Int.toNat_natCast, g1, g2]
theorem gsl (c : UInt8) (n : Nat) (hn : n ≤ 4194304) (d : Nat) : ∀ (k : Nat) (x : ByteArray) (l : List ByteArray) (i : Nat), i + d = n → x.data.toList.count c = d → l.length = n + 1 → x.size ≤ 4194304 → d < k →
    strings_genSplit.l0 k x (ba [c]) 0 (n : Int) l (i : Int) = some (l.take i ++ cutB c x) := by
  induction d with
  | zero =>
    intro k x l i h1 hc hl hx hk
    obtain ⟨k, rfl⟩ : ∃ m, k = m + 1 := ⟨k - 1, by omega⟩
    obtain rfl : i = n := by omega
    exact gs0 c k x l i hc hl hn
  | succ d ih =>
    intro k x l i h1 hc hl hx hk
    obtain ⟨k, rfl⟩ : ∃ m, k = m + 1 := ⟨k - 1, by omega⟩
    rcases index_spec c x.data.toList with ⟨_, h⟩ | ⟨p, r, h2, h3, h4⟩
    · rw [List.count_eq_zero_of_not_mem h] at hc
      omega
    · obtain ⟨g1, g2, g3⟩ := take_hit h2
      have hcr : (ba r).data.toList.count c = d := by
        rw [h2, count_hit h3] at hc
        rw [list_ba]; omega
      rw [gs1 c k x l i n p r (by omega) hl hn hx h2 h4, ih k (ba r) _ (i + 1) (by omega) hcr (by rw [List.length_set]; exact hl) (by rw [size_ba]; omega) (by omega), take_set_snoc (by omega)]
      unfold cutB
      rw [h2, cut_hit r h3, List.append_assoc]
      rfl
theorem split_some (s : ByteArray) (hs : s.size ≤ 4194303) (c : UInt8) (k : Nat) (hk : s.size + 1 < k) : strings_Split.f k s (ba [c]) = some (cutB c s) := by
  obtain ⟨k, rfl⟩ : ∃ m, k = m + 1 := ⟨k - 1, by omega⟩
  have hle : s.data.toList.count c ≤ s.size := List.count_le_length
  have hC : strings_Count.f s (ba [c]) = some ((s.data.toList.count c : Nat) : Int) := by
    unfold strings_Count.f
    rw [if_pos (show (ba [c]).size = 1 from rfl)]; rfl
  have e1 : wrap64 (((s.data.toList.count c : Nat) : Int) + 1) = ((s.data.toList.count c + 1 : Nat) : Int) := by rw [w64 (by omega) (by omega)]; omega
  have e2 : mn ((s.data.toList.count c + 1 : Nat) : Int) (wrap64 ((s.size : Int) + 1)) = ((s.data.toList.count c + 1 : Nat) : Int) := by
    rw [w64 (by omega) (by omega)]; unfold mn; split <;> omega
  have e3 : wrap64 (((s.data.toList.count c + 1 : Nat) : Int) - 1) = ((s.data.toList.count c : Nat) : Int) := by rw [w64 (by omega) (by omega)]; omega
  have hne : ¬ ((ba [c]).toList = ([] : List UInt8)) := by
    intro h
    have := nil_iff.1 h
    cases this
  unfold strings_Split.f strings_genSplit.f
  rw [if_neg (by decide), if_neg hne, if_pos (by decide), hC, Option.bind_some, e1, strings_genSplit.j0, e2, if_pos (by omega), if_pos (by omega), e3, Int.toNat_natCast]
  have hg := gsl c (s.data.toList.count c) (by omega) (s.data.toList.count c) k s (List.replicate (s.data.toList.count c + 1) (⟨#[]⟩ : ByteArray)) 0 (by omega) rfl (by rw [List.length_replicate]) (by omega) (by omega)
  rw [show (((0 : Nat) : Int)) = 0 from rfl] at hg
  rw [hg]
  rfl
/-- letters alone -/
def alph (s : ByteArray) : Bool := s.data.toList.all fun b => decide (97 ≤ b.toNat ∧ b.toNat ≤ 122)
theorem letter_b (b : UInt8) : spec_l07Letter.f (b.toNat : Int) = some (decide (97 ≤ b.toNat ∧ b.toNat ≤ 122)) := by
  unfold spec_l07Letter.f
  by_cases h : (b.toNat : Int) ≥ 97
  · rw [if_pos h]
    congr 1
    rw [decide_eq_decide]; omega
  · rw [if_neg h]
    congr 1
    exact (decide_eq_false (by omega)).symm
theorem lettersl (s : ByteArray) (hs : s.size ≤ 4194304) (a b : Int) : ∀ (d k i : Nat), i + d = s.size → d < k →
    spec_l07Letters.l0 k s a b (i : Int) = some ((s.data.toList.drop i).all (fun b => decide (97 ≤ b.toNat ∧ b.toNat ≤ 122)) && decide (a ≤ (s.size : Int) ∧ (s.size : Int) ≤ b))
  | d, 0, i, h1, hk => by omega
  | 0, k + 1, i, h1, hk => by
    rw [spec_l07Letters.l0, if_neg (by omega), List.drop_of_length_le (by rw [size_list]; omega)]
    by_cases h : (s.size : Int) ≥ a
    · rw [if_pos h]
      simp only [List.all_nil, Bool.true_and]
      congr 1
      rw [decide_eq_decide]; omega
    · rw [if_neg h]
      simp only [List.all_nil, Bool.true_and]
      congr 1
      exact (decide_eq_false (by omega)).symm
  | d + 1, k + 1, i, h1, hk => by
    have hi : i < s.size := by omega
    have e1 : wrap64 ((i : Int) + 1) = ((i + 1 : Nat) : Int) := by rw [w64 (by omega) (by omega)]; omega
    have hd : s.data.toList.drop i = (s.data.toList[i]'hi) :: s.data.toList.drop (i + 1) := List.drop_eq_getElem_cons hi
    rw [spec_l07Letters.l0, if_pos (by omega), if_pos (by omega), bt_nat s i hi, letter_b, Option.bind_some, hd, List.all_cons]
    by_cases h : decide (97 ≤ (s.data.toList[i]'hi).toNat ∧ (s.data.toList[i]'hi).toNat ≤ 122) = true
    · rw [if_pos h, e1, lettersl s hs a b d k (i + 1) (by omega) (by omega), h, Bool.true_and]
    · rw [if_neg h]
      rw [Bool.not_eq_true] at h
      rw [h, Bool.false_and, Bool.false_and]
theorem letters_f (s : ByteArray) (hs : s.size ≤ 4194304) (a b : Int) (k : Nat) (hk : s.size < k) : spec_l07Letters.f k s a b = some (alph s && decide (a ≤ (s.size : Int) ∧ (s.size : Int) ≤ b)) :=
  lettersl s hs a b s.size k 0 (by omega) hk
theorem isNamel (s : ByteArray) (hs : s.size ≤ 4194304) : ∀ (d k i : Nat), i + d = s.size → d < k →
    impl_IsName.l0 k s (i : Int) = some ((s.data.toList.drop i).all (fun b => decide (97 ≤ b.toNat ∧ b.toNat ≤ 122)) && decide (1 ≤ s.size ∧ s.size ≤ 8))
  | d, 0, i, h1, hk => by omega
  | 0, k + 1, i, h1, hk => by
    rw [impl_IsName.l0, if_neg (by omega), List.drop_of_length_le (by rw [size_list]; omega)]
    unfold impl_within.f
    by_cases h : (s.size : Int) ≥ 1
    · rw [if_pos h]
      simp only [List.all_nil, Bool.true_and, Option.bind_some]
      congr 1
      rw [decide_eq_decide]; omega
    · rw [if_neg h]
      simp only [List.all_nil, Bool.true_and, Option.bind_some]
      congr 1
      exact (decide_eq_false (by omega)).symm
  | d + 1, k + 1, i, h1, hk => by
    have hi : i < s.size := by omega
    have e1 : wrap64 ((i : Int) + 1) = ((i + 1 : Nat) : Int) := by rw [w64 (by omega) (by omega)]; omega
    have hd : s.data.toList.drop i = (s.data.toList[i]'hi) :: s.data.toList.drop (i + 1) := List.drop_eq_getElem_cons hi
    rw [impl_IsName.l0, if_pos (by omega), if_pos (by omega), bt_nat s i hi, hd, List.all_cons]
    by_cases h : ((s.data.toList[i]'hi).toNat : Int) < 97
    · rw [if_pos h, decide_eq_false (by omega), Bool.false_and, Bool.false_and]
    · rw [if_neg h]
      by_cases h2 : ((s.data.toList[i]'hi).toNat : Int) > 122
      · rw [if_pos h2, decide_eq_false (by omega), Bool.false_and, Bool.false_and]
      · rw [if_neg h2, e1, isNamel s hs d k (i + 1) (by omega) (by omega), decide_eq_true (p := 97 ≤ (s.data.toList[i]'hi).toNat ∧ (s.data.toList[i]'hi).toNat ≤ 122) ⟨by omega, by omega⟩, Bool.true_and]
theorem isName_f (s : ByteArray) (hs : s.size ≤ 4194304) (k : Nat) (hk : s.size < k) : impl_IsName.f k s = some (alph s && decide (1 ≤ s.size ∧ s.size ≤ 8)) :=
  isNamel s hs s.size k 0 (by omega) hk
/-- a name of a sound -/
def nameB (s : ByteArray) : Bool := alph s && decide (1 ≤ s.size ∧ s.size ≤ 4)
theorem letters14 (s : ByteArray) (hs : s.size ≤ 4194304) (k : Nat) (hk : s.size < k) : spec_l07Letters.f k s 1 4 = some (nameB s) := by
  rw [letters_f s hs 1 4 k hk]
  unfold nameB
  congr 2
  rw [decide_eq_decide]; omega
theorem soundName_f (s : ByteArray) (hs : s.size ≤ 4194304) (k : Nat) (hk : s.size < k) : impl_isSoundName.f k s = some (nameB s) := by
  unfold impl_isSoundName.f nameB
  by_cases h : (s.size : Int) ≤ 4
  · rw [if_pos h, isName_f s hs k hk, Option.bind_some]
    congr 2
    rw [decide_eq_decide]; omega
  · rw [if_neg h, decide_eq_false (by omega), Bool.and_false]
/-- signs -/
def signB (b : UInt8) : Bool := decide (97 ≤ b.toNat ∧ b.toNat ≤ 122) || (b == 86 || b == 67 || b == 45)
def signsB (s : ByteArray) : Bool := s.data.toList.all signB && decide (s.size ≤ 3)
theorem eqb (b : UInt8) (n : Nat) (hn : n < 256) : ((b.toNat : Int) = (n : Int)) ↔ b = UInt8.ofNat n := by
  constructor
  · intro h
    apply UInt8.toNat_inj.1
    rw [UInt8.toNat_ofNat_of_lt' hn]; omega
  · rintro rfl
    rw [UInt8.toNat_ofNat_of_lt' hn]
theorem signsl (s : ByteArray) (hs : s.size ≤ 4194304) : ∀ (d k i : Nat), i + d = s.size → d < k →
    spec_l07Signs.l0 k s (i : Int) = some ((s.data.toList.drop i).all signB && decide (s.size ≤ 3))
  | d, 0, i, h1, hk => by omega
  | 0, k + 1, i, h1, hk => by
    rw [spec_l07Signs.l0, if_neg (by omega), List.drop_of_length_le (by rw [size_list]; omega)]
    simp only [List.all_nil, Bool.true_and]
    congr 1
    rw [decide_eq_decide]; omega
  | d + 1, k + 1, i, h1, hk => by
    have hi : i < s.size := by omega
    have e1 : wrap64 ((i : Int) + 1) = ((i + 1 : Nat) : Int) := by rw [w64 (by omega) (by omega)]; omega
    have hd : s.data.toList.drop i = (s.data.toList[i]'hi) :: s.data.toList.drop (i + 1) := List.drop_eq_getElem_cons hi
    rw [spec_l07Signs.l0, if_pos (by omega), if_pos (by omega), bt_nat s i hi, letter_b, Option.bind_some, hd, List.all_cons, e1, signsl s hs d k (i + 1) (by omega) (by omega)]
    generalize (s.data.toList[i]'hi) = b
    have q1 := eqb b 86 (by decide)
    have q2 := eqb b 67 (by decide)
    have q3 := eqb b 45 (by decide)
    have hu : signB b = (decide (97 ≤ b.toNat ∧ b.toNat ≤ 122) || (b == 86 || b == 67 || b == 45)) := rfl
    by_cases h : decide (97 ≤ b.toNat ∧ b.toNat ≤ 122) = true
    · rw [if_pos h, hu, h, Bool.true_or, Bool.true_and]
    · rw [if_neg h]
      rw [Bool.not_eq_true] at h
      rw [hu, h, Bool.false_or]
      by_cases c1 : (b.toNat : Int) = 86
      · have := q1.1 c1
        subst this
        rw [if_pos c1]; rfl
      · rw [if_neg c1]
        by_cases c2 : (b.toNat : Int) = 67
        · have := q2.1 c2
          subst this
          rw [if_pos c2]; rfl
        · rw [if_neg c2]
          by_cases c3 : (b.toNat : Int) = 45
          · have := q3.1 c3
            subst this
            rw [if_pos c3]; rfl
          · rw [if_neg c3]
            have f1 : (b == 86) = false := by rw [beq_eq_false_iff_ne]; exact fun e => c1 (q1.2 e)
            have f2 : (b == 67) = false := by rw [beq_eq_false_iff_ne]; exact fun e => c2 (q2.2 e)
            have f3 : (b == 45) = false := by rw [beq_eq_false_iff_ne]; exact fun e => c3 (q3.2 e)
            rw [f1, f2, f3]; rfl
theorem signs_f (s : ByteArray) (hs : s.size ≤ 4194304) (k : Nat) (hk : s.size < k) : spec_l07Signs.f k s = some (signsB s) := signsl s hs s.size k 0 (by omega) hk
theorem signIx : ∀ n : Fin 256, (Lib.indexByte [86, 67, 45] (UInt8.ofNat n.1) < 0) ↔ ¬ ((UInt8.ofNat n.1 == 86 || UInt8.ofNat n.1 == 67 || UInt8.ofNat n.1 == 45) = true) := by decide +kernel
theorem areSignsl (s : ByteArray) (hs : s.size ≤ 4194304) : ∀ (d k i : Nat), i + d = s.size → d < k →
    impl_areSigns.l0 k s (s.size : Int) (i : Int) = some ((s.data.toList.drop i).all signB && decide (s.size ≤ 3))
  | d, 0, i, h1, hk => by omega
  | 0, k + 1, i, h1, hk => by
    rw [impl_areSigns.l0, if_neg (by omega), List.drop_of_length_le (by rw [size_list]; omega)]
    simp only [List.all_nil, Bool.true_and]
    congr 1
    rw [decide_eq_decide]; omega
  | d + 1, k + 1, i, h1, hk => by
    have hi : i < s.size := by omega
    have e1 : wrap64 ((i : Int) + 1) = ((i + 1 : Nat) : Int) := by rw [w64 (by omega) (by omega)]; omega
    have hd : s.data.toList.drop i = (s.data.toList[i]'hi) :: s.data.toList.drop (i + 1) := List.drop_eq_getElem_cons hi
    have hL : ∀ c, impl_isLetter.f c = spec_l07Letter.f c := fun _ => rfl
    rw [impl_areSigns.l0, if_pos (by omega), if_pos (by omega), if_pos (by omega), bt_nat s i hi, hL, letter_b, Option.bind_some, hd, List.all_cons, e1, areSignsl s hs d k (i + 1) (by omega) (by omega)]
    generalize (s.data.toList[i]'hi) = b
    have hx := signIx ⟨b.toNat, UInt8.toNat_lt b⟩
    have hu : signB b = (decide (97 ≤ b.toNat ∧ b.toNat ≤ 122) || (b == 86 || b == 67 || b == 45)) := rfl
    have hb : UInt8.ofNat b.toNat = b := UInt8.ofNat_toNat
    dsimp only at hx
    rw [hb] at hx
    have hI : strings_IndexByte.f (⟨#[86, 67, 45]⟩ : ByteArray) (b.toNat : Int) = some (Lib.indexByte [86, 67, 45] b) := by
      unfold strings_IndexByte.f
      rw [Int.toNat_natCast]
      show some (Lib.indexByte [86, 67, 45] (UInt8.ofNat b.toNat)) = _
      rw [hb]
    by_cases h : decide (97 ≤ b.toNat ∧ b.toNat ≤ 122) = true
    · rw [if_pos h, hu, h, Bool.true_or, Bool.true_and]
    · rw [if_neg h, hI, Option.bind_some]
      rw [Bool.not_eq_true] at h
      rw [hu, h, Bool.false_or]
      by_cases c : (b == 86 || b == 67 || b == 45) = true
      · rw [if_neg (fun e => hx.1 e c), c, Bool.true_and]
      · rw [if_pos (hx.2 c)]
        rw [Bool.not_eq_true] at c
        rw [c]; rfl
theorem areSigns_f (s : ByteArray) (hs : s.size ≤ 4194304) (k : Nat) (hk : s.size < k) : impl_areSigns.f k s = some (signsB s) := areSignsl s hs s.size k 0 (by omega) hk
theorem rdS_at {l : List ByteArray} {i : Nat} (h : i < l.length) : rdOf ByteArray.empty l (i : Int) = l[i]'h := by
  unfold rdOf
  rw [Int.toNat_natCast, List.getD_eq_getElem?_getD, List.getElem?_eq_getElem h]; rfl
theorem namesl (s : ByteArray) (l : List ByteArray) (hl : l.length ≤ 4194304) (hp : ∀ p ∈ l, p.size ≤ 4194304) : ∀ (d k i : Nat), i + d = l.length → d + 4194305 < k →
    spec_l07Names.l0 k s l (l.length : Int) (i : Int) = some (if (l.drop i).all nameB = true then (l, decide (s.size ≤ 24)) else ([], false))
  | d, 0, i, h1, hk => by omega
  | 0, k + 1, i, h1, hk => by
    rw [spec_l07Names.l0, if_neg (by omega), List.drop_of_length_le (by omega), List.all_nil, if_pos rfl]
    congr 2
    rw [decide_eq_decide]; omega
  | d + 1, k + 1, i, h1, hk => by
    have hi : i < l.length := by omega
    have e1 : wrap64 ((i : Int) + 1) = ((i + 1 : Nat) : Int) := by rw [w64 (by omega) (by omega)]; omega
    have hz := hp _ (List.getElem_mem hi)
    rw [spec_l07Names.l0, if_pos (by omega), if_pos (by omega), if_pos (by omega), rdS_at hi, letters14 _ hz k (by omega), Option.bind_some, List.drop_eq_getElem_cons hi, List.all_cons]
    by_cases h : nameB (l[i]'hi) = true
    · rw [if_pos h, e1, namesl s l hl hp d k (i + 1) (by omega) (by omega), h, Bool.true_and]
    · rw [if_neg h]
      rw [Bool.not_eq_true] at h
      rw [h, Bool.false_and, if_neg (by simp)]
theorem cutB_ok (c : UInt8) (s : ByteArray) (hs : s.size ≤ 4194303) : (cutB c s).length ≤ 4194304 ∧ ∀ p ∈ cutB c s, p.size ≤ 4194304 := by
  constructor
  · unfold cutB
    rw [List.length_map, cut_len]
    have : s.data.toList.count c ≤ s.data.toList.length := List.count_le_length
    rw [size_list] at this
    omega
  · intro p hp
    obtain ⟨q, hq, rfl⟩ := List.mem_map.1 hp
    have := cut_piece hq
    rw [size_list] at this
    rw [size_ba]; omega
/-- the names of sounds; false if there are none of this form -/
def namesOf (s : ByteArray) : List ByteArray × Bool := if s.size = 0 then ([], true) else if (cutB 46 s).all nameB = true then (cutB 46 s, decide (s.size ≤ 24)) else ([], false)
theorem names_f (s : ByteArray) (hs : s.size ≤ 4194303) (k : Nat) (hk : 8388620 < k) : spec_l07Names.f k s = some (namesOf s) := by
  unfold spec_l07Names.f namesOf
  by_cases h : s.toList = ([] : List UInt8)
  · rw [if_pos h, if_pos (nil_iff.1 h)]
  · rw [if_neg h, if_neg (fun e => h (nil_iff.2 e))]
    have h46 := cut_spec s (by omega) 46 k (by omega)
    obtain ⟨g1, g2⟩ := cutB_ok 46 s hs
    have e : (((46 : UInt8).toNat : Nat) : Int) = 46 := rfl
    rw [e] at h46
    rw [h46, Option.bind_some]
    exact namesl s _ g1 g2 (cutB 46 s).length k 0 (by omega) (by omega)
/-- a valid rule -/
def ruleB (b l a s : ByteArray) : Bool := (namesOf s).2 && nameB l && signsB b && signsB a
theorem rule_s (b l a s : ByteArray) (hb : b.size ≤ 4194303) (hl : l.size ≤ 4194303) (ha : a.size ≤ 4194303) (hs : s.size ≤ 4194303) (k : Nat) (hk : 8388620 < k) : spec_l07Rule.f k [(⟨b, l, a, s⟩ : S26)] = some (ruleB b l a s) := by
  unfold spec_l07Rule.f ruleB
  have hr : rd_T26 [(⟨b, l, a, s⟩ : S26)] 0 = ⟨b, l, a, s⟩ := rfl
  rw [if_pos (show (0 : Int) < (([(⟨b, l, a, s⟩ : S26)] : List S26).length : Int) by show (0 : Int) < 1; decide), hr]
  dsimp only
  rw [names_f s hs k hk, Option.bind_some, letters14 l (by omega) k (by omega), signs_f b (by omega) k (by omega), signs_f a (by omega) k (by omega)]
  simp only [Option.bind_some]
  cases (namesOf s).2 <;> cases nameB l <;> cases signsB b <;> cases signsB a <;> rfl
theorem ixl (l : List ByteArray) (hl : l.length ≤ 4194304) (hp : ∀ p ∈ l, p.size ≤ 4194304) : ∀ (d k i : Nat), i + d = l.length → d + 4194305 < k →
    ∃ r : Int, slices_IndexFunc_v_impl_ValidRule_1.l0 k l (l.length : Int) (i : Int) = some r ∧ (0 ≤ r ↔ (l.drop i).all nameB = false)
  | d, 0, i, h1, hk => by omega
  | 0, k + 1, i, h1, hk => by
    rw [slices_IndexFunc_v_impl_ValidRule_1.l0, if_neg (by omega), List.drop_of_length_le (by omega), List.all_nil]
    exact ⟨-1, rfl, by simp⟩
  | d + 1, k + 1, i, h1, hk => by
    have hi : i < l.length := by omega
    have e1 : wrap64 ((i : Int) + 1) = ((i + 1 : Nat) : Int) := by rw [w64 (by omega) (by omega)]; omega
    have hz := hp _ (List.getElem_mem hi)
    rw [slices_IndexFunc_v_impl_ValidRule_1.l0, if_pos (by omega), if_pos (by omega), if_pos (by omega), rdS_at hi, List.drop_eq_getElem_cons hi, List.all_cons]
    unfold impl_ValidRule_1.f
    rw [soundName_f _ hz k (by omega), Option.bind_some, Option.bind_some]
    by_cases h : nameB (l[i]'hi) = true
    · obtain ⟨r, h3, h4⟩ := ixl l hl hp d k (i + 1) (by omega) (by omega)
      rw [h, if_neg (by simp), e1, Bool.true_and]
      exact ⟨r, h3, h4⟩
    · rw [Bool.not_eq_true] at h
      rw [h, if_pos (show (!false) = true from rfl), Bool.false_and]
      exact ⟨(i : Int), rfl, by simp⟩
theorem rule_i (b l a s : ByteArray) (hb : b.size ≤ 4194303) (hl : l.size ≤ 4194303) (ha : a.size ≤ 4194303) (hs : s.size ≤ 4194303) (k : Nat) (hk : 8388620 < k) : impl_ValidRule.f k b l a s = some (ruleB b l a s) := by
  have hS := split_some s (by omega) 46 k (by omega)
  obtain ⟨g1, g2⟩ := cutB_ok 46 s hs
  obtain ⟨r, hr, hr2⟩ := ixl (cutB 46 s) g1 g2 (cutB 46 s).length k 0 (by omega) (by omega)
  have hC : slices_ContainsFunc_v_impl_ValidRule_1.f k (cutB 46 s) = some (!((cutB 46 s).all nameB)) := by
    unfold slices_ContainsFunc_v_impl_ValidRule_1.f slices_IndexFunc_v_impl_ValidRule_1.f
    have hr' : slices_IndexFunc_v_impl_ValidRule_1.l0 k (cutB 46 s) ((cutB 46 s).length : Int) 0 = some r := hr
    rw [hr', Option.bind_some]
    rw [List.drop_zero] at hr2
    cases hx : (cutB 46 s).all nameB with
    | true =>
      rw [hx] at hr2
      rw [decide_eq_false (fun e => by cases hr2.1 e)]; rfl
    | false =>
      rw [hx] at hr2
      rw [decide_eq_true (hr2.2 rfl)]; rfl
  have hT : (if (s.size : Int) ≤ 24 then (if s.toList = ([] : List UInt8) then (some true) else ((strings_Split.f k s (⟨#[46]⟩ : ByteArray)).bind fun t173 => ((slices_ContainsFunc_v_impl_ValidRule_1.f k t173).bind fun t176 => (some (!t176))))) else (some false)) = some (namesOf s).2 := by
    unfold namesOf
    by_cases c : (s.size : Int) ≤ 24
    · rw [if_pos c]
      by_cases e : s.toList = ([] : List UInt8)
      · rw [if_pos e, if_pos (nil_iff.1 e)]
      · rw [if_neg e, if_neg (fun h => e (nil_iff.2 h))]
        have hS' : strings_Split.f k s (⟨#[46]⟩ : ByteArray) = some (cutB 46 s) := hS
        rw [hS', Option.bind_some, hC, Option.bind_some, Bool.not_not]
        cases hx : (cutB 46 s).all nameB with
        | true => rw [if_pos rfl]; congr 1; exact (decide_eq_true (by omega)).symm
        | false => rw [if_neg (by simp)]
    · rw [if_neg c, if_neg (by omega)]
      cases hx : (cutB 46 s).all nameB with
      | true => rw [if_pos rfl]; congr 1; exact (decide_eq_false (by omega)).symm
      | false => rw [if_neg (by simp)]
  unfold impl_ValidRule.f
  rw [hT, isName_f l (by omega) k (by omega), areSigns_f b (by omega) k (by omega), areSigns_f a (by omega) k (by omega)]
  simp only [Option.bind_some]
  unfold ruleB nameB
  by_cases c : (l.size : Int) ≤ 4
  · rw [if_pos c]
    have e : decide (1 ≤ l.size ∧ l.size ≤ 8) = decide (1 ≤ l.size ∧ l.size ≤ 4) := by rw [decide_eq_decide]; omega
    rw [e]
    cases (namesOf s).2 <;> cases (alph l && decide (1 ≤ l.size ∧ l.size ≤ 4)) <;> cases signsB b <;> cases signsB a <;> rfl
  · rw [if_neg c, decide_eq_false (by omega), Bool.and_false]
    cases (namesOf s).2 <;> rfl
abbrev SL := S23
abbrev SI := S26
def okS (x : SL) : Prop := x.f0.size ≤ 140737488351232 ∧ x.f1.size ≤ 140737488351232 ∧ x.f2.size ≤ 140737488351232 ∧ x.f3.size ≤ 140737488351232
def okR (x : SI) : Prop := x.f0.size ≤ 1048576 ∧ x.f1.size ≤ 1048576 ∧ x.f2.size ≤ 1048576 ∧ x.f3.size ≤ 1048576
def convR (l : List SL) : List SI := l.map fun x => ⟨x.f0, x.f1, x.f2, x.f3⟩
theorem convR_len (l : List SL) : (convR l).length = l.length := by unfold convR; rw [List.length_map]
theorem rdL_at {l : List SL} {i : Nat} (h : i < l.length) : rd_T23 l (i : Int) = l[i]'h := by
  unfold rd_T23
  rw [Int.toNat_natCast, List.getD_eq_getElem?_getD, List.getElem?_eq_getElem h]; rfl
theorem rdI_at {l : List SI} {i : Nat} (h : i < l.length) : rd_T26 l (i : Int) = l[i]'h := by
  unfold rd_T26
  rw [Int.toNat_natCast, List.getD_eq_getElem?_getD, List.getElem?_eq_getElem h]; rfl
theorem convR_at {l : List SL} {i : Nat} (h : i < l.length) : (convR l)[i]? = some ⟨(l[i]'h).f0, (l[i]'h).f1, (l[i]'h).f2, (l[i]'h).f3⟩ := by
  unfold convR
  rw [List.getElem?_map, List.getElem?_eq_getElem h]; rfl
theorem szR2 (b l a s : ByteArray) (hb : b.size ≤ 140737488351232) (hl : l.size ≤ 140737488351232) (ha : a.size ≤ 140737488351232) (hs : s.size ≤ 140737488351232) (n : Int) (h0 : 0 ≤ n) (hn : n ≤ 1048576) :
    ∃ r, laws_szRule.f b l a s n = some r ∧ (r < 0 ∨ (0 ≤ r ∧ r ≤ 1048576) ∧ b.size ≤ 1048576 ∧ l.size ≤ 1048576 ∧ a.size ≤ 1048576 ∧ s.size ≤ 1048576) := by
  unfold laws_szRule.f
  generalize b.size = b at *
  generalize l.size = l at *
  generalize a.size = a at *
  generalize s.size = s at *
  rw [w64 (x := n - b) (by omega) (by omega)]
  by_cases c1 : n - (b : Int) < 0
  · rw [if_pos c1]; exact ⟨_, rfl, .inl (by omega)⟩
  rw [if_neg c1, w64 (x := n - b - l) (by omega) (by omega)]
  by_cases c2 : n - (b : Int) - l < 0
  · rw [if_pos c2]; exact ⟨_, rfl, .inl (by omega)⟩
  rw [if_neg c2, w64 (x := n - b - l - a) (by omega) (by omega)]
  by_cases c3 : n - (b : Int) - l - a < 0
  · rw [if_pos c3]; exact ⟨_, rfl, .inl (by omega)⟩
  rw [if_neg c3, w64 (x := n - b - l - a - s) (by omega) (by omega)]
  by_cases c4 : n - (b : Int) - l - a - s < 0
  · rw [if_pos c4]; exact ⟨_, rfl, .inl (by omega)⟩
  rw [if_neg c4]
  exact ⟨_, rfl, .inr ⟨⟨by omega, by omega⟩, by omega, by omega, by omega, by omega⟩⟩
theorem szl (l : List SL) (hl : l.length ≤ 1048576) (ho : ∀ x ∈ l, okS x) (d : Nat) : ∀ (k : Nat) (a : Int) (i : Nat), i + d = l.length → d < k → 0 ≤ a → a ≤ 1048576 →
    ∃ r, laws_szRuleS.l0 k l a (i : Int) = some r ∧ (r < 0 ∨ ∀ j (h : j < l.length), i ≤ j → okR ⟨(l[j]'h).f0, (l[j]'h).f1, (l[j]'h).f2, (l[j]'h).f3⟩) := by
  induction d with
  | zero =>
    intro k a i h1 hk _ _
    obtain ⟨k, rfl⟩ : ∃ m, k = m + 1 := ⟨k - 1, by omega⟩
    rw [laws_szRuleS.l0, if_neg (nlt (by omega))]
    exact ⟨_, rfl, .inr (fun j h hj => by omega)⟩
  | succ d ih =>
    intro k a i h1 hk ha hb
    obtain ⟨k, rfl⟩ : ∃ m, k = m + 1 := ⟨k - 1, by omega⟩
    have hi : i < l.length := by omega
    obtain ⟨o1, o2, o3, o4⟩ := ho _ (List.getElem_mem hi)
    obtain ⟨r, hr, h⟩ := szR2 (l[i]'hi).f0 (l[i]'hi).f1 (l[i]'hi).f2 (l[i]'hi).f3 o1 o2 o3 o4 a ha hb
    rw [laws_szRuleS.l0, if_pos (lt' hi), if_pos (nn i), rdL_at hi, hr, Option.bind_some]
    by_cases c : r < 0
    · rw [if_pos c]; exact ⟨_, rfl, .inl (by omega)⟩
    · obtain ⟨⟨h2, h3⟩, h4⟩ := h.resolve_left c
      obtain ⟨q, hq, hq2⟩ := ih k r (i + 1) (by omega) (by omega) h2 h3
      rw [if_neg c, up hi (by omega)]
      refine ⟨q, hq, ?_⟩
      rcases hq2 with hq2 | hq2
      · exact .inl hq2
      · refine .inr fun j h hj => ?_
        by_cases e : j = i
        · subst e; exact h4
        · exact hq2 j h (by omega)
theorem szs (l : List SL) (hl : l.length ≤ 9223372036854775807) (ho : ∀ x ∈ l, okS x) (n : Int) (h0 : 0 ≤ n) (hn : n ≤ 1048576) : ∃ r, (r < 0 ∨ l.length ≤ 1048576 ∧ ∀ x ∈ convR l, okR x) ∧ ∀ k, 1048577 ≤ k → laws_szRuleS.f k l n = some r := by
  by_cases c : wrap64 (n - (l.length : Int)) < 0
  · exact ⟨-1, .inl (by decide), fun k _ => by unfold laws_szRuleS.f; rw [if_pos c]⟩
  · have e : wrap64 (n - (l.length : Int)) = n - (l.length : Int) := w64 (by omega) (by omega)
    rw [e] at c
    obtain ⟨r, hr, h⟩ := szl l (by omega) ho l.length 1048577 (n - (l.length : Int)) 0 (by omega) (by omega) (by omega) (by omega)
    refine ⟨r, ?_, fun k hk => at_rounds (g := fun k => laws_szRuleS.f k l n) (laws_szRuleS.mono l n) hk (by unfold laws_szRuleS.f; rw [e, if_neg c]; exact hr)⟩
    rcases h with h | h
    · exact .inl h
    · refine .inr ⟨by omega, fun x hx => ?_⟩
      obtain ⟨j, hj, rfl⟩ := List.getElem_of_mem hx
      have hj2 : j < l.length := by rw [convR_len] at hj; exact hj
      have h2 := convR_at hj2
      rw [List.getElem?_eq_getElem hj] at h2
      rw [Option.some.inj h2]
      exact h j hj2 (Nat.zero_le _)
theorem tol (l : List SL) (hl : l.length ≤ 1048576) (d : Nat) : ∀ (k : Nat) (ys : List SI) (i : Nat), i + d = l.length → d < k → ys.length = l.length → ys.take i = (convR l).take i → laws_toRuleS.l0 k l ys (i : Int) = some (convR l) := by
  induction d with
  | zero =>
    intro k ys i h1 hk hy ht
    obtain ⟨k, rfl⟩ : ∃ m, k = m + 1 := ⟨k - 1, by omega⟩
    obtain rfl : i = l.length := by omega
    rw [laws_toRuleS.l0, if_neg (nlt (Nat.le_refl _))]
    rw [List.take_of_length_le (by omega), List.take_of_length_le (by rw [convR_len]; exact Nat.le_refl _)] at ht
    rw [ht]
  | succ d ih =>
    intro k ys i h1 hk hy ht
    obtain ⟨k, rfl⟩ : ∃ m, k = m + 1 := ⟨k - 1, by omega⟩
    have hi : i < l.length := by omega
    have hiy : i < ys.length := by omega
    have hset := take_set_succ (by rw [convR_len]; exact hi) (by rw [convR_len]; exact hy) ht (convR_at hi)
    rw [laws_toRuleS.l0, if_pos (lt' hi), if_pos (nn i), rdL_at hi]
    unfold laws_toRule.f
    rw [Option.bind_some]
    dsimp only
    rw [if_pos (lt' hiy), up hi (by omega), Int.toNat_natCast]
    exact ih k _ (i + 1) (by omega) (by omega) (by rw [List.length_set]; exact hy) hset
theorem tos (l : List SL) (hl : l.length ≤ 1048576) (k : Nat) (hk : 1048577 ≤ k) : laws_toRuleS.f k l = some (convR l) := by
  unfold laws_toRuleS.f
  rw [if_pos (nn _), if_pos (by omega)]
  exact tol l hl l.length k _ 0 (by omega) (by omega) (by rw [List.length_replicate]; omega) rfl
theorem eqR_refl (x0 x1 x2 x3 : ByteArray) : laws_eqRule.f x0 x1 x2 x3 x0 x1 x2 x3 = some true := by
  unfold laws_eqRule.f
  rw [if_pos rfl, if_pos rfl, if_pos rfl, if_pos rfl]
theorem eqRl (l : List SI) (hl : l.length ≤ 1048576) (d : Nat) : ∀ (k i : Nat), i + d = l.length → d < k → laws_eqRuleS.l0 k l l (i : Int) = some true := by
  induction d with
  | zero =>
    intro k i h1 hk
    obtain ⟨k, rfl⟩ : ∃ m, k = m + 1 := ⟨k - 1, by omega⟩
    rw [laws_eqRuleS.l0, if_neg (nlt (by omega))]
  | succ d ih =>
    intro k i h1 hk
    obtain ⟨k, rfl⟩ : ∃ m, k = m + 1 := ⟨k - 1, by omega⟩
    have hi : i < l.length := by omega
    rw [laws_eqRuleS.l0, if_pos (lt' hi), if_pos (nn i), if_pos (lt' hi), eqR_refl, Option.bind_some, if_pos rfl, up hi (by omega)]
    exact ih k (i + 1) (by omega) (by omega)
theorem eqRs (l : List SI) (hl : l.length ≤ 1048576) (k : Nat) (hk : 1048577 ≤ k) : laws_eqRuleS.f k l l = some true := by
  unfold laws_eqRuleS.f
  rw [if_pos rfl]
  exact eqRl l hl l.length k 0 (by omega) (by omega)
theorem mtl (m : Nat) : ∀ (k x : Nat) (s : ByteArray), x < 10 ^ m → m < k → s.size + m ≤ 1000 → x ≤ 1000000000 → ∃ t, laws_markText.l0 k (x : Int) s = some t := by
  induction m with
  | zero =>
    intro k x s hx hk hs h9
    obtain ⟨k, rfl⟩ : ∃ m, k = m + 1 := ⟨k - 1, by omega⟩
    have hx0 : x = 0 := by simpa using hx
    rw [laws_markText.l0, if_neg (by omega), if_pos (by omega)]
    exact ⟨_, rfl⟩
  | succ m ih =>
    intro k x s hx hk hs h9
    obtain ⟨k, rfl⟩ : ∃ m, k = m + 1 := ⟨k - 1, by omega⟩
    by_cases c : (x : Int) > 0
    · have hd : wrap64 (Int.tdiv (x : Int) 10) = ((x / 10 : Nat) : Int) := by
        rw [Int.tdiv_eq_ediv_of_nonneg (by omega), w64 (by omega) (by omega)]; omega
      have h10 : x / 10 < 10 ^ m := by
        rw [Nat.pow_succ] at hx
        exact Nat.div_lt_of_lt_mul (by rw [Nat.mul_comm]; exact hx)
      rw [laws_markText.l0, if_pos c, Option.bind_some, hd]
      have hsz : ∀ z : Int, (strOfNums [z]).size = 1 := fun z => by simp [strOfNums, ByteArray.size]
      rw [hsz, if_pos (by omega)]
      exact ih k (x / 10) _ h10 (by omega) (by rw [ByteArray.size_append, hsz]; omega) (by omega)
    · rw [laws_markText.l0, if_neg c, if_pos (by omega)]
      exact ⟨_, rfl⟩
theorem mt_some (x : Nat) (hx : x < 100000000) (k : Nat) (hk : 8 < k) : ∃ t, laws_markText.f k (x : Int) = some t := by
  unfold laws_markText.f
  by_cases c : (x : Int) ≤ 0
  · rw [if_pos c]; exact ⟨_, rfl⟩
  · rw [if_neg c]
    exact mtl 8 k x _ (by omega) hk (by decide) (by omega)
theorem mrl (d : Nat) : ∀ (k x : Nat) (l : List SI) (i : Nat), i + d = l.length → d + 8 < k → x + 4 * d ≤ 90000000 → l.length ≤ 1048576 → ∃ r zs, laws_markRuleS.l0 k l (x : Int) (i : Int) = some (r, zs) ∧ 0 ≤ r := by
  induction d with
  | zero =>
    intro k x l i h1 hk hx hl
    obtain ⟨k, rfl⟩ : ∃ m, k = m + 1 := ⟨k - 1, by omega⟩
    rw [laws_markRuleS.l0, if_neg (nlt (by omega))]
    exact ⟨_, _, rfl, nn x⟩
  | succ d ih =>
    intro k x l i h1 hk hx hl
    obtain ⟨k, rfl⟩ : ∃ m, k = m + 1 := ⟨k - 1, by omega⟩
    have hi : i < l.length := by omega
    obtain ⟨t1, e1⟩ := mt_some x (by omega) k (by omega)
    obtain ⟨t2, e2⟩ := mt_some (x + 1) (by omega) k (by omega)
    obtain ⟨t3, e3⟩ := mt_some (x + 1 + 1) (by omega) k (by omega)
    obtain ⟨t4, e4⟩ := mt_some (x + 1 + 1 + 1) (by omega) k (by omega)
    have w1 : wrap64 ((x : Int) + 1) = ((x + 1 : Nat) : Int) := by rw [w64 (by omega) (by omega)]; omega
    have w2 : wrap64 (((x + 1 : Nat) : Int) + 1) = ((x + 1 + 1 : Nat) : Int) := by rw [w64 (by omega) (by omega)]; omega
    have w3 : wrap64 (((x + 1 + 1 : Nat) : Int) + 1) = ((x + 1 + 1 + 1 : Nat) : Int) := by rw [w64 (by omega) (by omega)]; omega
    have w4 : wrap64 (((x + 1 + 1 + 1 : Nat) : Int) + 1) = ((x + 1 + 1 + 1 + 1 : Nat) : Int) := by rw [w64 (by omega) (by omega)]; omega
    rw [laws_markRuleS.l0, if_pos (lt' hi), e1, Option.bind_some, if_pos (nn i), Option.bind_some, w1, e2, Option.bind_some, Option.bind_some, w2, e3, Option.bind_some, Option.bind_some, w3, e4, Option.bind_some, w4, up hi (by omega)]
    exact ih k _ _ (i + 1) (by simp only [List.length_set]; omega) (by omega) (by omega) (by simp only [List.length_set]; exact hl)
theorem mr_some (l : List SI) (hl : l.length ≤ 1048576) (k : Nat) (hk : 1048600 ≤ k) : ∃ r zs, laws_markRuleS.f k l 1 = some (r, zs) ∧ ¬ r < 0 := by
  obtain ⟨r, zs, h1, h2⟩ := mrl l.length k 1 l 0 (by omega) (by omega) (by omega) hl
  exact ⟨r, zs, h1, by omega⟩
theorem rdN_at {l : List Int} {i : Nat} (h : i < l.length) : rd l (i : Int) = l[i]'h := by
  unfold rd
  rw [Int.toNat_natCast, List.getD_eq_getElem?_getD, List.getElem?_eq_getElem h]; rfl
theorem eqIl (l : List Int) (hl : l.length ≤ 4194304) (d : Nat) : ∀ (k i : Nat), i + d = l.length → d < k → laws_eqInt64S.l0 k l l (i : Int) = some true := by
  induction d with
  | zero =>
    intro k i h1 hk
    obtain ⟨k, rfl⟩ : ∃ m, k = m + 1 := ⟨k - 1, by omega⟩
    rw [laws_eqInt64S.l0, if_neg (nlt (by omega))]
  | succ d ih =>
    intro k i h1 hk
    obtain ⟨k, rfl⟩ : ∃ m, k = m + 1 := ⟨k - 1, by omega⟩
    have hi : i < l.length := by omega
    rw [laws_eqInt64S.l0, if_pos (lt' hi), if_pos (nn i), if_pos (lt' hi), if_pos rfl, up hi (by omega)]
    exact ih k (i + 1) (by omega) (by omega)
theorem eqIs (l : List Int) (hl : l.length ≤ 4194303) (k : Nat) (hk : 4194304 ≤ k) : laws_eqInt64S.f k l l = some true := by
  unfold laws_eqInt64S.f
  rw [if_pos rfl]
  exact eqIl l (by omega) l.length k 0 (by omega) (by omega)
def marksI (n : Nat) : List Int := (List.range n).map fun j => ((1 + j : Nat) : Int)
theorem marksI_len (n : Nat) : (marksI n).length = n := by unfold marksI; rw [List.length_map, List.length_range]
theorem marksI_at {n i : Nat} (h : i < n) : (marksI n)[i]? = some ((1 + i : Nat) : Int) := by
  unfold marksI
  rw [List.getElem?_map, List.getElem?_range h]; rfl
theorem markIl (n : Nat) (hn : n ≤ 4194303) (d : Nat) : ∀ (k : Nat) (xs : List Int) (i : Nat), i + d = n → xs.length = n → xs.take i = (marksI n).take i → d < k →
    laws_markInt64S.l0 k xs ((1 + i : Nat) : Int) (i : Int) = some (((1 + n : Nat) : Int), marksI n) := by
  induction d with
  | zero =>
    intro k xs i h1 hl ht hk
    obtain ⟨k, rfl⟩ : ∃ m, k = m + 1 := ⟨k - 1, by omega⟩
    obtain rfl : i = n := by omega
    rw [laws_markInt64S.l0, if_neg (by omega)]
    rw [List.take_of_length_le (by omega), List.take_of_length_le (by rw [marksI_len]; exact Nat.le_refl _)] at ht
    rw [ht]
  | succ d ih =>
    intro k xs i h1 hl ht hk
    obtain ⟨k, rfl⟩ : ∃ m, k = m + 1 := ⟨k - 1, by omega⟩
    have hi : i < n := by omega
    have hix : i < xs.length := by omega
    have e2 : wrap64 (((1 + i : Nat) : Int) + 1) = ((1 + (i + 1) : Nat) : Int) := by rw [w64 (by omega) (by omega)]; omega
    have hset := take_set_succ (by rw [marksI_len]; exact hi) (by rw [marksI_len]; exact hl) ht (marksI_at hi)
    rw [laws_markInt64S.l0, if_pos (lt' hix), if_pos (nn i), up hix (by omega), e2, Int.toNat_natCast]
    exact ih k _ (i + 1) (by omega) (by rw [List.length_set]; exact hl) hset (by omega)
theorem markI_some (l : List Int) (hl : l.length ≤ 4194303) (k : Nat) (hk : l.length < k) : laws_markInt64S.f k l 1 = some (((1 + l.length : Nat) : Int), marksI l.length) :=
  markIl l.length hl l.length k l 0 (by omega) rfl rfl hk
theorem heldIl (n : Nat) (hn : n ≤ 4194303) (d : Nat) : ∀ (k i : Nat), i + d = n → d < k → laws_heldInt64S.l0 k (marksI n) ((1 + i : Nat) : Int) (i : Int) = some ((1 + n : Nat) : Int) := by
  induction d with
  | zero =>
    intro k i h1 hk
    obtain ⟨k, rfl⟩ : ∃ m, k = m + 1 := ⟨k - 1, by omega⟩
    obtain rfl : i = n := by omega
    rw [laws_heldInt64S.l0, if_neg (by rw [marksI_len]; omega)]
  | succ d ih =>
    intro k i h1 hk
    obtain ⟨k, rfl⟩ : ∃ m, k = m + 1 := ⟨k - 1, by omega⟩
    have hi : i < n := by omega
    have hi2 : i < (marksI n).length := by rw [marksI_len]; exact hi
    have e2 : wrap64 (((1 + i : Nat) : Int) + 1) = ((1 + (i + 1) : Nat) : Int) := by rw [w64 (by omega) (by omega)]; omega
    have e3 : (marksI n)[i]'hi2 = ((1 + i : Nat) : Int) := by
      have := marksI_at hi
      rw [List.getElem?_eq_getElem hi2] at this
      exact Option.some.inj this
    rw [laws_heldInt64S.l0, if_pos (lt' hi2), if_pos (nn i), rdN_at hi2, e3, if_pos rfl, up hi2 (by rw [marksI_len]; omega), e2]
    exact ih k (i + 1) (by omega) (by omega)
theorem heldI_some (n : Nat) (hn : n ≤ 4194303) (k : Nat) (hk : n < k) : laws_heldInt64S.f k (marksI n) 1 = some ((1 + n : Nat) : Int) := heldIl n hn n k 0 (by omega) hk
def rB (x : SI) : Bool := ruleB x.f0 x.f1 x.f2 x.f3
theorem rules_s (l : List SI) (ho : ∀ x ∈ l, okR x) (d : Nat) : ∀ (k i : Nat), i + d = l.length → 2 * d + 8388630 < k → spec_l07Rules.l0 k l (i : Int) = some (decide (l.length ≤ 48) && (l.drop i).all rB) := by
  induction d with
  | zero =>
    intro k i h1 hk
    obtain ⟨k, rfl⟩ : ∃ m, k = m + 1 + 1 := ⟨k - 2, by omega⟩
    rw [spec_l07Rules.l0, if_neg (nlt (by omega)), spec_l07Rules.j1, if_neg Bool.false_ne_true, List.drop_of_length_le (by omega), List.all_nil, Bool.and_true]
    congr 1
    rw [decide_eq_decide]; omega
  | succ d ih =>
    intro k i h1 hk
    obtain ⟨k, rfl⟩ : ∃ m, k = m + 1 + 1 := ⟨k - 2, by omega⟩
    have hi : i < l.length := by omega
    obtain ⟨o1, o2, o3, o4⟩ := ho _ (List.getElem_mem hi)
    rw [spec_l07Rules.l0, if_pos (lt' hi)]
    by_cases c : (l.length : Int) ≤ 48
    · have hr := rule_s (l[i]'hi).f0 (l[i]'hi).f1 (l[i]'hi).f2 (l[i]'hi).f3 (by omega) (by omega) (by omega) (by omega) k (by omega)
      have hr' : spec_l07Rule.f k [l[i]'hi] = some (rB (l[i]'hi)) := hr
      rw [decide_eq_true c, spec_l07Rules.j1, if_pos rfl, if_pos (nn i), if_pos (lt' hi), rdI_at hi, hr', Option.bind_some, List.drop_eq_getElem_cons hi, List.all_cons, up hi (by omega)]
      by_cases x : rB (l[i]'hi) = true
      · rw [if_pos x, ih k (i + 1) (by omega) (by omega), x, Bool.true_and]
      · rw [if_neg x]
        rw [Bool.not_eq_true] at x
        rw [x, Bool.false_and, Bool.and_false]
    · rw [decide_eq_false c, spec_l07Rules.j1, if_neg Bool.false_ne_true, decide_eq_false c, decide_eq_false (by omega), Bool.false_and]
/-- at most 48 valid rules -/
def rulesB (l : List SI) : Bool := decide (l.length ≤ 48) && l.all rB
theorem rules_f (l : List SI) (hl : l.length ≤ 1048576) (ho : ∀ x ∈ l, okR x) (k : Nat) (hk : 12000000 < k) : spec_l07Rules.f k l = some (rulesB l) := rules_s l ho l.length k 0 (by omega) (by omega)
theorem ixR (l : List SI) (hl : l.length ≤ 1048576) (ho : ∀ x ∈ l, okR x) (d : Nat) : ∀ (k i : Nat), i + d = l.length → d + 8388630 < k →
    ∃ r : Int, slices_IndexFunc_v_impl_areRules_1.l0 k l (l.length : Int) (i : Int) = some r ∧ (0 ≤ r ↔ (l.drop i).all rB = false) := by
  induction d with
  | zero =>
    intro k i h1 hk
    obtain ⟨k, rfl⟩ : ∃ m, k = m + 1 := ⟨k - 1, by omega⟩
    rw [slices_IndexFunc_v_impl_areRules_1.l0, if_neg (nlt (by omega)), List.drop_of_length_le (by omega), List.all_nil]
    exact ⟨-1, rfl, by simp⟩
  | succ d ih =>
    intro k i h1 hk
    obtain ⟨k, rfl⟩ : ∃ m, k = m + 1 := ⟨k - 1, by omega⟩
    have hi : i < l.length := by omega
    obtain ⟨o1, o2, o3, o4⟩ := ho _ (List.getElem_mem hi)
    have hr : impl_areRules_1.f k (l[i]'hi).f0 (l[i]'hi).f1 (l[i]'hi).f2 (l[i]'hi).f3 = some (!rB (l[i]'hi)) := by
      unfold impl_areRules_1.f
      rw [rule_i _ _ _ _ (by omega) (by omega) (by omega) (by omega) k (by omega)]; rfl
    have e1 := up hi (by omega)
    obtain ⟨r, h3, h4⟩ := ih k (i + 1) (by omega) (by omega)
    rw [slices_IndexFunc_v_impl_areRules_1.l0, if_pos (lt' hi), if_pos (nn i), if_pos (lt' hi), rdI_at hi, hr, Option.bind_some, List.drop_eq_getElem_cons hi, List.all_cons]
    by_cases h : rB (l[i]'hi) = true
    · rw [h, if_neg (by simp), e1, Bool.true_and]
      exact ⟨r, h3, h4⟩
    · rw [Bool.not_eq_true] at h
      rw [h, if_pos (show (!false) = true from rfl), Bool.false_and]
      exact ⟨(i : Int), rfl, by simp⟩
theorem areRules_f (l : List SI) (hl : l.length ≤ 1048576) (ho : ∀ x ∈ l, okR x) (k : Nat) (hk : 12000000 < k) : impl_areRules.f k l = some (rulesB l) := by
  unfold impl_areRules.f rulesB
  by_cases c : (l.length : Int) ≤ 48
  · obtain ⟨r, hr, hr2⟩ := ixR l hl ho l.length k 0 (by omega) (by omega)
    have hr' : slices_IndexFunc_v_impl_areRules_1.l0 k l (l.length : Int) 0 = some r := hr
    rw [List.drop_zero] at hr2
    rw [if_pos c, decide_eq_true (by omega), Bool.true_and]
    unfold slices_ContainsFunc_v_impl_areRules_1.f slices_IndexFunc_v_impl_areRules_1.f
    rw [hr', Option.bind_some, Option.bind_some]
    cases hx : l.all rB with
    | true =>
      rw [hx] at hr2
      rw [decide_eq_false (fun e => by cases hr2.1 e)]; rfl
    | false =>
      rw [hx] at hr2
      rw [decide_eq_true (hr2.2 rfl)]; rfl
  · rw [if_neg c, decide_eq_false (by omega), Bool.false_and]
/-- is a rule dead behind another one -/
def dB (q r : SI) : Bool := decide (q.f0.size = 0) && (decide (q.f2.size = 0) && decide (q.f1.size ≤ r.f1.size ∧ r.f1.extract 0 q.f1.size = q.f1))
theorem one_rd (x : SI) : rd_T26 [x] 0 = x := rfl
theorem dead1 (q r : SI) : impl_DeadRules_1.f q.f0 q.f1 q.f2 q.f3 [r] = some (dB q r) := by
  unfold impl_DeadRules_1.f dB
  by_cases c1 : q.f0.toList = ([] : List UInt8)
  · rw [if_pos c1, decide_eq_true (nil_iff.1 c1), Bool.true_and]
    by_cases c2 : q.f2.toList = ([] : List UInt8)
    · have h1 : (0 : Int) < (([r] : List SI).length : Int) := by show (0 : Int) < 1; decide
      rw [if_pos c2, decide_eq_true (nil_iff.1 c2), Bool.true_and, if_pos h1, one_rd]
      unfold strings_HasPrefix.f stringslite_HasPrefix.f
      by_cases c3 : (r.f1.size : Int) ≥ (q.f1.size : Int)
      · rw [if_pos c3, if_pos (nn _), if_pos c3, Option.bind_some, Option.bind_some, Int.toNat_natCast]
        congr 1
        rw [Bool.eq_iff_iff, beq_iff_eq, decide_eq_true_iff, list_eq_iff]
        constructor
        · exact fun h => ⟨by omega, h⟩
        · exact fun h => h.2
      · rw [if_neg c3, Option.bind_some, Option.bind_some, decide_eq_false (fun h => c3 (le' h.1))]
    · rw [if_neg c2, decide_eq_false (fun h => c2 (nil_iff.2 h)), Bool.false_and]
  · rw [if_neg c1, decide_eq_false (fun h => c1 (nil_iff.2 h)), Bool.false_and]
theorem ixD (r : SI) (l : List SI) (hl : l.length ≤ 1048576) (d : Nat) : ∀ (k i : Nat), i + d = l.length → d < k →
    ∃ z : Int, slices_IndexFunc_v_impl_DeadRules_1.l0 k l (l.length : Int) (i : Int) [r] = some z ∧ (0 ≤ z ↔ (l.drop i).any (fun q => dB q r) = true) := by
  induction d with
  | zero =>
    intro k i h1 hk
    obtain ⟨k, rfl⟩ : ∃ m, k = m + 1 := ⟨k - 1, by omega⟩
    rw [slices_IndexFunc_v_impl_DeadRules_1.l0, if_neg (nlt (by omega)), List.drop_of_length_le (by omega), List.any_nil]
    exact ⟨-1, rfl, by simp⟩
  | succ d ih =>
    intro k i h1 hk
    obtain ⟨k, rfl⟩ : ∃ m, k = m + 1 := ⟨k - 1, by omega⟩
    have hi : i < l.length := by omega
    have e1 := up hi (by omega)
    obtain ⟨z, h3, h4⟩ := ih k (i + 1) (by omega) (by omega)
    rw [slices_IndexFunc_v_impl_DeadRules_1.l0, if_pos (lt' hi), if_pos (nn i), if_pos (lt' hi), rdI_at hi, dead1, Option.bind_some, List.drop_eq_getElem_cons hi, List.any_cons]
    by_cases h : dB (l[i]'hi) r = true
    · rw [if_pos h, h, Bool.true_or]
      exact ⟨(i : Int), rfl, by simp⟩
    · rw [if_neg h, e1]
      rw [Bool.not_eq_true] at h
      rw [h, Bool.false_or]
      exact ⟨z, h3, h4⟩
theorem hasD (r : SI) (l : List SI) (hl : l.length ≤ 1048576) (k : Nat) (hk : l.length < k) : slices_ContainsFunc_v_impl_DeadRules_1.f k l [r] = some (l.any (fun q => dB q r)) := by
  obtain ⟨z, hz, hz2⟩ := ixD r l hl l.length k 0 (by omega) hk
  have hz' : slices_IndexFunc_v_impl_DeadRules_1.l0 k l (l.length : Int) 0 [r] = some z := hz
  rw [List.drop_zero] at hz2
  unfold slices_ContainsFunc_v_impl_DeadRules_1.f slices_IndexFunc_v_impl_DeadRules_1.f
  rw [hz', Option.bind_some]
  congr 1
  rw [Bool.eq_iff_iff, decide_eq_true_iff]
  exact hz2
/-- the spec's inner loop -/
theorem inner (l : List SI) (hl : l.length ≤ 1048576) (x4 : List Int) (n x16 : Int) (i : Nat) (hi : i < l.length) (d : Nat) : ∀ (k j : Nat) (f : Bool), j + d = i →
    spec_DeadRules.l1 (k + d + 1) l x4 (i : Int) f (j : Int) n x16 = (if (f || ((l.take i).drop j).any (fun q => dB q (l[i]'hi))) = true then (if x4.length < 17592186044416 then (spec_DeadRules.l0 k l (x4 ++ [(i : Int)]) n (wrap64 (x16 + 1))) else none) else (spec_DeadRules.l0 k l x4 n (wrap64 (x16 + 1)))) := by
  induction d with
  | zero =>
    intro k j f h1
    obtain rfl : j = i := by omega
    rw [Nat.add_zero, spec_DeadRules.l1, if_neg (nlt (Nat.le_refl _)), List.drop_of_length_le (by rw [List.length_take]; omega), List.any_nil, Bool.or_false]
  | succ d ih =>
    intro k j f h1
    have hj : j < i := by omega
    have hjl : j < l.length := by omega
    have hjt : j < (l.take i).length := by rw [List.length_take]; omega
    have e1 := up hj (by omega)
    have hget : (l.take i)[j]'hjt = l[j]'hjl := List.getElem_take
    have step : ∀ b : Bool, b = (f || dB (l[j]'hjl) (l[i]'hi)) → spec_DeadRules.l1 (k + d + 1) l x4 (i : Int) b ((j + 1 : Nat) : Int) n x16 = (if (f || ((l.take i).drop j).any (fun q => dB q (l[i]'hi))) = true then (if x4.length < 17592186044416 then (spec_DeadRules.l0 k l (x4 ++ [(i : Int)]) n (wrap64 (x16 + 1))) else none) else (spec_DeadRules.l0 k l x4 n (wrap64 (x16 + 1)))) := by
      intro b hb
      rw [ih k (j + 1) b (by omega), hb, List.drop_eq_getElem_cons hjt, List.any_cons, hget, Bool.or_assoc]
    rw [← Nat.add_assoc, spec_DeadRules.l1, if_pos (lt' hj), if_pos (nn j), if_pos (lt' hjl), rdI_at hjl, e1]
    have hdef : dB (l[j]'hjl) (l[i]'hi) = (decide ((l[j]'hjl).f0.size = 0) && (decide ((l[j]'hjl).f2.size = 0) && decide ((l[j]'hjl).f1.size ≤ (l[i]'hi).f1.size ∧ (l[i]'hi).f1.extract 0 (l[j]'hjl).f1.size = (l[j]'hjl).f1))) := rfl
    by_cases c1 : (l[j]'hjl).f0.toList = ([] : List UInt8)
    · rw [if_pos c1]
      cases f with
      | true => rw [if_pos rfl]; exact step true (by rw [Bool.true_or])
      | false =>
        rw [if_neg Bool.false_ne_true]
        rw [decide_eq_true (nil_iff.1 c1), Bool.true_and] at hdef
        by_cases c2 : (l[j]'hjl).f2.toList = ([] : List UInt8)
        · rw [decide_eq_true (nil_iff.1 c2), Bool.true_and] at hdef
          rw [if_pos c2, if_pos (nn i), if_pos (lt' hi), rdI_at hi]
          by_cases c3 : ((l[j]'hjl).f1.size : Int) ≤ ((l[i]'hi).f1.size : Int)
          · rw [if_pos c3, if_pos (nn _), Int.toNat_natCast]
            refine step _ ?_
            rw [Bool.false_or, hdef, Bool.eq_iff_iff, beq_iff_eq, decide_eq_true_iff, list_eq_iff]
            constructor
            · exact fun h => ⟨Int.ofNat_le.1 c3, h⟩
            · exact fun h => h.2
          · rw [if_neg c3]
            refine step _ ?_
            rw [Bool.false_or, hdef, decide_eq_false (fun h => c3 (le' h.1))]
        · rw [if_neg c2]
          refine step _ ?_
          rw [Bool.false_or, hdef, decide_eq_false (fun h => c2 (nil_iff.2 h)), Bool.false_and]
    · rw [if_neg c1]
      rw [decide_eq_false (fun h => c1 (nil_iff.2 h)), Bool.false_and] at hdef
      cases f with
      | true => rw [if_pos rfl]; exact step true (by rw [Bool.true_or])
      | false =>
        rw [if_neg Bool.false_ne_true]
        refine step _ ?_
        rw [Bool.false_or, hdef]
theorem outer (l : List SI) (hl : l.length ≤ 48) (d : Nat) : ∀ (k1 k2 : Nat) (x4 : List Int) (i : Nat), i + d = l.length → x4.length ≤ i → 60 * d + 1 < k1 → d + 50 < k2 →
    ∃ r : List Int, r.length ≤ 48 ∧ spec_DeadRules.l0 k1 l x4 (l.length : Int) (i : Int) = some (r, true) ∧ impl_DeadRules.l0 k2 l x4 l (l.length : Int) (i : Int) = some (r, true) := by
  induction d with
  | zero =>
    intro k1 k2 x4 i h1 hx h2 h3
    obtain ⟨k1, rfl⟩ : ∃ m, k1 = m + 1 := ⟨k1 - 1, by omega⟩
    obtain ⟨k2, rfl⟩ : ∃ m, k2 = m + 1 := ⟨k2 - 1, by omega⟩
    refine ⟨x4, by omega, ?_, ?_⟩
    · rw [spec_DeadRules.l0, if_neg (nlt (by omega))]
    · rw [impl_DeadRules.l0, if_neg (nlt (by omega))]
  | succ d ih =>
    intro k1 k2 x4 i h1 hx h2 h3
    have hi : i < l.length := by omega
    have e1 := up hi (by omega)
    obtain ⟨k1, rfl⟩ : ∃ m, k1 = m + i + 1 + 1 := ⟨k1 - i - 2, by omega⟩
    obtain ⟨k2, rfl⟩ : ∃ m, k2 = m + 1 := ⟨k2 - 1, by omega⟩
    have hin := inner l (by omega) x4 (l.length : Int) (i : Int) i hi i k1 0 false (by omega)
    rw [Bool.false_or, List.drop_zero, e1] at hin
    have hin' : spec_DeadRules.l1 (k1 + i + 1) l x4 (i : Int) false 0 (l.length : Int) (i : Int) = _ := hin
    have hlt : (l.take i).length = i := by rw [List.length_take]; omega
    have hh := hasD (l[i]'hi) (l.take i) (by rw [hlt]; omega) k2 (by rw [hlt]; omega)
    have hh' : slices_ContainsFunc_v_impl_DeadRules_1.f k2 (l.take i) [(⟨(l[i]'hi).f0, (l[i]'hi).f1, (l[i]'hi).f2, (l[i]'hi).f3⟩ : SI)] = _ := hh
    have hx4 : x4.length < 17592186044416 := by omega
    have i1 := ih k1 k2 (x4 ++ [(i : Int)]) (i + 1) (by omega) (by rw [List.length_append, List.length_singleton]; omega) (by omega) (by omega)
    have i2 := ih k1 k2 x4 (i + 1) (by omega) (by omega) (by omega) (by omega)
    rw [spec_DeadRules.l0, if_pos (lt' hi), hin', impl_DeadRules.l0, if_pos (lt' hi), if_pos (nn i), if_pos (lt' hi), if_pos (le' (Nat.le_of_lt hi)), Int.toNat_natCast, rdI_at hi, hh', Option.bind_some, e1]
    by_cases c : ((l.take i).any fun q => dB q (l[i]'hi)) = true
    · rw [if_pos c, if_pos c, if_pos hx4, if_pos hx4]
      exact i1
    · rw [if_neg c, if_neg c]
      exact i2
theorem both (l : List SI) (hl : l.length ≤ 1048576) (ho : ∀ x ∈ l, okR x) : ∃ r : List Int × Bool, r.1.length ≤ 48 ∧ ∀ k, 12000001 ≤ k → spec_DeadRules.f k l = some r ∧ impl_DeadRules.f k l = some r := by
  by_cases c : rulesB l = true
  · have hlen : l.length ≤ 48 := by
      unfold rulesB at c
      rw [Bool.and_eq_true] at c
      exact of_decide_eq_true c.1
    obtain ⟨r, h0, h1, h2⟩ := outer l hlen l.length 12000001 12000001 [] 0 (by omega) (by decide) (by omega) (by omega)
    refine ⟨(r, true), h0, fun k hk => ⟨at_rounds (g := fun k => spec_DeadRules.f k l) (spec_DeadRules.mono l) hk ?_, at_rounds (g := fun k => impl_DeadRules.f k l) (impl_DeadRules.mono l) hk ?_⟩⟩
    · unfold spec_DeadRules.f
      rw [rules_f l hl ho _ (by omega), Option.bind_some, if_pos c]; exact h1
    · unfold impl_DeadRules.f
      rw [areRules_f l hl ho _ (by omega), Option.bind_some, if_pos c]; exact h2
  · refine ⟨([], false), by decide, fun k hk => ⟨?_, ?_⟩⟩
    · unfold spec_DeadRules.f
      rw [rules_f l hl ho _ (by omega), Option.bind_some, if_neg c]
    · unfold impl_DeadRules.f
      rw [areRules_f l hl ho _ (by omega), Option.bind_some, if_neg c]
theorem pure (l : List SL) (hl : l.length ≤ 9223372036854775807) (ho : ∀ x ∈ l, okS x) : ∃ k, laws_FnExactDeadRules.f k l = some true := by
  obtain ⟨K, hK⟩ : ∃ K : Nat, K = 12000001 := ⟨_, rfl⟩
  refine ⟨K + 1 + 1 + 1, ?_⟩
  unfold laws_FnExactDeadRules.f
  obtain ⟨r0, h0, hr⟩ := szs l hl ho 1048576 (by decide) (by decide)
  rw [hr _ (by omega), Option.bind_some]
  by_cases c : r0 < 0
  · rw [if_pos c]
  · obtain ⟨hlen, hok⟩ := h0.resolve_left c
    have hcl : (convR l).length ≤ 1048576 := by rw [convR_len]; exact hlen
    obtain ⟨⟨r, ok⟩, hr48, h⟩ := both (convR l) hcl hok
    replace hr48 : r.length ≤ 48 := hr48
    obtain ⟨m, zs, hm, hm0⟩ := mr_some (convR l) hcl (K + 1 + 1) (by omega)
    have n0 : ¬ (((1 + r.length : Nat) : Int) < 0) := by omega
    rw [if_neg c, tos l hlen _ (by omega), Option.bind_some, (h _ (by omega)).1, Option.bind_some, Option.bind_some, (h _ (by omega)).2, Option.bind_some]
    dsimp only
    rw [eqIs r (by omega) _ (by omega), Option.bind_some, if_pos rfl, laws_FnExactDeadRules.j0, if_neg (by simp), tos l hlen _ (by omega), Option.bind_some, eqRs _ hcl _ (by omega), Option.bind_some, if_pos rfl, hm, Option.bind_some]
    dsimp only
    rw [if_neg hm0, eqIs r (by omega) _ (by omega), Option.bind_some, if_pos rfl, laws_FnExactDeadRules.j1, if_neg (by simp), markI_some r (by omega) _ (by omega), Option.bind_some]
    dsimp only
    rw [heldI_some r.length (by omega) _ (by omega), Option.bind_some, if_neg n0, if_pos rfl, tos l hlen _ (by omega), Option.bind_some, (h _ (by omega)).2, Option.bind_some]
    dsimp only
    rw [eqIs r (by omega) _ (by omega), Option.bind_some, if_pos rfl, laws_FnExactDeadRules.j2, if_neg (by simp), heldI_some r.length (by omega) _ (by omega), Option.bind_some, if_neg n0, if_pos rfl]
end Go.Proofs.YtjkpbmdkkdofkaaDoor.DrPure
namespace Go.Proofs.YtjkpbmdkkdofkaaDoor
open Go.RowKit Go.Proofs.YtjkpbmdkkdofkaaDoorW.PrintWords Go.Proofs.YtjkpbmdkkdofkaaDoor.PFnExactDeadRules Go.ChangeShapes Go.WideShapes
theorem opens_ruleS : Opens Tryd.prog 23 k23 DrPure.okS :=
  opens_imp (opens_struct (P := Tryd.prog) (fun x : S23 => (x.f0, x.f1, x.f2, x.f3)) (fun x => ⟨x.1, x.2.1, x.2.2.1, x.2.2.2⟩) (fun _ => rfl) Tryd.underlying23 rfl (N := 4) (by kernel_rfl)
    (opensF_cons rfl (off' := 1) (by kernel_rfl) (opens_str Tryd.underlying9) (opensF_cons rfl (off' := 2) (by kernel_rfl) (opens_str Tryd.underlying9) (opensF_cons rfl (off' := 3) (by kernel_rfl) (opens_str Tryd.underlying9) (opensF_last rfl (by kernel_rfl) (opens_str Tryd.underlying9))))))
    (fun x h => h)
theorem opens_rules : Opens Tryd.prog 37 (Kd.slice 23 k23) (fun l => l.length ≤ 9223372036854775807 ∧ l.length * 64 ≤ 140737488351232 ∧ ∀ x ∈ l, DrPure.okS x) :=
  opens_slice _ Tryd.underlying37 (by kernel_rfl) (by kernel_rfl) opens_ruleS
theorem deadRules_w (A0 : Option Addr) (c0 : Nat) (l0 : List S23) (w : World) (hr0 : Kd.C k23 w A0 l0.length l0) (hc0 : l0.length ≤ c0) (z0 : l0.length ≤ 9223372036854775807 ∧ l0.length * 64 ≤ 140737488351232 ∧ ∀ x ∈ l0, DrPure.okS x) :
    Calls Tryd.prog 7 #[.slice A0 l0.length c0] w fun e w' => e = .returned (.bool true) ∧ Below w.heap.size w w' := by
  obtain ⟨k, hk⟩ := DrPure.pure l0 z0.1 z0.2.2
  exact laws_FnExactDeadRules.calls k A0 c0 l0 true w hr0 hc0 hk
end Go.Proofs.YtjkpbmdkkdofkaaDoor
