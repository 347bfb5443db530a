import Derived.Test.YtmmcdpijpdjnoaaDoorPFnRulesReadx
import Derived.Test.YtmmcdpijpdjnoaaDoorLm
import Derived.Test.YtmmcdpijpdjnoaaDoorOp
import Derived.Lib.IndexBytes
set_option linter.unusedVariables false
set_option linter.unusedSimpArgs false
namespace Go.Proofs.YtmmcdpijpdjnoaaDoor.RrPure
open Go.RowKit Go.Proofs.YtmmcdpijpdjnoaaDoorW.PrintWords Go.Proofs.YtmmcdpijpdjnoaaDoor.PFnRulesRead Go.Proofs.YtmmcdpijpdjnoaaDoor.Lm
theorem cutl (s : ByteArray) (hs : s.size ≤ 4194304) (c : UInt8) : ∀ (d k : Nat) (out : List ByteArray) (a i : Nat), i + d = s.size → a ≤ i → c ∉ (s.data.toList.drop a).take (i - a) → out.length ≤ i → d + 1 < k →
    spec_l01Cut.l0 k s ((c.toNat : Nat) : Int) out (a : Int) (i : Int) = some (out ++ (cut c (s.data.toList.drop a)).map ba)
  | d, 0, out, a, i, h1, ha, hc, ho, hk => by omega
  | 0, k + 1, out, a, i, h1, ha, hc, ho, hk => by
    obtain ⟨k, rfl⟩ : ∃ m, k = m + 1 := ⟨k - 1, by omega⟩
    have hi : i = s.size := h1
    subst hi
    have hd : (s.data.toList.drop a).take (s.size - a) = s.data.toList.drop a := List.take_of_length_le (by rw [List.length_drop, size_list]; exact Nat.le_refl _)
    rw [hd] at hc
    rw [spec_l01Cut.l0, if_pos (Int.le_refl _), if_pos rfl, if_pos (by omega), if_pos (by omega), if_pos (by omega), Int.toNat_natCast, Int.toNat_natCast, w64 (by omega) (by omega), spec_l01Cut.l0, if_neg (by omega), cut_none hc, extract_ba, hd]
    rfl
  | d + 1, k + 1, out, a, i, h1, ha, hc, ho, hk => by
    have hi : i < s.size := by omega
    have e1 : wrap64 ((i : Int) + 1) = ((i + 1 : Nat) : Int) := by rw [w64 (by omega) (by omega)]; omega
    have hx : s.data.toList.drop a = (s.data.toList.drop a).take (i - a) ++ (s.data.toList[i]'hi) :: s.data.toList.drop (i + 1) := by
      have h2 : (s.data.toList.drop a).drop (i - a) = (s.data.toList[i]'hi) :: s.data.toList.drop (i + 1) := by
        rw [List.drop_drop, show a + (i - a) = i by omega]; exact List.drop_eq_getElem_cons hi
      rw [← h2, List.take_append_drop]
    have hb := bt_nat s i hi
    rw [spec_l01Cut.l0, if_pos (by omega), if_neg (by omega), if_pos (by omega), if_pos (by omega), hb]
    by_cases c1 : (((s.data.toList[i]'hi).toNat : Nat) : Int) = ((c.toNat : Nat) : Int)
    · have hc1 := u8_eq c1
      rw [if_pos c1, if_pos (by omega), if_pos (by omega), if_pos (by omega), e1, Int.toNat_natCast, Int.toNat_natCast]
      rw [cutl s hs c d k _ (i + 1) (i + 1) (by omega) (Nat.le_refl _) (by rw [Nat.sub_self, List.take_zero]; exact fun h => by cases h) (by rw [List.length_append, List.length_singleton]; omega) (by omega)]
      rw [hx, hc1, cut_hit _ hc, extract_ba, List.append_assoc]
      rfl
    · rw [if_neg c1, e1]
      refine cutl s hs c d k out a (i + 1) (by omega) (by omega) ?_ (by omega) (by omega)
      have h3 : (s.data.toList.drop a).take (i + 1 - a) = (s.data.toList.drop a).take (i - a) ++ [s.data.toList[i]'hi] := by
        rw [show i + 1 - a = (i - a) + 1 by omega, List.take_succ_eq_append_getElem (by rw [List.length_drop, size_list]; omega)]
        congr 2
        rw [List.getElem_drop]
        congr 1
        omega
      rw [h3]
      intro hm
      rcases List.mem_append.1 hm with e | e
      · exact hc e
      · rw [List.mem_singleton] at e
        exact c1 (by rw [e])
theorem cut_spec (s : ByteArray) (hs : s.size ≤ 4194304) (c : UInt8) (k : Nat) (hk : s.size + 1 < k) : spec_l01Cut.f k s ((c.toNat : Nat) : Int) = some (cutB c s) :=
  cutl s hs c s.size k [] 0 0 (by omega) (by omega) (by simp) (by simp) hk
theorem gs0 (c : UInt8) (k : Nat) (x : ByteArray) (l : List ByteArray) (n : Nat) (hc : x.data.toList.count c = 0) (hl : l.length = n + 1) (hn : n ≤ 4194304) : strings_genSplit.l0 (k + 1) x (ba [c]) 0 (n : Int) l (n : Int) = some (l.take n ++ cutB c x) := by
  have hn0 : c ∉ x.data.toList := fun h => by
    have := List.count_pos_iff.2 h
    omega
  have e1 : wrap64 ((n : Int) + 1) = ((n + 1 : Nat) : Int) := by rw [w64 (by omega) (by omega)]; omega
  have f1 : ¬ ((n : Int) < (n : Int)) := by omega
  have f2 : (0 : Int) ≤ (n : Int) := by omega
  have f3 : (n : Int) < (l.length : Int) := by omega
  have f4 : (0 : Int) ≤ ((n + 1 : Nat) : Int) := by omega
  have f5 : ((n + 1 : Nat) : Int) ≤ (l.length : Int) := by omega
  have f6 : n < l.length := by omega
  rw [strings_genSplit.l0, if_neg f1, if_pos f2, if_pos f3, e1, if_pos f4, if_pos f5, Int.toNat_natCast, Int.toNat_natCast]
  unfold cutB
  rw [cut_none hn0, take_set_snoc f6]
  rfl
theorem gs1 (c : UInt8) (k : Nat) (x : ByteArray) (l : List ByteArray) (i n : Nat) (p r : List UInt8) (hin : i < n) (hl : l.length = n + 1) (hn : n ≤ 4194304) (hx : x.size ≤ 4194304) (h2 : x.data.toList = p ++ c :: r) (h4 : Lib.indexByte x.data.toList c = (p.length : Int)) :
    strings_genSplit.l0 (k + 1) x (ba [c]) 0 (n : Int) l (i : Int) = strings_genSplit.l0 k (ba r) (ba [c]) 0 (n : Int) (l.set i (ba p)) ((i + 1 : Nat) : Int) := by
  obtain ⟨g1, g2, g3⟩ := take_hit h2
  have hI : strings_Index.f x (ba [c]) = some ((p.length : Nat) : Int) := by
    unfold strings_Index.f
    rw [if_pos (show (ba [c]).size = 1 from rfl), ← h4]; rfl
  clear h4 h2
  have f1 : (i : Int) < (n : Int) := by omega
  have f2 : ¬ (((p.length : Nat) : Int) < 0) := by omega
  have f3 : (0 : Int) ≤ ((p.length : Nat) : Int) := by omega
  have f4 : ((p.length : Nat) : Int) ≤ (x.size : Int) := by omega
  have f5 : (0 : Int) ≤ (i : Int) := by omega
  have f6 : (i : Int) < (l.length : Int) := by omega
  have f7 : (0 : Int) ≤ ((p.length + 1 : Nat) : Int) := by omega
  have f8 : ((p.length + 1 : Nat) : Int) ≤ (x.size : Int) := by omega
  have e1 : wrap64 ((i : Int) + 1) = ((i + 1 : Nat) : Int) := by rw [w64 (by omega) (by omega)]; omega
  have e2 : wrap64 (((p.length : Nat) : Int) + 0) = ((p.length : Nat) : Int) := by rw [w64 (by omega) (by omega)]; omega
  have e3 : wrap64 (((p.length : Nat) : Int) + (((ba [c]).size : Nat) : Int)) = ((p.length + 1 : Nat) : Int) := by
    rw [show (((ba [c]).size : Nat) : Int) = 1 from rfl, w64 (by omega) (by omega)]; omega
  rw [strings_genSplit.l0, if_pos f1, hI, Option.bind_some, if_neg f2, e2, if_pos f3, if_pos f4, if_pos f5, if_pos f6, e3, if_pos f7, if_pos f8, e1, Int.toNat_natCast, Int.toNat_natCast, Int.toNat_natCast, g1, g2]
theorem gsl (c : UInt8) (n : Nat) (hn : n ≤ 4194304) (d : Nat) : ∀ (k : Nat) (x : ByteArray) (l : List ByteArray) (i : Nat), i + d = n → x.data.toList.count c = d → l.length = n + 1 → x.size ≤ 4194304 → d < k →
    strings_genSplit.l0 k x (ba [c]) 0 (n : Int) l (i : Int) = some (l.take i ++ cutB c x) := by
  induction d with
  | zero =>
    intro k x l i h1 hc hl hx hk
    obtain ⟨k, rfl⟩ : ∃ m, k = m + 1 := ⟨k - 1, by omega⟩
    obtain rfl : i = n := by omega
    exact gs0 c k x l i hc hl hn
  | succ d ih =>
    intro k x l i h1 hc hl hx hk
    obtain ⟨k, rfl⟩ : ∃ m, k = m + 1 := ⟨k - 1, by omega⟩
    rcases index_spec c x.data.toList with ⟨_, h⟩ | ⟨p, r, h2, h3, h4⟩
    · rw [List.count_eq_zero_of_not_mem h] at hc
      omega
    · obtain ⟨g1, g2, g3⟩ := take_hit h2
      have hcr : (ba r).data.toList.count c = d := by
        rw [h2, count_hit h3] at hc
        rw [list_ba]; omega
      rw [gs1 c k x l i n p r (by omega) hl hn hx h2 h4, ih k (ba r) _ (i + 1) (by omega) hcr (by rw [List.length_set]; exact hl) (by rw [size_ba]; omega) (by omega), take_set_snoc (by omega)]
      unfold cutB
      rw [h2, cut_hit r h3, List.append_assoc]
      rfl
theorem split_some (s : ByteArray) (hs : s.size ≤ 4194303) (c : UInt8) (k : Nat) (hk : s.size + 1 < k) : strings_Split.f k s (ba [c]) = some (cutB c s) := by
  obtain ⟨k, rfl⟩ : ∃ m, k = m + 1 := ⟨k - 1, by omega⟩
  have hle : s.data.toList.count c ≤ s.size := List.count_le_length
  have hC : strings_Count.f s (ba [c]) = some ((s.data.toList.count c : Nat) : Int) := by
    unfold strings_Count.f
    rw [if_pos (show (ba [c]).size = 1 from rfl)]; rfl
  have e1 : wrap64 (((s.data.toList.count c : Nat) : Int) + 1) = ((s.data.toList.count c + 1 : Nat) : Int) := by rw [w64 (by omega) (by omega)]; omega
  have e2 : mn ((s.data.toList.count c + 1 : Nat) : Int) (wrap64 ((s.size : Int) + 1)) = ((s.data.toList.count c + 1 : Nat) : Int) := by
    rw [w64 (by omega) (by omega)]; unfold mn; split <;> omega
  have e3 : wrap64 (((s.data.toList.count c + 1 : Nat) : Int) - 1) = ((s.data.toList.count c : Nat) : Int) := by rw [w64 (by omega) (by omega)]; omega
  have hne : ¬ ((ba [c]).toList = ([] : List UInt8)) := by
    intro h
    have := nil_iff.1 h
    cases this
  unfold strings_Split.f strings_genSplit.f
  rw [if_neg (by decide), if_neg hne, if_pos (by decide), hC, Option.bind_some, e1, strings_genSplit.j0, e2, if_pos (by omega), if_pos (by omega), e3, Int.toNat_natCast]
  have hg := gsl c (s.data.toList.count c) (by omega) (s.data.toList.count c) k s (List.replicate (s.data.toList.count c + 1) (⟨#[]⟩ : ByteArray)) 0 (by omega) rfl (by rw [List.length_replicate]) (by omega) (by omega)
  rw [show (((0 : Nat) : Int)) = 0 from rfl] at hg
  rw [hg]
  rfl
def alph (s : ByteArray) : Bool := s.data.toList.all fun b => decide (97 ≤ b.toNat ∧ b.toNat ≤ 122)
theorem letter_b (b : UInt8) : spec_l07Letter.f (b.toNat : Int) = some (decide (97 ≤ b.toNat ∧ b.toNat ≤ 122)) := by
  unfold spec_l07Letter.f
  by_cases h : (b.toNat : Int) ≥ 97
  · rw [if_pos h]
    congr 1
    rw [decide_eq_decide]; omega
  · rw [if_neg h]
    congr 1
    exact (decide_eq_false (by omega)).symm
theorem lettersl (s : ByteArray) (hs : s.size ≤ 4194304) (a b : Int) : ∀ (d k i : Nat), i + d = s.size → d < k →
    spec_l07Letters.l0 k s a b (i : Int) = some ((s.data.toList.drop i).all (fun b => decide (97 ≤ b.toNat ∧ b.toNat ≤ 122)) && decide (a ≤ (s.size : Int) ∧ (s.size : Int) ≤ b))
  | d, 0, i, h1, hk => by omega
  | 0, k + 1, i, h1, hk => by
    rw [spec_l07Letters.l0, if_neg (by omega), List.drop_of_length_le (by rw [size_list]; omega)]
    by_cases h : (s.size : Int) ≥ a
    · rw [if_pos h]
      simp only [List.all_nil, Bool.true_and]
      congr 1
      rw [decide_eq_decide]; omega
    · rw [if_neg h]
      simp only [List.all_nil, Bool.true_and]
      congr 1
      exact (decide_eq_false (by omega)).symm
  | d + 1, k + 1, i, h1, hk => by
    have hi : i < s.size := by omega
    have e1 : wrap64 ((i : Int) + 1) = ((i + 1 : Nat) : Int) := by rw [w64 (by omega) (by omega)]; omega
    have hd : s.data.toList.drop i = (s.data.toList[i]'hi) :: s.data.toList.drop (i + 1) := List.drop_eq_getElem_cons hi
    rw [spec_l07Letters.l0, if_pos (by omega), if_pos (by omega), bt_nat s i hi, letter_b, Option.bind_some, hd, List.all_cons]
    by_cases h : decide (97 ≤ (s.data.toList[i]'hi).toNat ∧ (s.data.toList[i]'hi).toNat ≤ 122) = true
    · rw [if_pos h, e1, lettersl s hs a b d k (i + 1) (by omega) (by omega), h, Bool.true_and]
    · rw [if_neg h]
      rw [Bool.not_eq_true] at h
      rw [h, Bool.false_and, Bool.false_and]
theorem letters_f (s : ByteArray) (hs : s.size ≤ 4194304) (a b : Int) (k : Nat) (hk : s.size < k) : spec_l07Letters.f k s a b = some (alph s && decide (a ≤ (s.size : Int) ∧ (s.size : Int) ≤ b)) :=
  lettersl s hs a b s.size k 0 (by omega) hk
theorem isNamel (s : ByteArray) (hs : s.size ≤ 4194304) : ∀ (d k i : Nat), i + d = s.size → d < k →
    impl_IsName.l0 k s (i : Int) = some ((s.data.toList.drop i).all (fun b => decide (97 ≤ b.toNat ∧ b.toNat ≤ 122)) && decide (1 ≤ s.size ∧ s.size ≤ 8))
  | d, 0, i, h1, hk => by omega
  | 0, k + 1, i, h1, hk => by
    rw [impl_IsName.l0, if_neg (by omega), List.drop_of_length_le (by rw [size_list]; omega)]
    unfold impl_within.f
    by_cases h : (s.size : Int) ≥ 1
    · rw [if_pos h]
      simp only [List.all_nil, Bool.true_and, Option.bind_some]
      congr 1
      rw [decide_eq_decide]; omega
    · rw [if_neg h]
      simp only [List.all_nil, Bool.true_and, Option.bind_some]
      congr 1
      exact (decide_eq_false (by omega)).symm
  | d + 1, k + 1, i, h1, hk => by
    have hi : i < s.size := by omega
    have e1 : wrap64 ((i : Int) + 1) = ((i + 1 : Nat) : Int) := by rw [w64 (by omega) (by omega)]; omega
    have hd : s.data.toList.drop i = (s.data.toList[i]'hi) :: s.data.toList.drop (i + 1) := List.drop_eq_getElem_cons hi
    rw [impl_IsName.l0, if_pos (by omega), if_pos (by omega), bt_nat s i hi, hd, List.all_cons]
    by_cases h : ((s.data.toList[i]'hi).toNat : Int) < 97
    · rw [if_pos h, decide_eq_false (by omega), Bool.false_and, Bool.false_and]
    · rw [if_neg h]
      by_cases h2 : ((s.data.toList[i]'hi).toNat : Int) > 122
      · rw [if_pos h2, decide_eq_false (by omega), Bool.false_and, Bool.false_and]
      · rw [if_neg h2, e1, isNamel s hs d k (i + 1) (by omega) (by omega), decide_eq_true (p := 97 ≤ (s.data.toList[i]'hi).toNat ∧ (s.data.toList[i]'hi).toNat ≤ 122) ⟨by omega, by omega⟩, Bool.true_and]
theorem isName_f (s : ByteArray) (hs : s.size ≤ 4194304) (k : Nat) (hk : s.size < k) : impl_IsName.f k s = some (alph s && decide (1 ≤ s.size ∧ s.size ≤ 8)) :=
  isNamel s hs s.size k 0 (by omega) hk
def nameB (s : ByteArray) : Bool := alph s && decide (1 ≤ s.size ∧ s.size ≤ 4)
theorem letters14 (s : ByteArray) (hs : s.size ≤ 4194304) (k : Nat) (hk : s.size < k) : spec_l07Letters.f k s 1 4 = some (nameB s) := by
  rw [letters_f s hs 1 4 k hk]
  unfold nameB
  congr 2
  rw [decide_eq_decide]; omega
theorem soundName_f (s : ByteArray) (hs : s.size ≤ 4194304) (k : Nat) (hk : s.size < k) : impl_isSoundName.f k s = some (nameB s) := by
  unfold impl_isSoundName.f nameB
  by_cases h : (s.size : Int) ≤ 4
  · rw [if_pos h, isName_f s hs k hk, Option.bind_some]
    congr 2
    rw [decide_eq_decide]; omega
  · rw [if_neg h, decide_eq_false (by omega), Bool.and_false]
def signB (b : UInt8) : Bool := decide (97 ≤ b.toNat ∧ b.toNat ≤ 122) || (b == 86 || b == 67 || b == 45)
def signsB (s : ByteArray) : Bool := s.data.toList.all signB && decide (s.size ≤ 3)
theorem eqb (b : UInt8) (n : Nat) (hn : n < 256) : ((b.toNat : Int) = (n : Int)) ↔ b = UInt8.ofNat n := by
  constructor
  · intro h
    apply UInt8.toNat_inj.1
    rw [UInt8.toNat_ofNat_of_lt' hn]; omega
  · rintro rfl
    rw [UInt8.toNat_ofNat_of_lt' hn]
theorem signsl (s : ByteArray) (hs : s.size ≤ 4194304) : ∀ (d k i : Nat), i + d = s.size → d < k →
    spec_l07Signs.l0 k s (i : Int) = some ((s.data.toList.drop i).all signB && decide (s.size ≤ 3))
  | d, 0, i, h1, hk => by omega
  | 0, k + 1, i, h1, hk => by
    rw [spec_l07Signs.l0, if_neg (by omega), List.drop_of_length_le (by rw [size_list]; omega)]
    simp only [List.all_nil, Bool.true_and]
    congr 1
    rw [decide_eq_decide]; omega
  | d + 1, k + 1, i, h1, hk => by
    have hi : i < s.size := by omega
    have e1 : wrap64 ((i : Int) + 1) = ((i + 1 : Nat) : Int) := by rw [w64 (by omega) (by omega)]; omega
    have hd : s.data.toList.drop i = (s.data.toList[i]'hi) :: s.data.toList.drop (i + 1) := List.drop_eq_getElem_cons hi
    rw [spec_l07Signs.l0, if_pos (by omega), if_pos (by omega), bt_nat s i hi, letter_b, Option.bind_some, hd, List.all_cons, e1, signsl s hs d k (i + 1) (by omega) (by omega)]
    generalize (s.data.toList[i]'hi) = b
    have q1 := eqb b 86 (by decide)
    have q2 := eqb b 67 (by decide)
    have q3 := eqb b 45 (by decide)
    have hu : signB b = (decide (97 ≤ b.toNat ∧ b.toNat ≤ 122) || (b == 86 || b == 67 || b == 45)) := rfl
    by_cases h : decide (97 ≤ b.toNat ∧ b.toNat ≤ 122) = true
    · rw [if_pos h, hu, h, Bool.true_or, Bool.true_and]
    · rw [if_neg h]
      rw [Bool.not_eq_true] at h
      rw [hu, h, Bool.false_or]
      by_cases c1 : (b.toNat : Int) = 86
      · have := q1.1 c1
        subst this
        rw [if_pos c1]; rfl
      · rw [if_neg c1]
        by_cases c2 : (b.toNat : Int) = 67
        · have := q2.1 c2
          subst this
          rw [if_pos c2]; rfl
        · rw [if_neg c2]
          by_cases c3 : (b.toNat : Int) = 45
          · have := q3.1 c3
            subst this
            rw [if_pos c3]; rfl
          · rw [if_neg c3]
            have f1 : (b == 86) = false := by rw [beq_eq_false_iff_ne]; exact fun e => c1 (q1.2 e)
            have f2 : (b == 67) = false := by rw [beq_eq_false_iff_ne]; exact fun e => c2 (q2.2 e)
            have f3 : (b == 45) = false := by rw [beq_eq_false_iff_ne]; exact fun e => c3 (q3.2 e)
            rw [f1, f2, f3]; rfl
theorem signs_f (s : ByteArray) (hs : s.size ≤ 4194304) (k : Nat) (hk : s.size < k) : spec_l07Signs.f k s = some (signsB s) := signsl s hs s.size k 0 (by omega) hk
theorem signIx : ∀ n : Fin 256, (Lib.indexByte [86, 67, 45] (UInt8.ofNat n.1) < 0) ↔ ¬ ((UInt8.ofNat n.1 == 86 || UInt8.ofNat n.1 == 67 || UInt8.ofNat n.1 == 45) = true) := by decide +kernel
theorem areSignsl (s : ByteArray) (hs : s.size ≤ 4194304) : ∀ (d k i : Nat), i + d = s.size → d < k →
    impl_areSigns.l0 k s (s.size : Int) (i : Int) = some ((s.data.toList.drop i).all signB && decide (s.size ≤ 3))
  | d, 0, i, h1, hk => by omega
  | 0, k + 1, i, h1, hk => by
    rw [impl_areSigns.l0, if_neg (by omega), List.drop_of_length_le (by rw [size_list]; omega)]
    simp only [List.all_nil, Bool.true_and]
    congr 1
    rw [decide_eq_decide]; omega
  | d + 1, k + 1, i, h1, hk => by
    have hi : i < s.size := by omega
    have e1 : wrap64 ((i : Int) + 1) = ((i + 1 : Nat) : Int) := by rw [w64 (by omega) (by omega)]; omega
    have hd : s.data.toList.drop i = (s.data.toList[i]'hi) :: s.data.toList.drop (i + 1) := List.drop_eq_getElem_cons hi
    have hL : ∀ c, impl_isLetter.f c = spec_l07Letter.f c := fun _ => rfl
    rw [impl_areSigns.l0, if_pos (by omega), if_pos (by omega), if_pos (by omega), bt_nat s i hi, hL, letter_b, Option.bind_some, hd, List.all_cons, e1, areSignsl s hs d k (i + 1) (by omega) (by omega)]
    generalize (s.data.toList[i]'hi) = b
    have hx := signIx ⟨b.toNat, UInt8.toNat_lt b⟩
    have hu : signB b = (decide (97 ≤ b.toNat ∧ b.toNat ≤ 122) || (b == 86 || b == 67 || b == 45)) := rfl
    have hb : UInt8.ofNat b.toNat = b := UInt8.ofNat_toNat
    dsimp only at hx
    rw [hb] at hx
    have hI : strings_IndexByte.f (⟨#[86, 67, 45]⟩ : ByteArray) (b.toNat : Int) = some (Lib.indexByte [86, 67, 45] b) := by
      unfold strings_IndexByte.f
      rw [Int.toNat_natCast]
      show some (Lib.indexByte [86, 67, 45] (UInt8.ofNat b.toNat)) = _
      rw [hb]
    by_cases h : decide (97 ≤ b.toNat ∧ b.toNat ≤ 122) = true
    · rw [if_pos h, hu, h, Bool.true_or, Bool.true_and]
    · rw [if_neg h, hI, Option.bind_some]
      rw [Bool.not_eq_true] at h
      rw [hu, h, Bool.false_or]
      by_cases c : (b == 86 || b == 67 || b == 45) = true
      · rw [if_neg (fun e => hx.1 e c), c, Bool.true_and]
      · rw [if_pos (hx.2 c)]
        rw [Bool.not_eq_true] at c
        rw [c]; rfl
theorem areSigns_f (s : ByteArray) (hs : s.size ≤ 4194304) (k : Nat) (hk : s.size < k) : impl_areSigns.f k s = some (signsB s) := areSignsl s hs s.size k 0 (by omega) hk
theorem rdS_at {l : List ByteArray} {i : Nat} (h : i < l.length) : rdOf ByteArray.empty l (i : Int) = l[i]'h := by
  unfold rdOf
  rw [Int.toNat_natCast, List.getD_eq_getElem?_getD, List.getElem?_eq_getElem h]; rfl
theorem namesl (s : ByteArray) (l : List ByteArray) (hl : l.length ≤ 4194304) (hp : ∀ p ∈ l, p.size ≤ 4194304) : ∀ (d k i : Nat), i + d = l.length → d + 4194305 < k →
    spec_l07Names.l0 k s l (l.length : Int) (i : Int) = some (if (l.drop i).all nameB = true then (l, decide (s.size ≤ 24)) else ([], false))
  | d, 0, i, h1, hk => by omega
  | 0, k + 1, i, h1, hk => by
    rw [spec_l07Names.l0, if_neg (by omega), List.drop_of_length_le (by omega), List.all_nil, if_pos rfl]
    congr 2
    rw [decide_eq_decide]; omega
  | d + 1, k + 1, i, h1, hk => by
    have hi : i < l.length := by omega
    have e1 : wrap64 ((i : Int) + 1) = ((i + 1 : Nat) : Int) := by rw [w64 (by omega) (by omega)]; omega
    have hz := hp _ (List.getElem_mem hi)
    rw [spec_l07Names.l0, if_pos (by omega), if_pos (by omega), if_pos (by omega), rdS_at hi, letters14 _ hz k (by omega), Option.bind_some, List.drop_eq_getElem_cons hi, List.all_cons]
    by_cases h : nameB (l[i]'hi) = true
    · rw [if_pos h, e1, namesl s l hl hp d k (i + 1) (by omega) (by omega), h, Bool.true_and]
    · rw [if_neg h]
      rw [Bool.not_eq_true] at h
      rw [h, Bool.false_and, if_neg (by simp)]
theorem cutB_ok (c : UInt8) (s : ByteArray) (hs : s.size ≤ 4194303) : (cutB c s).length ≤ 4194304 ∧ ∀ p ∈ cutB c s, p.size ≤ 4194304 := by
  constructor
  · unfold cutB
    rw [List.length_map, cut_len]
    have : s.data.toList.count c ≤ s.data.toList.length := List.count_le_length
    rw [size_list] at this
    omega
  · intro p hp
    obtain ⟨q, hq, rfl⟩ := List.mem_map.1 hp
    have := cut_piece hq
    rw [size_list] at this
    rw [size_ba]; omega
def namesOf (s : ByteArray) : List ByteArray × Bool := if s.size = 0 then ([], true) else if (cutB 46 s).all nameB = true then (cutB 46 s, decide (s.size ≤ 24)) else ([], false)
theorem names_f (s : ByteArray) (hs : s.size ≤ 4194303) (k : Nat) (hk : 8388620 < k) : spec_l07Names.f k s = some (namesOf s) := by
  unfold spec_l07Names.f namesOf
  by_cases h : s.toList = ([] : List UInt8)
  · rw [if_pos h, if_pos (nil_iff.1 h)]
  · rw [if_neg h, if_neg (fun e => h (nil_iff.2 e))]
    have h46 := cut_spec s (by omega) 46 k (by omega)
    obtain ⟨g1, g2⟩ := cutB_ok 46 s hs
    have e : (((46 : UInt8).toNat : Nat) : Int) = 46 := rfl
    rw [e] at h46
    rw [h46, Option.bind_some]
    exact namesl s _ g1 g2 (cutB 46 s).length k 0 (by omega) (by omega)
def ruleB (b l a s : ByteArray) : Bool := (namesOf s).2 && nameB l && signsB b && signsB a
theorem rule_s (b l a s : ByteArray) (hb : b.size ≤ 4194303) (hl : l.size ≤ 4194303) (ha : a.size ≤ 4194303) (hs : s.size ≤ 4194303) (k : Nat) (hk : 8388620 < k) : spec_l07Rule.f k [(⟨b, l, a, s⟩ : S30)] = some (ruleB b l a s) := by
  unfold spec_l07Rule.f ruleB
  have hr : rd_T30 [(⟨b, l, a, s⟩ : S30)] 0 = ⟨b, l, a, s⟩ := rfl
  rw [if_pos (show (0 : Int) < (([(⟨b, l, a, s⟩ : S30)] : List S30).length : Int) by show (0 : Int) < 1; decide), hr]
  dsimp only
  rw [names_f s hs k hk, Option.bind_some, letters14 l (by omega) k (by omega), signs_f b (by omega) k (by omega), signs_f a (by omega) k (by omega)]
  simp only [Option.bind_some]
  cases (namesOf s).2 <;> cases nameB l <;> cases signsB b <;> cases signsB a <;> rfl
theorem ixl (l : List ByteArray) (hl : l.length ≤ 4194304) (hp : ∀ p ∈ l, p.size ≤ 4194304) : ∀ (d k i : Nat), i + d = l.length → d + 4194305 < k →
    ∃ r : Int, slices_IndexFunc_v_impl_ValidRule_1.l0 k l (l.length : Int) (i : Int) = some r ∧ (0 ≤ r ↔ (l.drop i).all nameB = false)
  | d, 0, i, h1, hk => by omega
  | 0, k + 1, i, h1, hk => by
    rw [slices_IndexFunc_v_impl_ValidRule_1.l0, if_neg (by omega), List.drop_of_length_le (by omega), List.all_nil]
    exact ⟨-1, rfl, by simp⟩
  | d + 1, k + 1, i, h1, hk => by
    have hi : i < l.length := by omega
    have e1 : wrap64 ((i : Int) + 1) = ((i + 1 : Nat) : Int) := by rw [w64 (by omega) (by omega)]; omega
    have hz := hp _ (List.getElem_mem hi)
    rw [slices_IndexFunc_v_impl_ValidRule_1.l0, if_pos (by omega), if_pos (by omega), if_pos (by omega), rdS_at hi, List.drop_eq_getElem_cons hi, List.all_cons]
    unfold impl_ValidRule_1.f
    rw [soundName_f _ hz k (by omega), Option.bind_some, Option.bind_some]
    by_cases h : nameB (l[i]'hi) = true
    · obtain ⟨r, h3, h4⟩ := ixl l hl hp d k (i + 1) (by omega) (by omega)
      rw [h, if_neg (by simp), e1, Bool.true_and]
      exact ⟨r, h3, h4⟩
    · rw [Bool.not_eq_true] at h
      rw [h, if_pos (show (!false) = true from rfl), Bool.false_and]
      exact ⟨(i : Int), rfl, by simp⟩
theorem rule_i (b l a s : ByteArray) (hb : b.size ≤ 4194303) (hl : l.size ≤ 4194303) (ha : a.size ≤ 4194303) (hs : s.size ≤ 4194303) (k : Nat) (hk : 8388620 < k) : impl_ValidRule.f k b l a s = some (ruleB b l a s) := by
  have hS := split_some s (by omega) 46 k (by omega)
  obtain ⟨g1, g2⟩ := cutB_ok 46 s hs
  obtain ⟨r, hr, hr2⟩ := ixl (cutB 46 s) g1 g2 (cutB 46 s).length k 0 (by omega) (by omega)
  have hC : slices_ContainsFunc_v_impl_ValidRule_1.f k (cutB 46 s) = some (!((cutB 46 s).all nameB)) := by
    unfold slices_ContainsFunc_v_impl_ValidRule_1.f slices_IndexFunc_v_impl_ValidRule_1.f
    have hr' : slices_IndexFunc_v_impl_ValidRule_1.l0 k (cutB 46 s) ((cutB 46 s).length : Int) 0 = some r := hr
    rw [hr', Option.bind_some]
    rw [List.drop_zero] at hr2
    cases hx : (cutB 46 s).all nameB with
    | true =>
      rw [hx] at hr2
      rw [decide_eq_false (fun e => by cases hr2.1 e)]; rfl
    | false =>
      rw [hx] at hr2
      rw [decide_eq_true (hr2.2 rfl)]; rfl
  have hT : (if (s.size : Int) ≤ 24 then (if s.toList = ([] : List UInt8) then (some true) else ((strings_Split.f k s (⟨#[46]⟩ : ByteArray)).bind fun t173 => ((slices_ContainsFunc_v_impl_ValidRule_1.f k t173).bind fun t176 => (some (!t176))))) else (some false)) = some (namesOf s).2 := by
    unfold namesOf
    by_cases c : (s.size : Int) ≤ 24
    · rw [if_pos c]
      by_cases e : s.toList = ([] : List UInt8)
      · rw [if_pos e, if_pos (nil_iff.1 e)]
      · rw [if_neg e, if_neg (fun h => e (nil_iff.2 h))]
        have hS' : strings_Split.f k s (⟨#[46]⟩ : ByteArray) = some (cutB 46 s) := hS
        rw [hS', Option.bind_some, hC, Option.bind_some, Bool.not_not]
        cases hx : (cutB 46 s).all nameB with
        | true => rw [if_pos rfl]; congr 1; exact (decide_eq_true (by omega)).symm
        | false => rw [if_neg (by simp)]
    · rw [if_neg c, if_neg (by omega)]
      cases hx : (cutB 46 s).all nameB with
      | true => rw [if_pos rfl]; congr 1; exact (decide_eq_false (by omega)).symm
      | false => rw [if_neg (by simp)]
  unfold impl_ValidRule.f
  rw [hT, isName_f l (by omega) k (by omega), areSigns_f b (by omega) k (by omega), areSigns_f a (by omega) k (by omega)]
  simp only [Option.bind_some]
  unfold ruleB nameB
  by_cases c : (l.size : Int) ≤ 4
  · rw [if_pos c]
    have e : decide (1 ≤ l.size ∧ l.size ≤ 8) = decide (1 ≤ l.size ∧ l.size ≤ 4) := by rw [decide_eq_decide]; omega
    rw [e]
    cases (namesOf s).2 <;> cases (alph l && decide (1 ≤ l.size ∧ l.size ≤ 4)) <;> cases signsB b <;> cases signsB a <;> rfl
  · rw [if_neg c, decide_eq_false (by omega), Bool.and_false]
    cases (namesOf s).2 <;> rfl
abbrev SI := S30
abbrev RI := S30
abbrev W9 := S9
abbrev W3 := S3
def okR (x : SI) : Prop := x.f0.size ≤ 1048576 ∧ x.f1.size ≤ 1048576 ∧ x.f2.size ≤ 1048576 ∧ x.f3.size ≤ 1048576
theorem rdI_at {l : List SI} {i : Nat} (h : i < l.length) : rd_T30 l (i : Int) = l[i]'h := by
  unfold rd_T30
  rw [Int.toNat_natCast, List.getD_eq_getElem?_getD, List.getElem?_eq_getElem h]; rfl
def rB (x : SI) : Bool := ruleB x.f0 x.f1 x.f2 x.f3
def rulesB (l : List SI) : Bool := decide (l.length ≤ 48) && l.all rB
theorem ixR (l : List SI) (hl : l.length ≤ 1048576) (ho : ∀ x ∈ l, okR x) (d : Nat) : ∀ (k i : Nat), i + d = l.length → d + 8388630 < k →
    ∃ r : Int, slices_IndexFunc_v_impl_areRules_1.l0 k l (l.length : Int) (i : Int) = some r ∧ (0 ≤ r ↔ (l.drop i).all rB = false) := by
  induction d with
  | zero =>
    intro k i h1 hk
    obtain ⟨k, rfl⟩ : ∃ m, k = m + 1 := ⟨k - 1, by omega⟩
    rw [slices_IndexFunc_v_impl_areRules_1.l0, if_neg (nlt (by omega)), List.drop_of_length_le (by omega), List.all_nil]
    exact ⟨-1, rfl, by simp⟩
  | succ d ih =>
    intro k i h1 hk
    obtain ⟨k, rfl⟩ : ∃ m, k = m + 1 := ⟨k - 1, by omega⟩
    have hi : i < l.length := by omega
    obtain ⟨o1, o2, o3, o4⟩ := ho _ (List.getElem_mem hi)
    have hr : impl_areRules_1.f k (l[i]'hi).f0 (l[i]'hi).f1 (l[i]'hi).f2 (l[i]'hi).f3 = some (!rB (l[i]'hi)) := by
      unfold impl_areRules_1.f
      rw [rule_i _ _ _ _ (by omega) (by omega) (by omega) (by omega) k (by omega)]; rfl
    have e1 := up hi (by omega)
    obtain ⟨r, h3, h4⟩ := ih k (i + 1) (by omega) (by omega)
    rw [slices_IndexFunc_v_impl_areRules_1.l0, if_pos (lt' hi), if_pos (nn i), if_pos (lt' hi), rdI_at hi, hr, Option.bind_some, List.drop_eq_getElem_cons hi, List.all_cons]
    by_cases h : rB (l[i]'hi) = true
    · rw [h, if_neg (by simp), e1, Bool.true_and]
      exact ⟨r, h3, h4⟩
    · rw [Bool.not_eq_true] at h
      rw [h, if_pos (show (!false) = true from rfl), Bool.false_and]
      exact ⟨(i : Int), rfl, by simp⟩
theorem areRules_f (l : List SI) (hl : l.length ≤ 1048576) (ho : ∀ x ∈ l, okR x) (k : Nat) (hk : 12000000 < k) : impl_areRules.f k l = some (rulesB l) := by
  unfold impl_areRules.f rulesB
  by_cases c : (l.length : Int) ≤ 48
  · obtain ⟨r, hr, hr2⟩ := ixR l hl ho l.length k 0 (by omega) (by omega)
    have hr' : slices_IndexFunc_v_impl_areRules_1.l0 k l (l.length : Int) 0 = some r := hr
    rw [List.drop_zero] at hr2
    rw [if_pos c, decide_eq_true (by omega), Bool.true_and]
    unfold slices_ContainsFunc_v_impl_areRules_1.f slices_IndexFunc_v_impl_areRules_1.f
    rw [hr', Option.bind_some, Option.bind_some]
    cases hx : l.all rB with
    | true =>
      rw [hx] at hr2
      rw [decide_eq_false (fun e => by cases hr2.1 e)]; rfl
    | false =>
      rw [hx] at hr2
      rw [decide_eq_true (hr2.2 rfl)]; rfl
  · rw [if_neg c, decide_eq_false (by omega), Bool.false_and]
section
variable (b l a s w : ByteArray)
def vow (b : UInt8) : Bool := b == 97 || b == 101 || b == 105 || b == 111 || b == 117 || b == 121
theorem vow_i0 : ∀ n : Fin 256, impl_isVowel.f (n.1 : Int) = some (vow (UInt8.ofNat n.1)) := by decide +kernel
theorem vow_i (b : UInt8) : impl_isVowel.f (b.toNat : Int) = some (vow b) := by
  have := vow_i0 ⟨b.toNat, UInt8.toNat_lt b⟩
  rwa [show UInt8.ofNat b.toNat = b from UInt8.ofNat_toNat] at this
def sgn (s b : UInt8) : Bool := if s = 86 then vow b else if s = 67 then !vow b else b == s
theorem sgn_i (k : Nat) (w : ByteArray) (e : Nat) (he : e < w.size) (s : UInt8) : impl_matchesSign.f (k + 1) (s.toNat : Int) w (e : Int) = some (sgn s (w.data.toList[e]'he)) := by
  have q1 : (((s).toNat : Nat) : Int) = 86 ↔ s = 86 := eqb s 86 (by decide)
  have q2 : (((s).toNat : Nat) : Int) = 67 ↔ s = 67 := eqb s 67 (by decide)
  have hb := bt_nat w e he
  have b1 : ¬ ((e : Int) < 0) := by omega
  have b2 : decide ((e : Int) ≥ (w.size : Int)) = false := decide_eq_false (by omega)
  have b3 : (0 : Int) ≤ (e : Int) := by omega
  have b4 : (e : Int) < (w.size : Int) := by omega
  unfold impl_matchesSign.f
  rw [if_neg b1, b2, impl_matchesSign.j0, if_neg Bool.false_ne_true, if_pos b3, if_pos b4, if_pos b3, if_pos b4, if_pos b3, if_pos b4, hb, vow_i]
  generalize (w.data.toList[e]'he) = b
  unfold sgn
  by_cases c1 : s = 86
  · rw [if_pos (q1.2 c1), if_pos c1]; rfl
  · rw [if_neg (fun h => c1 (q1.1 h)), if_neg c1]
    by_cases c2 : s = 67
    · rw [if_pos (q2.2 c2), if_pos c2]; rfl
    · rw [if_neg (fun h => c2 (q2.1 h)), if_neg c2]
      congr 1
      by_cases e : b = s
      · rw [e]; simp
      · rw [beq_eq_false_iff_ne.2 e, beq_eq_false_iff_ne]
        exact fun h => e (u8_eq h)
theorem sgn_out (k : Nat) (w : ByteArray) (e : Int) (he : e < 0 ∨ (w.size : Int) ≤ e) (s : Int) : impl_matchesSign.f (k + 1) s w e = some false := by
  unfold impl_matchesSign.f
  by_cases c : e < 0
  · rw [if_pos c, impl_matchesSign.j0, if_pos rfl]
  · rw [if_neg c, decide_eq_true (he.resolve_left c), impl_matchesSign.j0, if_pos rfl]
def mat : List UInt8 → List UInt8 → Bool
  | [], _ => true
  | s :: ss, r => if s = 45 then (r.isEmpty && mat ss r) else match r with | [] => false | b :: r' => sgn s b && mat ss r'
theorem mat_dash (ss r : List UInt8) : mat (45 :: ss) r = (r.isEmpty && mat ss r) := by cases r <;> simp [mat]
theorem mat_nil {s : UInt8} (h : s ≠ 45) (ss : List UInt8) : mat (s :: ss) [] = false := by simp [mat, h]
theorem mat_cons {s : UInt8} (h : s ≠ 45) (ss : List UInt8) (b : UInt8) (r : List UInt8) : mat (s :: ss) (b :: r) = (sgn s b && mat ss r) := by simp [mat, h]
theorem rev_take {l : List UInt8} {j : Nat} (h : j < l.length) : (l.take (j + 1)).reverse = l[j] :: (l.take j).reverse := by
  rw [List.take_succ_eq_append_getElem h, List.reverse_append]; rfl
def matB (p : Nat) : Bool := l.data.toList.isPrefixOf (w.data.toList.drop p) && (mat a.data.toList (w.data.toList.drop (p + l.size)) && mat b.data.toList.reverse (w.data.toList.take p).reverse)
theorem pre_iff (x y : List UInt8) : x.isPrefixOf y = decide (x.length ≤ y.length ∧ y.take x.length = x) := by
  rw [Bool.eq_iff_iff, List.isPrefixOf_iff_prefix, decide_eq_true_iff]
  constructor
  · rintro ⟨z, rfl⟩
    exact ⟨by rw [List.length_append]; omega, by rw [List.take_left' rfl]⟩
  · rintro ⟨_, h⟩
    exact ⟨y.drop x.length, by have := List.take_append_drop x.length y; rw [h] at this; exact this⟩
theorem mB_i (hb : b.size ≤ 4194303) (hw : w.size ≤ 4194303) (j : Nat) : ∀ (k e : Nat), j ≤ b.size → e ≤ w.size → 2 * j + 1 < k →
    impl_matchesAt.l1 k w ((e : Int) - 1) ((j : Int) - 1) b l a s = some (mat (b.data.toList.take j).reverse (w.data.toList.take e).reverse) := by
  induction j with
  | zero =>
    intro k e hj he hk
    obtain ⟨k, rfl⟩ : ∃ m, k = m + 1 := ⟨k - 1, by omega⟩
    rw [impl_matchesAt.l1, if_neg (by omega), List.take_zero]; rfl
  | succ j ih =>
    intro k e hj he hk
    obtain ⟨k, rfl⟩ : ∃ m, k = m + 1 + 1 := ⟨k - 2, by omega⟩
    obtain ⟨k, rfl⟩ : ∃ m, k = m + 1 := ⟨k - 1, by omega⟩
    have hj' : j < b.size := by omega
    have g1 : 2 * j + 1 < k + 1 := by omega
    have g3 : j ≤ 4194304 := by omega
    have e0 := sub1 j
    have e1 := dn g3
    have hbt := bt_nat b j hj'
    have q : ((((b.data.toList[j]'hj')).toNat : Nat) : Int) = 45 ↔ (b.data.toList[j]'hj') = 45 := eqb (b.data.toList[j]'hj') 45 (by decide)
    have c1 : (j : Int) ≥ 0 := nn j
    have c2 := nn j
    have c3 := lt' hj'
    rw [impl_matchesAt.l1, e0, if_pos c1, if_pos c2, if_pos c3, hbt, rev_take hj']
    by_cases d : (b.data.toList[j]'hj') = 45
    · rw [if_pos (q.2 d), d, mat_dash]
      by_cases z : e = 0
      · subst z
        rw [decide_eq_true (show (((0 : Nat) : Int) - 1) < 0 by decide), impl_matchesAt.j3, if_pos rfl, e1]
        exact ih (k + 1) 0 (Nat.le_of_lt hj') (Nat.zero_le _) g1
      · have : (w.data.toList.take e).reverse.isEmpty = false := take_pos z he
        rw [decide_eq_false (nlt1 z), impl_matchesAt.j3, if_neg Bool.false_ne_true, if_pos c2, if_pos c3, hbt, if_pos (q.2 d), this, Bool.false_and]
    · rw [if_neg (fun h => d (q.1 h)), impl_matchesAt.j3, if_neg Bool.false_ne_true, if_pos c2, if_pos c3, hbt, if_neg (fun h => d (q.1 h))]
      by_cases z : e = 0
      · subst z
        rw [sgn_out k w _ (.inl (show (((0 : Nat) : Int) - 1) < 0 by decide)) _, Option.bind_some, if_neg Bool.false_ne_true, List.take_zero, List.reverse_nil, mat_nil d]
      · obtain ⟨e, rfl⟩ : ∃ m, e = m + 1 := Nat.exists_eq_succ_of_ne_zero z
        have he' : e < w.size := he
        have he4 : e ≤ 4194304 := Nat.le_trans (Nat.le_of_lt he') (Nat.le_trans hw (by decide))
        have e3 := sub1 e
        have e4 := dn he4
        rw [e3, sgn_i k w e he', Option.bind_some, rev_take he', mat_cons d, e1, e4]
        by_cases y : sgn (b.data.toList[j]'hj') (w.data.toList[e]'he') = true
        · rw [if_pos y, y, Bool.true_and]
          exact ih (k + 1) e (Nat.le_of_lt hj') (Nat.le_of_lt he') g1
        · rw [if_neg y]
          rw [Bool.not_eq_true] at y
          rw [y, Bool.false_and]
theorem mA_i (hb : b.size ≤ 4194303) (ha : a.size ≤ 4194303) (hw : w.size ≤ 4194303) (p : Nat) (hp : p ≤ w.size) (d : Nat) : ∀ (k e i : Nat), i + d = a.size → e ≤ w.size → 2 * d + 2 * b.size + 3 < k →
    impl_matchesAt.l0 k w (p : Int) (e : Int) (a.size : Int) (i : Int) b l a s = some (mat (a.data.toList.drop i) (w.data.toList.drop e) && mat b.data.toList.reverse (w.data.toList.take p).reverse) := by
  induction d with
  | zero =>
    intro k e i hi he hk
    obtain ⟨k, rfl⟩ : ∃ m, k = m + 1 := ⟨k - 1, by omega⟩
    have hB := mB_i b l a s w hb hw b.size k p (Nat.le_refl _) hp (by omega)
    rw [List.take_of_length_le (Nat.le_of_eq (size_list b))] at hB
    have e1 := dn (j := b.size) (by omega)
    have e2 := dn (j := p) (by omega)
    rw [impl_matchesAt.l0, if_neg (nlt (Nat.le_of_eq (show a.size = i from hi.symm))), e1, e2, hB, List.drop_of_length_le (by rw [size_list]; exact Nat.le_of_eq hi.symm)]
    rfl
  | succ d ih =>
    intro k e i hi he hk
    obtain ⟨k, rfl⟩ : ∃ m, k = m + 1 + 1 := ⟨k - 2, by omega⟩
    obtain ⟨k, rfl⟩ : ∃ m, k = m + 1 := ⟨k - 1, by omega⟩
    have hi' : i < a.size := by omega
    have g1 : i + 1 + d = a.size := by omega
    have g2 : 2 * d + 2 * b.size + 3 < k + 1 := by omega
    have ha4 : a.size ≤ 4194304 := by omega
    have hw4 : w.size ≤ 4194304 := by omega
    have e1 := up hi' ha4
    have hbt := bt_nat a i hi'
    have q : ((((a.data.toList[i]'hi')).toNat : Nat) : Int) = 45 ↔ (a.data.toList[i]'hi') = 45 := eqb (a.data.toList[i]'hi') 45 (by decide)
    have hd : a.data.toList.drop i = (a.data.toList[i]'hi') :: a.data.toList.drop (i + 1) := List.drop_eq_getElem_cons hi'
    have c2 := nn i
    have c3 := lt' hi'
    rw [impl_matchesAt.l0, if_pos c3, if_pos c2, if_pos c3, hbt, hd]
    by_cases z : e = w.size
    · have hnil : w.data.toList.drop e = [] := List.drop_of_length_le (by rw [size_list, z]; exact Nat.le_refl _)
      have hez : (e : Int) = (w.size : Int) := by rw [z]
      have hge : (e : Int) ≥ (w.size : Int) := by rw [z]; exact Int.le_refl _
      rw [hnil]
      by_cases x : (a.data.toList[i]'hi') = 45
      · have ih1 := ih (k + 1) e (i + 1) g1 he g2
        rw [hnil] at ih1
        rw [if_pos (q.2 x), x, mat_dash, show ((e : Int) == (w.size : Int)) = true by rw [z]; simp, impl_matchesAt.j1, if_pos rfl, e1, ih1]; rfl
      · rw [if_neg (fun h => x (q.1 h)), mat_nil x, impl_matchesAt.j1, if_neg Bool.false_ne_true, if_pos c2, if_pos c3, hbt, if_neg (fun h => x (q.1 h)), sgn_out k w _ (.inr hge) _, Option.bind_some, if_neg Bool.false_ne_true]; rfl
    · have he' : e < w.size := Nat.lt_of_le_of_ne he z
      have hcons : w.data.toList.drop e = (w.data.toList[e]'he') :: w.data.toList.drop (e + 1) := List.drop_eq_getElem_cons he'
      rw [hcons]
      by_cases x : (a.data.toList[i]'hi') = 45
      · have hne : ((e : Int) == (w.size : Int)) = false := beq_eq_false_iff_ne.2 (ne' z)
        rw [if_pos (q.2 x), x, mat_dash, hne, impl_matchesAt.j1, if_neg Bool.false_ne_true, if_pos c2, if_pos c3, hbt, if_pos (q.2 x)]; rfl
      · have e3 := up he' hw4
        rw [if_neg (fun h => x (q.1 h)), mat_cons x, impl_matchesAt.j1, if_neg Bool.false_ne_true, if_pos c2, if_pos c3, hbt, if_neg (fun h => x (q.1 h)), sgn_i k w e he', Option.bind_some, e3, e1]
        by_cases y : sgn (a.data.toList[i]'hi') (w.data.toList[e]'he') = true
        · rw [if_pos y, y, Bool.true_and]
          exact ih (k + 1) (e + 1) (i + 1) g1 he' g2
        · rw [if_neg y]
          rw [Bool.not_eq_true] at y
          rw [y]; rfl
theorem matches_i (hb : b.size ≤ 1048576) (hl : l.size ≤ 1048576) (ha : a.size ≤ 1048576) (hw : w.size ≤ 1048576) (p : Nat) (hp : p ≤ w.size) (k : Nat) (hk : 8388620 < k) : impl_matchesAt.f k b l a s w (p : Int) = some (matB b l a w p) := by
  have e1 : wrap64 ((p : Int) + (l.size : Int)) = ((p + l.size : Nat) : Int) := sum (Nat.le_refl _) (by omega)
  have hsz : (w.extract p w.size).size = w.size - p := by rw [ByteArray.size_extract]; omega
  have hP : strings_HasPrefix.f (w.extract p w.size) l = some (l.data.toList.isPrefixOf (w.data.toList.drop p)) := by
    unfold strings_HasPrefix.f stringslite_HasPrefix.f
    rw [pre_iff, List.length_drop, size_list, size_list]
    by_cases c : ((w.extract p w.size).size : Int) ≥ (l.size : Int)
    · rw [if_pos c, if_pos (by omega), if_pos c, Option.bind_some, Int.toNat_natCast]
      rw [hsz] at c
      congr 1
      have hx : ((w.extract p w.size).extract 0 l.size).toList = (w.data.toList.drop p).take l.size := by
        rw [Go.Lib.extract_toList, Go.Lib.extract_to_end, List.drop_zero, Nat.sub_zero]
      rw [hx, ByteArray.toList_eq, Bool.eq_iff_iff, beq_iff_eq, decide_eq_true_iff]
      constructor
      · intro h; exact ⟨by omega, h⟩
      · exact fun h => h.2
    · rw [if_neg c, Option.bind_some]
      rw [hsz] at c
      rw [decide_eq_false (by omega)]
  unfold impl_matchesAt.f matB
  rw [if_pos (by omega), if_pos (by omega), Int.toNat_natCast, hP, Option.bind_some, e1]
  by_cases y : l.data.toList.isPrefixOf (w.data.toList.drop p) = true
  · rw [if_pos y, y, Bool.true_and]
    rw [pre_iff, decide_eq_true_iff, List.length_drop, size_list, size_list] at y
    have hA := mA_i b l a s w (by omega) (by omega) (by omega) p hp a.size k (p + l.size) 0 (by omega) (by omega) (by omega)
    rw [show (((0 : Nat) : Int)) = 0 from rfl, List.drop_zero] at hA
    exact hA
  · rw [if_neg y]
    rw [Bool.not_eq_true] at y
    rw [y, Bool.false_and]
end
theorem isWordl (s : ByteArray) (hs : s.size ≤ 4194304) (d : Nat) : ∀ (k i : Nat), i + d = s.size → d < k →
    impl_isWord.l0 k s (s.size : Int) (i : Int) = some ((s.data.toList.drop i).all (fun b => decide (97 ≤ b.toNat ∧ b.toNat ≤ 122)) && decide (1 ≤ (s.size : Int) ∧ (s.size : Int) ≤ 24)) := by
  induction d with
  | zero =>
    intro k i h1 hk
    obtain ⟨k, rfl⟩ : ∃ m, k = m + 1 := ⟨k - 1, by omega⟩
    rw [impl_isWord.l0, if_neg (by omega), List.drop_of_length_le (by rw [size_list]; omega)]
    unfold impl_within.f
    by_cases h : (s.size : Int) ≥ 1
    · rw [if_pos h]
      simp only [List.all_nil, Bool.true_and, Option.bind_some]
      congr 1
      rw [decide_eq_decide]; omega
    · rw [if_neg h]
      simp only [List.all_nil, Bool.true_and, Option.bind_some]
      congr 1
      exact (decide_eq_false (by omega)).symm
  | succ d ih =>
    intro k i h1 hk
    obtain ⟨k, rfl⟩ : ∃ m, k = m + 1 := ⟨k - 1, by omega⟩
    have hi : i < s.size := by omega
    have e1 : wrap64 ((i : Int) + 1) = ((i + 1 : Nat) : Int) := by rw [w64 (by omega) (by omega)]; omega
    have hd : s.data.toList.drop i = (s.data.toList[i]'hi) :: s.data.toList.drop (i + 1) := List.drop_eq_getElem_cons hi
    have hL : ∀ c, impl_isLetter.f c = spec_l07Letter.f c := fun _ => rfl
    rw [impl_isWord.l0, if_pos (by omega), if_pos (by omega), if_pos (by omega), bt_nat s i hi, hL, letter_b, Option.bind_some, hd, List.all_cons]
    by_cases h : decide (97 ≤ (s.data.toList[i]'hi).toNat ∧ (s.data.toList[i]'hi).toNat ≤ 122) = true
    · rw [if_pos h, e1, ih k (i + 1) (by omega) (by omega), h, Bool.true_and]
    · rw [if_neg h]
      rw [Bool.not_eq_true] at h
      rw [h, Bool.false_and, Bool.false_and]
def wordB (s : ByteArray) : Bool := alph s && decide (1 ≤ (s.size : Int) ∧ (s.size : Int) ≤ 24)
theorem word_i (s : ByteArray) (hs : s.size ≤ 4194304) (k : Nat) (hk : s.size < k) : impl_isWord.f k s = some (wordB s) := isWordl s hs s.size k 0 (by omega) hk
def mR (w : ByteArray) (p : Nat) (x : SI) : Bool := matB x.f0 x.f1 x.f2 w p
def fi (m : SI → Bool) : List SI → Nat → Option Nat
  | [], _ => none
  | x :: xs, i => if m x = true then some i else fi m xs (i + 1)
theorem fi_lt (m : SI → Bool) (l : List SI) (e : Nat) : ∀ (i j : Nat), i + e = l.length → fi m (l.drop i) i = some j → ∃ h : j < l.length, m (l[j]'h) = true := by
  induction e with
  | zero =>
    intro i j h1 h2
    rw [List.drop_of_length_le (by omega), fi] at h2
    cases h2
  | succ e ih =>
    intro i j h1 h2
    have hi : i < l.length := by omega
    rw [List.drop_eq_getElem_cons hi, fi] at h2
    by_cases c : m (l[i]'hi) = true
    · rw [if_pos c] at h2
      cases h2
      exact ⟨hi, c⟩
    · rw [if_neg c] at h2
      exact ih (i + 1) j (by omega) h2
theorem ixF (w : ByteArray) (hw : w.size ≤ 1048576) (p : Nat) (hp : p ≤ w.size) (l : List SI) (hl : l.length ≤ 1048576) (ho : ∀ x ∈ l, okR x) (e : Nat) : ∀ (k i : Nat), i + e = l.length → e + 8388630 < k →
    slices_IndexFunc_v_impl_rulesFor_1.l0 k l (l.length : Int) (i : Int) [(⟨w⟩ : W9)] [(⟨(p : Int)⟩ : W3)] = some (match fi (mR w p) (l.drop i) i with | some j => (j : Int) | none => -1) := by
  induction e with
  | zero =>
    intro k i h1 hk
    obtain ⟨k, rfl⟩ : ∃ m, k = m + 1 := ⟨k - 1, by omega⟩
    rw [slices_IndexFunc_v_impl_rulesFor_1.l0, if_neg (nlt (by omega)), List.drop_of_length_le (by omega)]
    rfl
  | succ e ih =>
    intro k i h1 hk
    obtain ⟨k, rfl⟩ : ∃ m, k = m + 1 := ⟨k - 1, by omega⟩
    have hi : i < l.length := by omega
    obtain ⟨o1, o2, o3, o4⟩ := ho _ (List.getElem_mem hi)
    have e1 := up hi (by omega)
    have hr : impl_rulesFor_1.f k (l[i]'hi).f0 (l[i]'hi).f1 (l[i]'hi).f2 (l[i]'hi).f3 [(⟨w⟩ : W9)] [(⟨(p : Int)⟩ : W3)] = some (mR w p (l[i]'hi)) := by
      have hm := matches_i (l[i]'hi).f0 (l[i]'hi).f1 (l[i]'hi).f2 (l[i]'hi).f3 w o1 o2 o3 hw p hp k (by omega)
      unfold impl_rulesFor_1.f
      rw [if_pos (show (0 : Int) < (([(⟨w⟩ : W9)] : List W9).length : Int) by show (0 : Int) < 1; decide), if_pos (show (0 : Int) < (([(⟨(p : Int)⟩ : W3)] : List W3).length : Int) by show (0 : Int) < 1; decide)]
      rw [show (rd_T9 [(⟨w⟩ : W9)] 0).f0 = w from rfl, show (rd_T3 [(⟨(p : Int)⟩ : W3)] 0).f0 = (p : Int) from rfl, hm]
      rfl
    rw [slices_IndexFunc_v_impl_rulesFor_1.l0, if_pos (lt' hi), if_pos (nn i), if_pos (lt' hi), rdI_at hi, hr, Option.bind_some, List.drop_eq_getElem_cons hi, fi]
    by_cases c : mR w p (l[i]'hi) = true
    · rw [if_pos c, if_pos c]
    · rw [if_neg c, if_neg c, e1]
      exact ih k (i + 1) (by omega) (by omega)
theorem mR_size {w : ByteArray} {p : Nat} {x : SI} (h : mR w p x = true) (hp : p ≤ w.size) : p + x.f1.size ≤ w.size := by
  unfold mR matB at h
  rw [Bool.and_eq_true, pre_iff, decide_eq_true_iff, List.length_drop, size_list, size_list] at h
  omega
theorem upn {p n w : Nat} (h : p + n ≤ w) (hw : w ≤ 24) : wrap64 ((p : Int) + (n : Int)) = ((p + n : Nat) : Int) := by rw [w64 (by omega) (by omega)]; omega
theorem rB_name {x : SI} (h : rB x = true) : 1 ≤ x.f1.size := by
  unfold rB ruleB nameB at h
  simp only [Bool.and_eq_true, decide_eq_true_eq] at h
  exact h.1.1.2.2.1
theorem wordB_size {w : ByteArray} (h : wordB w = true) : w.size ≤ 24 := by
  unfold wordB at h
  rw [Bool.and_eq_true, decide_eq_true_iff] at h
  omega
def dB (q r : SI) : Bool := decide (q.f0.size = 0) && (decide (q.f2.size = 0) && decide (q.f1.size ≤ r.f1.size ∧ r.f1.extract 0 q.f1.size = q.f1))
theorem one_rd (x : SI) : rd_T30 [x] 0 = x := rfl
theorem dead1 (q r : SI) : impl_DeadRules_1.f q.f0 q.f1 q.f2 q.f3 [r] = some (dB q r) := by
  unfold impl_DeadRules_1.f dB
  by_cases c1 : q.f0.toList = ([] : List UInt8)
  · rw [if_pos c1, decide_eq_true (nil_iff.1 c1), Bool.true_and]
    by_cases c2 : q.f2.toList = ([] : List UInt8)
    · have h1 : (0 : Int) < (([r] : List SI).length : Int) := by show (0 : Int) < 1; decide
      rw [if_pos c2, decide_eq_true (nil_iff.1 c2), Bool.true_and, if_pos h1, one_rd]
      unfold strings_HasPrefix.f stringslite_HasPrefix.f
      by_cases c3 : (r.f1.size : Int) ≥ (q.f1.size : Int)
      · rw [if_pos c3, if_pos (nn _), if_pos c3, Option.bind_some, Option.bind_some, Int.toNat_natCast]
        congr 1
        rw [Bool.eq_iff_iff, beq_iff_eq, decide_eq_true_iff, list_eq_iff]
        constructor
        · exact fun h => ⟨by omega, h⟩
        · exact fun h => h.2
      · rw [if_neg c3, Option.bind_some, Option.bind_some, decide_eq_false (fun h => c3 (le' h.1))]
    · rw [if_neg c2, decide_eq_false (fun h => c2 (nil_iff.2 h)), Bool.false_and]
  · rw [if_neg c1, decide_eq_false (fun h => c1 (nil_iff.2 h)), Bool.false_and]
theorem ixD (r : SI) (l : List SI) (hl : l.length ≤ 1048576) (d : Nat) : ∀ (k i : Nat), i + d = l.length → d < k →
    ∃ z : Int, slices_IndexFunc_v_impl_DeadRules_1.l0 k l (l.length : Int) (i : Int) [r] = some z ∧ (0 ≤ z ↔ (l.drop i).any (fun q => dB q r) = true) := by
  induction d with
  | zero =>
    intro k i h1 hk
    obtain ⟨k, rfl⟩ : ∃ m, k = m + 1 := ⟨k - 1, by omega⟩
    rw [slices_IndexFunc_v_impl_DeadRules_1.l0, if_neg (nlt (by omega)), List.drop_of_length_le (by omega), List.any_nil]
    exact ⟨-1, rfl, by simp⟩
  | succ d ih =>
    intro k i h1 hk
    obtain ⟨k, rfl⟩ : ∃ m, k = m + 1 := ⟨k - 1, by omega⟩
    have hi : i < l.length := by omega
    have e1 := up hi (by omega)
    obtain ⟨z, h3, h4⟩ := ih k (i + 1) (by omega) (by omega)
    rw [slices_IndexFunc_v_impl_DeadRules_1.l0, if_pos (lt' hi), if_pos (nn i), if_pos (lt' hi), rdI_at hi, dead1, Option.bind_some, List.drop_eq_getElem_cons hi, List.any_cons]
    by_cases h : dB (l[i]'hi) r = true
    · rw [if_pos h, h, Bool.true_or]
      exact ⟨(i : Int), rfl, by simp⟩
    · rw [if_neg h, e1]
      rw [Bool.not_eq_true] at h
      rw [h, Bool.false_or]
      exact ⟨z, h3, h4⟩
theorem hasD (r : SI) (l : List SI) (hl : l.length ≤ 1048576) (k : Nat) (hk : l.length < k) : slices_ContainsFunc_v_impl_DeadRules_1.f k l [r] = some (l.any (fun q => dB q r)) := by
  obtain ⟨z, hz, hz2⟩ := ixD r l hl l.length k 0 (by omega) hk
  have hz' : slices_IndexFunc_v_impl_DeadRules_1.l0 k l (l.length : Int) 0 [r] = some z := hz
  rw [List.drop_zero] at hz2
  unfold slices_ContainsFunc_v_impl_DeadRules_1.f slices_IndexFunc_v_impl_DeadRules_1.f
  rw [hz', Option.bind_some]
  congr 1
  rw [Bool.eq_iff_iff, decide_eq_true_iff]
  exact hz2
theorem cutF_none (s : ByteArray) (c : UInt8) (h : c ∉ s.data.toList) : strings_Cut.f s (ba [c]) = some (s, ⟨#[]⟩, false) := by
  have hI : stringslite_Index.f s (ba [c]) = some (-1) := by
    unfold stringslite_Index.f
    rw [if_pos (show (ba [c]).size = 1 from rfl), ← idx_none h]; rfl
  unfold strings_Cut.f stringslite_Cut.f
  rw [hI, Option.bind_some, if_neg (by decide), Option.bind_some]
theorem cutF_hit (s : ByteArray) (hs : s.size ≤ 4194303) (c : UInt8) (p r : List UInt8) (h : s.data.toList = p ++ c :: r) (hp : c ∉ p) : strings_Cut.f s (ba [c]) = some (ba p, ba r, true) := by
  obtain ⟨g1, g2, g3⟩ := take_hit h
  have hI : stringslite_Index.f s (ba [c]) = some ((p.length : Nat) : Int) := by
    unfold stringslite_Index.f
    rw [if_pos (show (ba [c]).size = 1 from rfl), ← idx_hit (r := r) hp, ← h]; rfl
  clear h
  have f1 : ((p.length : Nat) : Int) ≥ 0 := by omega
  have f2 : (0 : Int) ≤ ((p.length : Nat) : Int) := by omega
  have f3 : ((p.length : Nat) : Int) ≤ (s.size : Int) := by omega
  have f4 : (0 : Int) ≤ ((p.length + 1 : Nat) : Int) := by omega
  have f5 : ((p.length + 1 : Nat) : Int) ≤ (s.size : Int) := by omega
  have e3 : wrap64 (((p.length : Nat) : Int) + (((ba [c]).size : Nat) : Int)) = ((p.length + 1 : Nat) : Int) := by
    rw [show (((ba [c]).size : Nat) : Int) = 1 from rfl, w64 (by omega) (by omega)]; omega
  unfold strings_Cut.f stringslite_Cut.f
  rw [hI, Option.bind_some, if_pos f1, if_pos f2, if_pos f3, e3, if_pos f4, if_pos f5, Int.toNat_natCast, Int.toNat_natCast, g1, g2, Option.bind_some]
def rtext (b l a s : ByteArray) : ByteArray := ((((((b ++ (⟨#[91]⟩ : ByteArray)) ++ l) ++ (⟨#[93]⟩ : ByteArray)) ++ a) ++ (⟨#[61]⟩ : ByteArray)) ++ s)
theorem text_i (b l a s : ByteArray) (hb : b.size ≤ 4194303) (hl : l.size ≤ 4194303) (ha : a.size ≤ 4194303) (hs : s.size ≤ 4194303) : impl_ruleText.f b l a s = some (rtext b l a s) := by
  have z1 : (⟨#[91]⟩ : ByteArray).size = 1 := rfl
  have z2 : (⟨#[93]⟩ : ByteArray).size = 1 := rfl
  have z3 : (⟨#[61]⟩ : ByteArray).size = 1 := rfl
  unfold impl_ruleText.f
  rw [if_pos (by omega), if_pos (by simp only [ByteArray.size_append]; omega), if_pos (by simp only [ByteArray.size_append]; omega), if_pos (by simp only [ByteArray.size_append]; omega), if_pos (by simp only [ByteArray.size_append]; omega), if_pos (by simp only [ByteArray.size_append]; omega)]
  rfl
theorem rtext_size (b l a s : ByteArray) : (rtext b l a s).size = b.size + l.size + a.size + s.size + 3 := by
  have z1 : (⟨#[91]⟩ : ByteArray).size = 1 := rfl
  have z2 : (⟨#[93]⟩ : ByteArray).size = 1 := rfl
  have z3 : (⟨#[61]⟩ : ByteArray).size = 1 := rfl
  unfold rtext
  simp only [ByteArray.size_append]
  omega
theorem signs_no {s : ByteArray} (h : signsB s = true) (c : UInt8) (hc : signB c = false) : c ∉ s.data.toList := by
  intro hm
  unfold signsB at h
  rw [Bool.and_eq_true] at h
  have := List.all_eq_true.1 h.1 c hm
  rw [hc] at this
  cases this
theorem name_no {s : ByteArray} (h : nameB s = true) (c : UInt8) (hc : decide (97 ≤ c.toNat ∧ c.toNat ≤ 122) = false) : c ∉ s.data.toList := by
  intro hm
  unfold nameB alph at h
  rw [Bool.and_eq_true] at h
  have := List.all_eq_true.1 h.1 c hm
  rw [hc] at this
  cases this
theorem rule_parts {b l a s : ByteArray} (h : ruleB b l a s = true) : nameB l = true ∧ signsB b = true ∧ signsB a = true := by
  unfold ruleB at h
  simp only [Bool.and_eq_true] at h
  exact ⟨h.1.1.2, h.1.2, h.2⟩
theorem rtext_list (b l a s : ByteArray) : (rtext b l a s).data.toList = b.data.toList ++ 91 :: (l.data.toList ++ 93 :: (a.data.toList ++ 61 :: s.data.toList)) := by
  unfold rtext
  simp only [ByteArray.data_append, Array.toList_append, List.append_assoc]
  rfl
theorem text_ii (b l a s : ByteArray) (hb : b.size ≤ 4194303) (hl : l.size ≤ 4194303) (ha : a.size ≤ 4194303) (hs : s.size ≤ 4194303) (k : Nat) (hk : 8388620 < k) : impl_RuleText.f k b l a s = some (if ruleB b l a s = true then (rtext b l a s, true) else (⟨#[]⟩, false)) := by
  unfold impl_RuleText.f
  rw [rule_i b l a s hb hl ha hs k hk, Option.bind_some, text_i b l a s hb hl ha hs]
  by_cases c : ruleB b l a s = true
  · rw [if_pos c, if_pos c]; rfl
  · rw [if_neg c, if_neg c]
def sn (x : SI) : List ByteArray := (namesOf x.f3).1
theorem rB_names {x : SI} (h : rB x = true) : (namesOf x.f3).2 = true := by
  unfold rB ruleB at h
  simp only [Bool.and_eq_true] at h
  exact h.1.1.1
theorem sn_split {x : SI} (h : rB x = true) (hz : ¬ x.f3.size = 0) : sn x = cutB 46 x.f3 ∧ x.f3.size ≤ 24 := by
  have h2 := rB_names h
  unfold sn
  unfold namesOf at h2 ⊢
  rw [if_neg hz] at h2 ⊢
  by_cases c : (cutB 46 x.f3).all nameB = true
  · rw [if_pos c] at h2 ⊢
    exact ⟨rfl, of_decide_eq_true h2⟩
  · rw [if_neg c] at h2
    cases h2
theorem sn_nil {x : SI} (hz : x.f3.size = 0) : sn x = [] := by
  unfold sn namesOf
  rw [if_pos hz]
theorem sn_len {x : SI} (h : rB x = true) : (sn x).length ≤ 25 := by
  by_cases hz : x.f3.size = 0
  · rw [sn_nil hz]; decide
  · obtain ⟨h1, h2⟩ := sn_split h hz
    rw [h1]
    unfold cutB
    rw [List.length_map, cut_len]
    have : x.f3.data.toList.count 46 ≤ x.f3.data.toList.length := List.count_le_length
    rw [size_list] at this
    omega
theorem rulesB_parts {l : List SI} (c : rulesB l = true) : l.length ≤ 48 ∧ ∀ x ∈ l, rB x = true := by
  unfold rulesB at c
  rw [Bool.and_eq_true] at c
  exact ⟨of_decide_eq_true c.1, fun x hx => List.all_eq_true.1 c.2 x hx⟩
end Go.Proofs.YtmmcdpijpdjnoaaDoor.RrPure
