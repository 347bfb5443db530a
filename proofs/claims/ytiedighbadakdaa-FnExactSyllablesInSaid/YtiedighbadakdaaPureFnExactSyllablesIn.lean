/- The one pure statement of the law FnExactSyllablesIn: the groups of vowels that both count are as many. -/
import Derived.Test.YtiedighbadakdaaPFnExactSyllablesInx2
namespace Go.Proofs.Ytiedighbadakdaa.Pure
open Go.RowKit Go.Proofs.Ytiedighbadakdaa.PFnExactSyllablesIn Go.Proofs.YtiedighbadakdaaW.PrintWords Go.Proofs.YtiedighbadakdaaW.PrintLast
theorem w64 {x : Int} (h0 : -9223372036854775808 ≤ x) (h1 : x ≤ 9223372036854775807) : wrap64 x = x := by
  unfold wrap64; omega
theorem letter_eq (c : Int) : spec_l07Letter.f c = impl_isLetter.f c := rfl
theorem letter_some (c : Int) : ∃ b, spec_l07Letter.f c = some b := by
  unfold spec_l07Letter.f
  split <;> exact ⟨_, rfl⟩
theorem wordl_eq (s : ByteArray) : ∀ (k : Nat) (i : Int), spec_l07Letters.l0 k s 1 24 i = impl_isWord.l0 k s (s.size : Int) i
  | 0, i => rfl
  | k + 1, i => by
    unfold spec_l07Letters.l0 impl_isWord.l0
    by_cases c : i < (s.size : Int)
    · by_cases c0 : 0 ≤ i
      · rw [if_pos c, if_pos c, if_pos c0, if_pos c0, if_pos c, letter_eq, wordl_eq s k]
      · rw [if_pos c, if_pos c, if_neg c0, if_neg c0]
    · rw [if_neg c, if_neg c]
      unfold impl_within.f
      split <;> rfl
theorem word_eq (s : ByteArray) (k : Nat) : spec_l07Word.f k s = impl_isWord.f k s := by
  unfold spec_l07Word.f spec_l07Letters.f impl_isWord.f
  rw [wordl_eq]
  cases impl_isWord.l0 k s (s.size : Int) 0 <;> rfl
theorem lettersl_some (s : ByteArray) (a b : Int) (hs : s.size ≤ 9223372036854775807) : ∀ (k : Nat) (i : Int), 0 ≤ i → i ≤ s.size → s.size - i < k → ∃ r, spec_l07Letters.l0 k s a b i = some r
  | 0, i, h0, h1, hk => by omega
  | k + 1, i, h0, h1, hk => by
    unfold spec_l07Letters.l0
    by_cases c : i < (s.size : Int)
    · obtain ⟨r, hr⟩ := letter_some (bt s i)
      rw [if_pos c, if_pos h0, hr, Option.bind_some]
      split
      · rw [w64 (by omega) (by omega)]
        exact lettersl_some s a b hs k (i + 1) (by omega) (by omega) (by omega)
      · exact ⟨_, rfl⟩
    · rw [if_neg c]
      split <;> exact ⟨_, rfl⟩
theorem letters_some (s : ByteArray) (a b : Int) (hs : s.size ≤ 9223372036854775807) (k : Nat) (hk : s.size < k) : ∃ r, spec_l07Letters.f k s a b = some r := lettersl_some s a b hs k 0 (by omega) (by omega) (by omega)
theorem word_some (s : ByteArray) (hs : s.size ≤ 9223372036854775807) (k : Nat) (hk : s.size < k) : ∃ r, spec_l07Word.f k s = some r := by
  unfold spec_l07Word.f
  obtain ⟨r, hr⟩ := letters_some s 1 24 hs k hk
  rw [hr]
  exact ⟨r, rfl⟩
theorem vowel_fin : ∀ n : Fin 256, spec_l07Vowel.f (n.1 : Int) = impl_isVowel.f (n.1 : Int) := by decide +kernel
theorem vowel_eq (s : ByteArray) (i : Int) : spec_l07Vowel.f (bt s i) = impl_isVowel.f (bt s i) := by
  obtain ⟨h0, h1⟩ := bt_range s i
  have := vowel_fin ⟨(bt s i).toNat, by omega⟩
  simpa [Int.toNat_of_nonneg h0] using this
theorem vowel_some (c : Int) : ∃ b, spec_l07Vowel.f c = some b := by
  unfold spec_l07Vowel.f
  split
  · exact ⟨_, rfl⟩
  split
  · exact ⟨_, rfl⟩
  split
  · exact ⟨_, rfl⟩
  split
  · exact ⟨_, rfl⟩
  split
  · exact ⟨_, rfl⟩
  · exact ⟨_, rfl⟩
theorem syll_eq (s : ByteArray) : ∀ (k : Nat) (n i : Int), spec_SyllablesIn.l0 k s n i = impl_SyllablesIn.l0 k s n (s.size : Int) i
  | 0, n, i => rfl
  | k + 1, n, i => by
    unfold spec_SyllablesIn.l0 impl_SyllablesIn.l0
    by_cases c : i < (s.size : Int)
    · by_cases c0 : 0 ≤ i
      · rw [if_pos c, if_pos c, if_pos c0, if_pos c0, if_pos c, vowel_eq, vowel_eq]
        simp only [syll_eq s k]
      · rw [if_pos c, if_pos c, if_neg c0, if_neg c0]
    · rw [if_neg c, if_neg c]
theorem syll_some (s : ByteArray) (hs : s.size ≤ 1048576) : ∀ (k : Nat) (n i : Int), 0 ≤ i → i ≤ s.size → s.size - i < k → ∃ r, spec_SyllablesIn.l0 k s n i = some r
  | 0, n, i, h0, h1, hk => by omega
  | k + 1, n, i, h0, h1, hk => by
    unfold spec_SyllablesIn.l0
    by_cases c : i < (s.size : Int)
    · obtain ⟨r, hr⟩ := vowel_some (bt s i)
      obtain ⟨q, hq⟩ := vowel_some (bt s (wrap64 (i - 1)))
      rw [if_pos c, if_pos h0, hr, hq, Option.bind_some, w64 (x := i + 1) (by omega) (by omega), w64 (x := i - 1) (by omega) (by omega)]
      have ih := fun n => syll_some s hs k n (i + 1) (by omega) (by omega) (by omega)
      by_cases c1 : r = true
      · rw [if_pos c1]
        by_cases c2 : i = 0
        · rw [if_pos c2]; exact ih _
        · rw [if_neg c2, if_pos (by omega), if_pos (by omega), Option.bind_some]
          split <;> exact ih _
      · rw [if_neg c1]; exact ih _
    · rw [if_neg c]; exact ⟨_, rfl⟩
theorem FnExactSyllablesIn : laws_FnExactSyllablesIn.Pure := by
  intro a ha
  refine ⟨1048578, ?_⟩
  unfold laws_FnExactSyllablesIn.f
  by_cases h : (a.size : Int) > 1048576
  · rw [if_pos h]
  · rw [if_neg h]
    have he : spec_SyllablesIn.f 1048578 a = impl_SyllablesIn.f 1048578 a := by
      unfold spec_SyllablesIn.f impl_SyllablesIn.f
      rw [word_eq, syll_eq]
    obtain ⟨x, hx⟩ : ∃ x, spec_SyllablesIn.f 1048578 a = some x := by
      unfold spec_SyllablesIn.f
      obtain ⟨r, hr⟩ := word_some a (by omega) 1048578 (by omega)
      rw [hr, Option.bind_some]
      split
      · exact syll_some a (by omega) _ 0 0 (by omega) (by omega) (by omega)
      · exact ⟨_, rfl⟩
    rw [← he, hx, Option.bind_some, Option.bind_some, if_pos rfl, if_neg (by simp)]
end Go.Proofs.Ytiedighbadakdaa.Pure
