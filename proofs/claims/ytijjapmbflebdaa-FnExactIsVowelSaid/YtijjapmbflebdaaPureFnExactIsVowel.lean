/- The one pure statement of the law FnExactIsVowel: a text of one byte is a vowel for both, or for neither. -/
import Derived.Test.YtijjapmbflebdaaPFnExactIsVowelx1
namespace Go.Proofs.Ytijjapmbflebdaa.Pure
open Go.RowKit Go.Proofs.Ytijjapmbflebdaa.PFnExactIsVowel Go.Proofs.YtijjapmbflebdaaW.PrintWords Go.Proofs.YtijjapmbflebdaaW.PrintLast
theorem vowel_fin : ∀ n : Fin 256, spec_l07Vowel.f (n.1 : Int) = some (decide (0 ≤ Lib.indexByte [97, 101, 105, 111, 117, 121] (UInt8.ofNat n.1))) := by decide +kernel
theorem FnExactIsVowel : laws_FnExactIsVowel.Pure := by
  rintro ⟨⟨l⟩⟩ _
  unfold laws_FnExactIsVowel.f
  split
  · rfl
  · unfold spec_IsVowel.f impl_IsVowel.f
    match l with
    | [] => rfl
    | [c] =>
      have h := vowel_fin ⟨c.toNat, c.toNat_lt⟩
      simp only [UInt8.ofNat_toNat] at h
      have hb : bt ⟨⟨[c]⟩⟩ 0 = (c.toNat : Int) := rfl
      have h2 : strings_Contains.f ⟨#[97, 101, 105, 111, 117, 121]⟩ ⟨⟨[c]⟩⟩ = some (decide (0 ≤ Lib.indexByte [97, 101, 105, 111, 117, 121] c)) := rfl
      rw [hb, h, h2]
      simp [ByteArray.size]
    | a :: b :: l =>
      have hs : ¬ (((ByteArray.mk ⟨a :: b :: l⟩).size : Int) = 1) := by
        simp [ByteArray.size]; omega
      rw [if_neg hs, if_neg hs]
      rfl
end Go.Proofs.Ytijjapmbflebdaa.Pure
