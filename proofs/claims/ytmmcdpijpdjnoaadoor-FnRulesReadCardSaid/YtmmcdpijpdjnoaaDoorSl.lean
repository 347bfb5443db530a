import Derived.WalkKit
import Derived.Test.YtmmcdpijpdjnoaaDoorWWords
set_option linter.unusedVariables false
namespace Go.Proofs.YtmmcdpijpdjnoaaDoorW.PrintFl
open Go.RowKit
theorem less_total : ∀ x y : List UInt8, (Op.bytesLess x y || x == y) = !Op.bytesLess y x
  | [], [] => by decide
  | [], b :: y => by simp [Op.bytesLess]
  | a :: x, [] => by simp [Op.bytesLess]
  | a :: x, b :: y => by
    have ih := less_total x y
    simp only [Op.bytesLess, List.cons_beq_cons]
    by_cases h : a = b
    · subst h
      have hl : (decide (a < a)) = false := decide_eq_false (UInt8.lt_irrefl a)
      simp only [hl, BEq.rfl, Bool.true_and, Bool.false_or]
      exact ih
    · have h1 : (a == b) = false := by simpa using h
      have h2 : (b == a) = false := by simpa using fun e => h e.symm
      simp only [h1, h2, Bool.false_and, Bool.or_false]
      have h3 : a < b ∨ b < a := by
        rcases Nat.lt_trichotomy a.toNat b.toNat with h4 | h4 | h4
        · exact .inl (UInt8.lt_iff_toNat_lt.2 h4)
        · exact absurd (UInt8.toNat_inj.1 h4) h
        · exact .inr (UInt8.lt_iff_toNat_lt.2 h4)
      rcases h3 with h3 | h3
      · have h5 : ¬ b < a := by rw [UInt8.lt_iff_toNat_lt] at h3 ⊢; omega
        simp [h3, h5]
      · have h5 : ¬ a < b := by rw [UInt8.lt_iff_toNat_lt] at h3 ⊢; omega
        simp [h3, h5]
theorem binOp_sle (t : TypeId) (x y : ByteArray) : binOp .leq t (.string x) (.string y) = pure (.bool (!Op.bytesLess y.toList x.toList)) := by
  rw [← less_total]; rfl
theorem binOp_sgt (t : TypeId) (x y : ByteArray) : binOp .gtr t (.string x) (.string y) = pure (.bool (Op.bytesLess y.toList x.toList)) := by
  have h := less_total x.toList y.toList
  have : Op.bytesLess y.toList x.toList = !(Op.bytesLess x.toList y.toList || x.toList == y.toList) := by rw [h]; simp
  rw [this]; rfl
end Go.Proofs.YtmmcdpijpdjnoaaDoorW.PrintFl
