import Derived.Test.YteooifighndmkaaWWords
import Derived.Lib.Bytealg
import Derived.Lib.Strings
set_option linter.unusedVariables false
set_option linter.unusedSimpArgs false
namespace Go.Proofs.Yteooifighndmkaa.Lm
open Go.RowKit Go.Proofs.YteooifighndmkaaW.PrintWords
theorem w64 {x : Int} (h0 : -9223372036854775808 ≤ x) (h1 : x ≤ 9223372036854775807) : wrap64 x = x := by
  unfold wrap64; omega
def cut (c : UInt8) : List UInt8 → List (List UInt8)
  | [] => [[]]
  | b :: l => if b = c then [] :: cut c l else match cut c l with | p :: ps => (b :: p) :: ps | [] => [[b]]
def ba (l : List UInt8) : ByteArray := ⟨⟨l⟩⟩
def cutB (c : UInt8) (s : ByteArray) : List ByteArray := (cut c s.data.toList).map ba
theorem take_set_snoc {α : Type} {l : List α} {i : Nat} (h : i < l.length) (x : α) : (l.set i x).take (i + 1) = l.take i ++ [x] := by
  rw [List.take_succ_eq_append_getElem (by rw [List.length_set]; exact h), List.getElem_set_self]
  congr 1
  exact List.take_set_of_le (Nat.le_refl _)
theorem take_set_succ {α : Type} {xs ys : List α} {k : Nat} {x : α} (hk : k < xs.length) (hl : ys.length = xs.length) (ht : ys.take k = xs.take k) (hx : xs[k]? = some x) : (ys.set k x).take (k + 1) = xs.take (k + 1) := by
  rw [take_set_snoc (by omega), ht, List.take_succ_eq_append_getElem hk]
  congr 2
  rw [List.getElem?_eq_getElem hk] at hx
  exact (Option.some.inj hx).symm
theorem nn (n : Nat) : (0 : Int) ≤ (n : Int) := Int.natCast_nonneg n
theorem lt' {a b : Nat} (h : a < b) : (a : Int) < (b : Int) := Int.ofNat_lt.2 h
theorem nlt {a b : Nat} (h : b ≤ a) : ¬ ((a : Int) < (b : Int)) := by omega
theorem up {i n : Nat} (h : i < n) (hn : n ≤ 4194304) : wrap64 ((i : Int) + 1) = ((i + 1 : Nat) : Int) := by rw [w64 (by omega) (by omega)]; omega
theorem sum {a b n : Nat} (h : a + b ≤ n) (hn : n ≤ 4611686018427387904) : wrap64 ((a : Int) + (b : Int)) = ((a + b : Nat) : Int) := by rw [w64 (by omega) (by omega)]; omega
end Go.Proofs.Yteooifighndmkaa.Lm
