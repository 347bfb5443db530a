/- Bytes as lists. -/
import Derived.Test.YthnjgcdajjodjaaPFnStoredx0
import Derived.Lib.Strings
set_option linter.unusedVariables false
set_option linter.unusedSimpArgs false
namespace Go.Proofs.Ythnjgcdajjodjaa.StdPure2
open Go.RowKit Go.Proofs.YthnjgcdajjodjaaW.PrintWords Go.Proofs.YthnjgcdajjodjaaW.PrintFl Go.Proofs.Ythnjgcdajjodjaa.PFnStored
abbrev BI := S28
abbrev D (s : ByteArray) : List UInt8 := s.data.toList
theorem D_len (s : ByteArray) : (D s).length = s.size := by rw [Array.length_toList]; rfl
theorem D_inj {a b : ByteArray} (h : D a = D b) : a = b := ByteArray.ext (Array.toList_inj.1 h)
theorem D_app (a b : ByteArray) : D (a ++ b) = D a ++ D b := by rw [D, ByteArray.data_append, Array.toList_append]
theorem D_ext (s : ByteArray) (a b : Nat) : D (s.extract a b) = ((D s).drop a).take (b - a) := Go.Lib.extract_data s a b
theorem D_from (s : ByteArray) (a : Nat) : D (s.extract a s.size) = (D s).drop a := by
  rw [D_ext, List.take_of_length_le]
  rw [List.length_drop, D_len]
  exact Nat.le_refl _
theorem D_to (s : ByteArray) (a : Nat) : D (s.extract 0 a) = (D s).take a := by rw [D_ext, List.drop_zero, Nat.sub_zero]
theorem bt_D (s : ByteArray) (i : Nat) (h : i < s.size) : bt s (i : Int) = (((D s)[i]'(by rw [D_len]; exact h)).toNat : Int) := by
  unfold bt
  rw [dif_pos (by rw [Int.toNat_natCast]; exact h)]
  rfl
theorem bt_left (a b : ByteArray) (i : Nat) (h : i < a.size) : bt (a ++ b) (i : Int) = bt a (i : Int) := by
  rw [bt_D _ i (by rw [ByteArray.size_append]; omega), bt_D _ i h]
  congr 2
  simp only [D_app]
  exact List.getElem_append_left _
end Go.Proofs.Ythnjgcdajjodjaa.StdPure2
