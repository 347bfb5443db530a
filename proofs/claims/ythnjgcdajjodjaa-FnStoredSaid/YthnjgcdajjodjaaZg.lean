/- The change from one number's bits to the next, as the walk and as the bytes tell it. -/
import Derived.Test.YthnjgcdajjodjaaM1
import Derived.Test.YthnjgcdajjodjaaFl
set_option linter.unusedVariables false
set_option linter.unusedSimpArgs false
namespace Go.Proofs.Ythnjgcdajjodjaa
open Go.RowKit Go.Proofs.YthnjgcdajjodjaaW.PrintWords
theorem zig_hi (x b : Nat) (hx : x < 4294967296) (hb : b < 4294967296) (h : (2147483648 : Int) ≤ (wrap64 (wrap64 ((x : Int) - (b : Int)) + 4294967296)).tmod 4294967296) :
    wrap64 (wrap64 (-2 * wrap64 ((wrap64 (wrap64 ((x : Int) - (b : Int)) + 4294967296)).tmod 4294967296 - 4294967296)) - 1) = ((zig b x : Nat) : Int) := by
  rw [change_walk x b hx hb] at h ⊢
  have hz : zig b x = if (x + 4294967296 - b) % 4294967296 ≥ 2147483648 then 2 * (4294967296 - (x + 4294967296 - b) % 4294967296) - 1 else 2 * ((x + 4294967296 - b) % 4294967296) := zig_def b x
  have hd : (x + 4294967296 - b) % 4294967296 < 4294967296 := Nat.mod_lt _ (by decide)
  rw [hz]
  generalize (x + 4294967296 - b) % 4294967296 = d at *
  rw [if_pos (by omega)]
  unfold wrap64
  omega
theorem zig_lo (x b : Nat) (hx : x < 4294967296) (hb : b < 4294967296) (h : (wrap64 (wrap64 ((x : Int) - (b : Int)) + 4294967296)).tmod 4294967296 < (2147483648 : Int)) :
    wrap64 (2 * (wrap64 (wrap64 ((x : Int) - (b : Int)) + 4294967296)).tmod 4294967296) = ((zig b x : Nat) : Int) := by
  rw [change_walk x b hx hb] at h ⊢
  have hz : zig b x = if (x + 4294967296 - b) % 4294967296 ≥ 2147483648 then 2 * (4294967296 - (x + 4294967296 - b) % 4294967296) - 1 else 2 * ((x + 4294967296 - b) % 4294967296) := zig_def b x
  have hd : (x + 4294967296 - b) % 4294967296 < 4294967296 := Nat.mod_lt _ (by decide)
  rw [hz]
  generalize (x + 4294967296 - b) % 4294967296 = d at *
  rw [if_neg (by omega)]
  unfold wrap64
  omega
theorem zig_no2 (x b : Nat) (hx : x < 4294967296) (hb : b < 4294967296) (h : (0 : Int) ≤ wrap64 ((wrap64 (wrap64 ((x : Int) - (b : Int)) + 4294967296)).tmod 4294967296 - 4294967296)) : False := by
  rw [change_walk x b hx hb] at h
  have hd : (x + 4294967296 - b) % 4294967296 < 4294967296 := Nat.mod_lt _ (by decide)
  generalize (x + 4294967296 - b) % 4294967296 = d at *
  unfold wrap64 at h
  omega
theorem zig_no3 (x b : Nat) (hx : x < 4294967296) (hb : b < 4294967296) (h : (wrap64 (wrap64 ((x : Int) - (b : Int)) + 4294967296)).tmod 4294967296 < 0) : False := by
  rw [change_walk x b hx hb] at h
  omega
end Go.Proofs.Ythnjgcdajjodjaa
