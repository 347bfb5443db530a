/- Floats by their bits: what comparisons, sums and conversions come to where no bits are left open; rows of floats. -/
import Derived.WalkKit
import Derived.WalkLawsBesides
import Derived.Laws.Cover2
import Derived.Laws.FloatArith
import Derived.Test.YthnjgcdajjodjaaWWords
import Derived.Test.YthnjgcdajjodjaaWFoot
import Derived.Test.YthnjgcdajjodjaaWMore
import Derived.Test.YthnjgcdajjodjaaProg
set_option linter.unusedVariables false
set_option linter.unusedSimpArgs false
namespace Go.Proofs.YthnjgcdajjodjaaW.PrintFl
open Go.RowKit Go.Proofs.YthnjgcdajjodjaaW.PrintWords

theorem w64_id {x : Int} (h0 : -9223372036854775808 ≤ x) (h1 : x ≤ 9223372036854775807) : wrap64 x = x := by
  unfold wrap64; omega
def feq (k : FloatKind) (a b : Nat) : Bool := k.format.order a b == some .eq
def fne (k : FloatKind) (a b : Nat) : Bool := k.format.order a b != some .eq
def fls (k : FloatKind) (a b : Nat) : Bool := k.format.order a b == some .lt
def fle (k : FloatKind) (a b : Nat) : Bool := k.format.order a b == some .lt || k.format.order a b == some .eq
def fgr (k : FloatKind) (a b : Nat) : Bool := k.format.order a b == some .gt
def fge (k : FloatKind) (a b : Nat) : Bool := k.format.order a b == some .gt || k.format.order a b == some .eq
theorem fne_eq (k : FloatKind) (a b : Nat) : fne k a b = !feq k a b := rfl
theorem binOp_feq (t : TypeId) (k : FloatKind) (a b : Nat) : binOp .eql t (.float k a) (.float k b) = pure (.bool (feq k a b)) := binOp_float_cmp_eql t k a b
theorem binOp_fne (t : TypeId) (k : FloatKind) (a b : Nat) : binOp .neq t (.float k a) (.float k b) = pure (.bool (fne k a b)) := binOp_float_cmp_neq t k a b
theorem binOp_fls (t : TypeId) (k : FloatKind) (a b : Nat) : binOp .lss t (.float k a) (.float k b) = pure (.bool (fls k a b)) := binOp_float_cmp_lss t k a b
theorem binOp_fle (t : TypeId) (k : FloatKind) (a b : Nat) : binOp .leq t (.float k a) (.float k b) = pure (.bool (fle k a b)) := binOp_float_cmp_leq t k a b
theorem binOp_fgr (t : TypeId) (k : FloatKind) (a b : Nat) : binOp .gtr t (.float k a) (.float k b) = pure (.bool (fgr k a b)) := binOp_float_cmp_gtr t k a b
theorem binOp_fge (t : TypeId) (k : FloatKind) (a b : Nat) : binOp .geq t (.float k a) (.float k b) = pure (.bool (fge k a b)) := binOp_float_cmp_geq t k a b
/-- an operation whose bits are not left open -/
def foprOk (op : BinOp) (k : FloatKind) (x y : Nat) : Bool := (floatBits op k x y).isSome
def fopr (op : BinOp) (k : FloatKind) (x y : Nat) : Nat := (floatBits op k x y).getD 0
section
variable {P : Program} (w : World)
theorem run_fopr (op : BinOp) (t : TypeId) (k : FloatKind) (x y : Nat) (h : foprOk op k x y = true) : (binOp op t (.float k x) (.float k y)).run P w = .ok (.float k (fopr op k x y)) w := by
  unfold foprOk at h
  obtain ⟨r, hr⟩ := Option.isSome_iff_exists.1 h
  rw [run_float_arith w op t k x y r hr]
  unfold fopr
  rw [hr]
  rfl
def fconvOk (s : FloatKind) (b : Nat) (k : FloatKind) : Bool := (floatToFloatBits s b k).isSome
def fconv (s : FloatKind) (b : Nat) (k : FloatKind) : Nat := (floatToFloatBits s b k).getD 0
theorem run_fconv (src dst : TypeId) (s k : FloatKind) (b : Nat) (hs : (P.underlying src).isSome = true) (hd : P.underlying dst = some (.float k)) (h : fconvOk s b k = true) :
    (convert src dst (.float s b)).run P w = .ok (.float k (fconv s b k)) w := by
  unfold fconvOk at h
  obtain ⟨r, hr⟩ := Option.isSome_iff_exists.1 h
  rw [run_convert_float_float w src dst s k b r hs hd hr]
  unfold fconv
  rw [hr]
  rfl
def fintOk (s : FloatKind) (b : Nat) (k : IntKind) : Bool := (floatToIntVal s b k).isSome
def fint (s : FloatKind) (b : Nat) (k : IntKind) : Int := (floatToIntVal s b k).getD 0
theorem run_fint (src dst : TypeId) (s : FloatKind) (k : IntKind) (b : Nat) (hs : (P.underlying src).isSome = true) (hd : P.underlying dst = some (.int k)) (h : fintOk s b k = true) :
    (convert src dst (.float s b)).run P w = .ok (.int k (fint s b k)) w := by
  unfold fintOk at h
  obtain ⟨r, hr⟩ := Option.isSome_iff_exists.1 h
  rw [run_convert_float_int w src dst s k b r hs hd hr]
  unfold fint
  rw [hr]
  rfl
end
theorem run_stf (P : Program) (w : World) (a : Addr) (m : Mode) (k : FloatKind) (b : Nat) : (store a (.float k b) m).run P w = stored P w a (.float k b) m := run_store P w a _ m rfl
theorem run_stc (P : Program) (w : World) (a : Addr) (m : Mode) (k : FloatKind) (x y : Nat) : (store a (.complex k x y) m).run P w = stored P w a (.complex k x y) m := run_store P w a _ m rfl
theorem ext_f32bits (b : Nat) (w : World) : (callFunc 49 #[.float .f32 b]).run Try.prog w = .ok (.value (.int .u32 b)) w :=
  run_callFunc_extern (e := Extern.MathFloatBits.float32bits) Try.func49 (by kernel_rfl) (by kernel_rfl) (by kernel_rfl) (by kernel_rfl) _ _
theorem ext_f64bits (b : Nat) (w : World) : (callFunc 52 #[.float .f64 b]).run Try.prog w = .ok (.value (.int .u64 b)) w :=
  run_callFunc_extern (e := Extern.MathFloatBits.float64bits) Try.func52 (by kernel_rfl) (by kernel_rfl) (by kernel_rfl) (by kernel_rfl) _ _
theorem ext_f32frombits (n : Int) (w : World) : (callFunc 50 #[.int .u32 n]).run Try.prog w = .ok (.value (.float .f32 n.toNat)) w :=
  run_callFunc_extern (e := Extern.MathFloatBits.float32frombits) Try.func50 (by kernel_rfl) (by kernel_rfl) (by kernel_rfl) (by kernel_rfl) _ _
namespace Kd
open Go.Proofs.YthnjgcdajjodjaaW.PrintWords.Kd
def float (k : FloatKind) : Kd Nat := scalar (Value.float k) (fun _ => rfl)
theorem heap_float (k : FloatKind) : Heap (float k) := ⟨fun _ h => h⟩
section
variable {w W : World} {A : Option Addr} {ad : Addr} {n : Nat}
theorem at_float {k : FloatKind} {xs : List Nat} (h : (float k).C w A n xs) (i : Int) (h0 : 0 ≤ i) (h1 : i < n) : ∃ ad, A = some ad ∧ w.cell? (ad.add i.toNat) = some (.float k (rdOf (0 : Nat) xs i)) :=
  ReadsOf.at_ (reads_of_C (enc := Value.float k) (d := (0 : Nat)) (h1 := fun _ => rfl) h) i h0 h1
theorem foot_float {k : FloatKind} {l : List Nat} (h : (float k).C w (some ad) n l) (i : Int) (h0 : 0 ≤ i) (h1 : i < n) : w.cell? (ad.add i.toNat) = some (.float k (rdOf (0 : Nat) l i)) := by
  obtain ⟨ad', he, hc⟩ := at_float h i h0 h1
  injection he with he
  subst he
  exact hc
end
/-- What lies at a block of its own, as a row of one element. -/
theorem C_one {α : Type} {d : Kd α} {w : World} {g : Nat} {cs : Array Value} {T : TypeId} {x : α} (h : w.heap[g]? = some (.cells cs T (0, 0))) (hk : d.K w x cs.toList) : d.C w (some ⟨g, 0, none⟩) [x].length [x] := by
  refine ⟨rfl, by show 1 ≤ _; decide, fun _ => ⟨_, rfl, fun j p hj => ?_⟩⟩
  cases j with
  | zero =>
    obtain rfl : x = p := by simpa using hj
    refine ⟨cs.toList, d.K_len hk, hk, fun i u hu => ?_⟩
    have : (Addr.mk g 0 none).add (0 * d.sz + i) = ⟨g, i, none⟩ := by
      unfold Addr.add
      by_cases c : i = 0 <;> simp [c]
    rw [this, blk_cell h i]
    simpa using hu
  | succ j => simp at hj
/-- One element of a row. -/
theorem C_sub {α : Type} {d : Kd α} {w : World} {ad : Addr} {n : Nat} {xs : List α} {z : α} (h : d.C w (some ad) n xs) (i : Int) (h0 : 0 ≤ i) (h1 : i < n) : d.C w (some (ad.add (i.toNat * d.sz))) [xs.getD i.toNat z].length [xs.getD i.toNat z] := by
  obtain ⟨ad', c, e, hl, hK, hc⟩ := C_get h z i h0 h1
  injection e with e
  subst e
  refine ⟨rfl, by show 1 ≤ _; decide, fun _ => ⟨_, rfl, fun j p hj => ?_⟩⟩
  cases j with
  | zero =>
    obtain rfl : xs.getD i.toNat z = p := by simpa using hj
    refine ⟨c, hl, hK, fun q u hu => ?_⟩
    rw [Nat.zero_mul, Nat.zero_add, Go.Proofs.YthnjgcdajjodjaaW.PrintWords.add_add]
    exact hc q u hu
  | succ j => simp at hj
end Kd
end Go.Proofs.YthnjgcdajjodjaaW.PrintFl
