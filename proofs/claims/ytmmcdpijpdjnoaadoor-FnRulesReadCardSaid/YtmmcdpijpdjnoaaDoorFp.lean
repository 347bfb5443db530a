import Derived.WalkKit
import Derived.WalkLawsBesides
import Derived.Laws.Cover2
import Derived.Laws.FloatArith
import Derived.Test.YtmmcdpijpdjnoaaDoorWWords
import Derived.Test.YtmmcdpijpdjnoaaDoorWFoot
import Derived.Test.YtmmcdpijpdjnoaaDoorWMore
import Derived.Test.YtmmcdpijpdjnoaaDoorProg
set_option linter.unusedVariables false
set_option linter.unusedSimpArgs false
namespace Go.Proofs.YtmmcdpijpdjnoaaDoorW.PrintFl
open Go.RowKit Go.Proofs.YtmmcdpijpdjnoaaDoorW.PrintWords
theorem w64_id {x : Int} (h0 : -9223372036854775808 ≤ x) (h1 : x ≤ 9223372036854775807) : wrap64 x = x := by
  unfold wrap64; omega
def feq (k : FloatKind) (a b : Nat) : Bool := k.format.order a b == some .eq
def fne (k : FloatKind) (a b : Nat) : Bool := k.format.order a b != some .eq
def fls (k : FloatKind) (a b : Nat) : Bool := k.format.order a b == some .lt
def fle (k : FloatKind) (a b : Nat) : Bool := k.format.order a b == some .lt || k.format.order a b == some .eq
def fgr (k : FloatKind) (a b : Nat) : Bool := k.format.order a b == some .gt
def fge (k : FloatKind) (a b : Nat) : Bool := k.format.order a b == some .gt || k.format.order a b == some .eq
theorem binOp_feq (t : TypeId) (k : FloatKind) (a b : Nat) : binOp .eql t (.float k a) (.float k b) = pure (.bool (feq k a b)) := binOp_float_cmp_eql t k a b
theorem binOp_fne (t : TypeId) (k : FloatKind) (a b : Nat) : binOp .neq t (.float k a) (.float k b) = pure (.bool (fne k a b)) := binOp_float_cmp_neq t k a b
theorem binOp_fls (t : TypeId) (k : FloatKind) (a b : Nat) : binOp .lss t (.float k a) (.float k b) = pure (.bool (fls k a b)) := binOp_float_cmp_lss t k a b
theorem binOp_fle (t : TypeId) (k : FloatKind) (a b : Nat) : binOp .leq t (.float k a) (.float k b) = pure (.bool (fle k a b)) := binOp_float_cmp_leq t k a b
theorem binOp_fgr (t : TypeId) (k : FloatKind) (a b : Nat) : binOp .gtr t (.float k a) (.float k b) = pure (.bool (fgr k a b)) := binOp_float_cmp_gtr t k a b
theorem binOp_fge (t : TypeId) (k : FloatKind) (a b : Nat) : binOp .geq t (.float k a) (.float k b) = pure (.bool (fge k a b)) := binOp_float_cmp_geq t k a b
def foprOk (op : BinOp) (k : FloatKind) (x y : Nat) : Bool := (floatBits op k x y).isSome
def fopr (op : BinOp) (k : FloatKind) (x y : Nat) : Nat := (floatBits op k x y).getD 0
section
variable {P : Program} (w : World)
theorem run_fopr (op : BinOp) (t : TypeId) (k : FloatKind) (x y : Nat) (h : foprOk op k x y = true) : (binOp op t (.float k x) (.float k y)).run P w = .ok (.float k (fopr op k x y)) w := by
  unfold foprOk at h
  obtain ⟨r, hr⟩ := Option.isSome_iff_exists.1 h
  rw [run_float_arith w op t k x y r hr]
  unfold fopr
  rw [hr]
  rfl
def fconvOk (s : FloatKind) (b : Nat) (k : FloatKind) : Bool := (floatToFloatBits s b k).isSome
def fconv (s : FloatKind) (b : Nat) (k : FloatKind) : Nat := (floatToFloatBits s b k).getD 0
theorem run_fconv (src dst : TypeId) (s k : FloatKind) (b : Nat) (hs : (P.underlying src).isSome = true) (hd : P.underlying dst = some (.float k)) (h : fconvOk s b k = true) :
    (convert src dst (.float s b)).run P w = .ok (.float k (fconv s b k)) w := by
  unfold fconvOk at h
  obtain ⟨r, hr⟩ := Option.isSome_iff_exists.1 h
  rw [run_convert_float_float w src dst s k b r hs hd hr]
  unfold fconv
  rw [hr]
  rfl
def fintOk (s : FloatKind) (b : Nat) (k : IntKind) : Bool := (floatToIntVal s b k).isSome
def fint (s : FloatKind) (b : Nat) (k : IntKind) : Int := (floatToIntVal s b k).getD 0
theorem run_fint (src dst : TypeId) (s : FloatKind) (k : IntKind) (b : Nat) (hs : (P.underlying src).isSome = true) (hd : P.underlying dst = some (.int k)) (h : fintOk s b k = true) :
    (convert src dst (.float s b)).run P w = .ok (.int k (fint s b k)) w := by
  unfold fintOk at h
  obtain ⟨r, hr⟩ := Option.isSome_iff_exists.1 h
  rw [run_convert_float_int w src dst s k b r hs hd hr]
  unfold fint
  rw [hr]
  rfl
end
theorem run_stf (P : Program) (w : World) (a : Addr) (m : Mode) (k : FloatKind) (b : Nat) : (store a (.float k b) m).run P w = stored P w a (.float k b) m := run_store P w a _ m rfl
theorem run_stc (P : Program) (w : World) (a : Addr) (m : Mode) (k : FloatKind) (x y : Nat) : (store a (.complex k x y) m).run P w = stored P w a (.complex k x y) m := run_store P w a _ m rfl
namespace Kd
open Go.Proofs.YtmmcdpijpdjnoaaDoorW.PrintWords.Kd
def float (k : FloatKind) : Kd Nat := scalar (Value.float k) (fun _ => rfl)
section
variable {w W : World} {A : Option Addr} {ad : Addr} {n : Nat}
end
theorem C_one {α : Type} {d : Kd α} {w : World} {g : Nat} {cs : Array Value} {T : TypeId} {x : α} (h : w.heap[g]? = some (.cells cs T (0, 0))) (hk : d.K w x cs.toList) : d.C w (some ⟨g, 0, none⟩) [x].length [x] := by
  refine ⟨rfl, by show 1 ≤ _; decide, fun _ => ⟨_, rfl, fun j p hj => ?_⟩⟩
  cases j with
  | zero =>
    obtain rfl : x = p := by simpa using hj
    refine ⟨cs.toList, d.K_len hk, hk, fun i u hu => ?_⟩
    have : (Addr.mk g 0 none).add (0 * d.sz + i) = ⟨g, i, none⟩ := by
      unfold Addr.add
      by_cases c : i = 0 <;> simp [c]
    rw [this, blk_cell h i]
    simpa using hu
  | succ j => simp at hj
end Kd
end Go.Proofs.YtmmcdpijpdjnoaaDoorW.PrintFl
