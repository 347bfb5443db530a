import Derived.Test.YtmmcdpijpdjnoaaDoorProg
import Derived.Below
import Derived.Shelf.Abstract
import Derived.Deep.Draws
import Derived.Deep.AppendLies
import Derived.Maps.AppendAt
import Derived.OwnWalk
import Derived.Laws.BytesArg
import Derived.Laws.MakeOwn
import Derived.Laws.OwnMore
import Derived.Deep.OwnRows
import Derived.Tactics
import Derived.Lib.ConvBytes
import Derived.Laws.Slices
import Derived.WalkKit
import Derived.KernelRfl
import Derived.RowKit3
import Derived.Deep.LoopGhost
import Derived.Deep.QuietTactic
import Derived.BigQuiet
import Derived.WideLaws
import Derived.Deep.DeepCutAuto
import Derived.Deep.CutBlock
import Derived.Deep.RegionHeld3
import Derived.Laws.Rows
import Derived.Lib.AppendStr
import Derived.ArgAppend
import Derived.Laws.IdiomCopy
import Derived.OrdersHeld
import Derived.Laws.BitsLemmas
import Derived.RowKit
import Derived.Test.YtmmcdpijpdjnoaaDoorFp
import Derived.Test.YtmmcdpijpdjnoaaDoorShelf
import Derived.Test.YtmmcdpijpdjnoaaDoorSl
import Derived.Test.YtmmcdpijpdjnoaaDoorSq
import Derived.Test.YtmmcdpijpdjnoaaDoorSm
import Derived.Test.YtmmcdpijpdjnoaaDoorWWords
import Derived.Test.YtmmcdpijpdjnoaaDoorWLast
import Derived.Test.YtmmcdpijpdjnoaaDoorWTab
import Derived.Test.YtmmcdpijpdjnoaaDoorWFour
import Derived.Test.YtmmcdpijpdjnoaaDoorWQPut
import Derived.Test.YtmmcdpijpdjnoaaDoorWApart
import Derived.Test.YtmmcdpijpdjnoaaDoorWArr
import Derived.Test.YtmmcdpijpdjnoaaDoorWZeros
import Derived.Test.YtmmcdpijpdjnoaaDoorWFoot
import Derived.Test.YtmmcdpijpdjnoaaDoorWKept
import Derived.Test.YtmmcdpijpdjnoaaDoorWShare
import Derived.Test.YtmmcdpijpdjnoaaDoorWN
import Derived.Test.YtmmcdpijpdjnoaaDoorWFootNe
import Derived.Test.YtmmcdpijpdjnoaaDoorWAt
import Derived.Test.YtmmcdpijpdjnoaaDoorWEqStruct
import Derived.Test.YtmmcdpijpdjnoaaDoorWRepsOne
import Derived.Test.YtmmcdpijpdjnoaaDoorWInv
import Derived.Test.YtmmcdpijpdjnoaaDoorWInvWords
import Derived.Test.YtmmcdpijpdjnoaaDoorWGuard
import Derived.Test.YtmmcdpijpdjnoaaDoorWNEv
import Derived.Test.YtmmcdpijpdjnoaaDoorWMore
namespace Go.Proofs.YtmmcdpijpdjnoaaDoor.PFnRulesRead
open Go.RowKit Go.Proofs.YtmmcdpijpdjnoaaDoorW.PrintWords Go.Proofs.YtmmcdpijpdjnoaaDoorW.PrintLast Go.Proofs.YtmmcdpijpdjnoaaDoorW.PrintMore
open Go.Proofs.YtmmcdpijpdjnoaaDoorW.PrintFl
attribute [local go_sem high] binOp_feq binOp_fne binOp_fls binOp_fle binOp_fgr binOp_fge binOp_sle binOp_sgt
attribute [local go_sem] run_fopr run_fconv run_fint run_stf run_stc
attribute [local go_sem] max2_int min2_int max_two min_two max_three min_three max_four min_four
set_option linter.unusedVariables false
set_option linter.unusedSimpArgs false
def errW : Option Int → Value
  | none => .nilIface
  | some c => .iface 0 (.int .i64 c)
theorem errW_none : errW none = .nilIface := rfl
theorem errW_some (c : Int) : errW (some c) = .iface 0 (.int .i64 c) := rfl
theorem info2 : (Tryd.prog.info? 2).map (fun i => (i.zero, i.size, i.bytes)) = some (some (.int .i64 0), 1, 8) := by kernel_rfl
theorem info9 : (Tryd.prog.info? 9).map (fun i => (i.zero, i.size, i.bytes)) = some (some (.string ⟨#[]⟩), 1, 16) := by kernel_rfl
theorem info30 : (Tryd.prog.info? 30).map (fun i => (i.zero, i.size, i.bytes)) = some (some (.agg #[(.string ⟨#[]⟩), (.string ⟨#[]⟩), (.string ⟨#[]⟩), (.string ⟨#[]⟩)]), 4, 64) := by kernel_rfl
structure S30 where
  f0 : ByteArray
  f1 : ByteArray
  f2 : ByteArray
  f3 : ByteArray
def z30 : S30 := ⟨(⟨#[]⟩ : ByteArray), (⟨#[]⟩ : ByteArray), (⟨#[]⟩ : ByteArray), (⟨#[]⟩ : ByteArray)⟩
def k30 : Kd S30 := Kd.iso (Kd.pair Kd.string (Kd.pair Kd.string (Kd.pair Kd.string Kd.string))) (fun x : S30 => (x.f0, x.f1, x.f2, x.f3))
theorem k30_open {w : World} {x : S30} {cs : List Value} (h : k30.K w x cs) : cs = [.string x.f0, .string x.f1, .string x.f2, .string x.f3] := by
  obtain ⟨_, _, rfl, rfl, ⟨_, _, rfl, rfl, ⟨_, _, rfl, rfl, rfl⟩⟩⟩ := h
  exact rfl
theorem k30_openM {w : World} {base : Nat} {ok : Nat → Prop} {x : S30} {cs : List Value} (h : k30.M w base ok x cs) : cs = [.string x.f0, .string x.f1, .string x.f2, .string x.f3] := by
  obtain ⟨_, _, rfl, rfl, ⟨_, _, rfl, rfl, ⟨_, _, rfl, rfl, rfl⟩⟩⟩ := h
  exact rfl
theorem k30_mk (w : World) (x : S30)  : k30.K w x [.string x.f0, .string x.f1, .string x.f2, .string x.f3] := ⟨[.string x.f0], [.string x.f1, .string x.f2, .string x.f3], rfl, rfl, ⟨[.string x.f1], [.string x.f2, .string x.f3], rfl, rfl, ⟨[.string x.f2], [.string x.f3], rfl, rfl, rfl⟩⟩⟩
theorem k30_mkM (w : World) (base : Nat) (ok : Nat → Prop) (x : S30)  : k30.M w base ok x [.string x.f0, .string x.f1, .string x.f2, .string x.f3] := ⟨[.string x.f0], [.string x.f1, .string x.f2, .string x.f3], rfl, rfl, ⟨[.string x.f1], [.string x.f2, .string x.f3], rfl, rfl, ⟨[.string x.f2], [.string x.f3], rfl, rfl, rfl⟩⟩⟩
def rd_T30 (xs : List S30) (i : Int) : S30 := xs.getD i.toNat z30
theorem at_T30 {w : World} {A : Option Addr} {n : Nat} {xs : List S30} (h : Kd.C k30 w A n xs) (i : Int) (h0 : 0 ≤ i) (h1 : i < n) : ∃ ad , A = some ad ∧ w.cell? (ad.add (i.toNat * 4)) = some (.string (rd_T30 xs i).f0) ∧ w.cell? ⟨(ad.add (i.toNat * 4)).block, (ad.add (i.toNat * 4)).off + 1, none⟩ = some (.string (rd_T30 xs i).f1) ∧ w.cell? ⟨(ad.add (i.toNat * 4)).block, (ad.add (i.toNat * 4)).off + 2, none⟩ = some (.string (rd_T30 xs i).f2) ∧ w.cell? ⟨(ad.add (i.toNat * 4)).block, (ad.add (i.toNat * 4)).off + 3, none⟩ = some (.string (rd_T30 xs i).f3) := by
  obtain ⟨ad, c, e, _, hK, hc0⟩ := Kd.C_get h z30 i h0 h1
  have hc : ∀ j u, c[j]? = some u → w.cell? (ad.add (i.toNat * 4 + j)) = some u := hc0
  obtain rfl := k30_open hK
  exact ⟨ad, e, hc 0 _ rfl, by rw [← add_field _ _ 1 (by omega)]; exact hc 1 _ rfl, by rw [← add_field _ _ 2 (by omega)]; exact hc 2 _ rfl, by rw [← add_field _ _ 3 (by omega)]; exact hc 3 _ rfl⟩
structure S9 where
  f0 : ByteArray
def z9 : S9 := ⟨(⟨#[]⟩ : ByteArray)⟩
def k9 : Kd S9 := Kd.iso Kd.string (fun x : S9 => x.f0)
theorem k9_open {w : World} {x : S9} {cs : List Value} (h : k9.K w x cs) : cs = [.string x.f0] := by
  obtain rfl := h
  exact rfl
theorem k9_openM {w : World} {base : Nat} {ok : Nat → Prop} {x : S9} {cs : List Value} (h : k9.M w base ok x cs) : cs = [.string x.f0] := by
  obtain rfl := h
  exact rfl
theorem k9_mk (w : World) (x : S9)  : k9.K w x [.string x.f0] := rfl
theorem k9_mkM (w : World) (base : Nat) (ok : Nat → Prop) (x : S9)  : k9.M w base ok x [.string x.f0] := rfl
def rd_T9 (xs : List S9) (i : Int) : S9 := xs.getD i.toNat z9
theorem at_T9 {w : World} {A : Option Addr} {n : Nat} {xs : List S9} (h : Kd.C k9 w A n xs) (i : Int) (h0 : 0 ≤ i) (h1 : i < n) : ∃ ad , A = some ad ∧ w.cell? (ad.add i.toNat) = some (.string (rd_T9 xs i).f0) := by
  obtain ⟨ad, c, e, _, hK, hc0⟩ := Kd.C_get h z9 i h0 h1
  have hc : ∀ j u, c[j]? = some u → w.cell? (ad.add (i.toNat * 1 + j)) = some u := hc0
  obtain rfl := k9_open hK
  exact ⟨ad, e, by have hq := hc 0 _ rfl; rwa [Nat.mul_one, Nat.add_zero] at hq⟩
structure S3 where
  f0 : Int
def z3 : S3 := ⟨(0 : Int)⟩
def k3 : Kd S3 := Kd.iso (Kd.int .i64) (fun x : S3 => x.f0)
theorem k3_open {w : World} {x : S3} {cs : List Value} (h : k3.K w x cs) : cs = [.int .i64 x.f0] := by
  obtain rfl := h
  exact rfl
theorem k3_openM {w : World} {base : Nat} {ok : Nat → Prop} {x : S3} {cs : List Value} (h : k3.M w base ok x cs) : cs = [.int .i64 x.f0] := by
  obtain rfl := h
  exact rfl
theorem k3_mk (w : World) (x : S3)  : k3.K w x [.int .i64 x.f0] := rfl
theorem k3_mkM (w : World) (base : Nat) (ok : Nat → Prop) (x : S3)  : k3.M w base ok x [.int .i64 x.f0] := rfl
def rd_T3 (xs : List S3) (i : Int) : S3 := xs.getD i.toNat z3
theorem at_T3 {w : World} {A : Option Addr} {n : Nat} {xs : List S3} (h : Kd.C k3 w A n xs) (i : Int) (h0 : 0 ≤ i) (h1 : i < n) : ∃ ad , A = some ad ∧ w.cell? (ad.add i.toNat) = some (.int .i64 (rd_T3 xs i).f0) := by
  obtain ⟨ad, c, e, _, hK, hc0⟩ := Kd.C_get h z3 i h0 h1
  have hc : ∀ j u, c[j]? = some u → w.cell? (ad.add (i.toNat * 1 + j)) = some u := hc0
  obtain rfl := k3_open hK
  exact ⟨ad, e, by have hq := hc 0 _ rfl; rwa [Nat.mul_one, Nat.add_zero] at hq⟩
end Go.Proofs.YtmmcdpijpdjnoaaDoor.PFnRulesRead
