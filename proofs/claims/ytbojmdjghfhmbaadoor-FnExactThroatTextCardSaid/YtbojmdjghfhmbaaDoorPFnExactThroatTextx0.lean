import Derived.Test.YtbojmdjghfhmbaaDoorProg
import Derived.Below
import Derived.Deep.Draws
import Derived.Deep.AppendLies
import Derived.Maps.AppendAt
import Derived.OwnWalk
import Derived.Laws.BytesArg
import Derived.Laws.MakeOwn
import Derived.Laws.OwnMore
import Derived.Deep.OwnRows
import Derived.Tactics
import Derived.Lib.ConvBytes
import Derived.Laws.Slices
import Derived.WalkKit
import Derived.KernelRfl
import Derived.RowKit3
import Derived.Deep.LoopGhost
import Derived.Deep.QuietTactic
import Derived.BigQuiet
import Derived.WideLaws
import Derived.Deep.DeepCutAuto
import Derived.Deep.CutBlock
import Derived.Deep.RegionHeld3
import Derived.Laws.Rows
import Derived.Lib.AppendStr
import Derived.ArgAppend
import Derived.Laws.IdiomCopy
import Derived.OrdersHeld
import Derived.Laws.BitsLemmas
import Derived.RowKit
import Derived.Test.YtbojmdjghfhmbaaDoorFp
import Derived.Test.YtbojmdjghfhmbaaDoorShelf
import Derived.Test.YtbojmdjghfhmbaaDoorHx
import Derived.Test.YtbojmdjghfhmbaaDoorJn
import Derived.Test.YtbojmdjghfhmbaaDoorFi
import Derived.Test.YtbojmdjghfhmbaaDoorEf
import Derived.Test.YtbojmdjghfhmbaaDoorSq
import Derived.Test.YtbojmdjghfhmbaaDoorWWords
import Derived.Test.YtbojmdjghfhmbaaDoorWLast
import Derived.Test.YtbojmdjghfhmbaaDoorWTab
import Derived.Test.YtbojmdjghfhmbaaDoorWFour
import Derived.Test.YtbojmdjghfhmbaaDoorWQPut
import Derived.Test.YtbojmdjghfhmbaaDoorWApart
import Derived.Test.YtbojmdjghfhmbaaDoorWArr
import Derived.Test.YtbojmdjghfhmbaaDoorWZeros
import Derived.Test.YtbojmdjghfhmbaaDoorWFoot
import Derived.Test.YtbojmdjghfhmbaaDoorWKept
import Derived.Test.YtbojmdjghfhmbaaDoorWShare
import Derived.Test.YtbojmdjghfhmbaaDoorWN
import Derived.Test.YtbojmdjghfhmbaaDoorWFootNe
import Derived.Test.YtbojmdjghfhmbaaDoorWAt
import Derived.Test.YtbojmdjghfhmbaaDoorWEqStruct
import Derived.Test.YtbojmdjghfhmbaaDoorWRepsOne
import Derived.Test.YtbojmdjghfhmbaaDoorWInv
import Derived.Test.YtbojmdjghfhmbaaDoorWInvWords
import Derived.Test.YtbojmdjghfhmbaaDoorWGuard
import Derived.Test.YtbojmdjghfhmbaaDoorWNEv
import Derived.Test.YtbojmdjghfhmbaaDoorWMore
namespace Go.Proofs.YtbojmdjghfhmbaaDoor.PFnExactThroatText
open Go.RowKit Go.Proofs.YtbojmdjghfhmbaaDoorW.PrintWords Go.Proofs.YtbojmdjghfhmbaaDoorW.PrintLast Go.Proofs.YtbojmdjghfhmbaaDoorW.PrintMore
open Go.Proofs.YtbojmdjghfhmbaaDoorW.PrintFl
attribute [local go_sem high] binOp_feq binOp_fne binOp_fls binOp_fle binOp_fgr binOp_fge
attribute [local go_sem] run_fopr run_fconv run_fint run_stf run_stc ext_f32bits ext_f32frombits
attribute [local go_sem] max2_int min2_int max_two min_two max_three min_three max_four min_four
set_option linter.unusedVariables false
set_option linter.unusedSimpArgs false
def errW : Option Int → Value
  | none => .nilIface
  | some c => .iface 0 (.int .i64 c)
theorem errW_none : errW none = .nilIface := rfl
theorem errW_some (c : Int) : errW (some c) = .iface 0 (.int .i64 c) := rfl
theorem info5 : (Tryd.prog.info? 5).map (fun i => (i.zero, i.size, i.bytes)) = some (some (.int .u8 0), 1, 1) := by kernel_rfl
theorem info9 : (Tryd.prog.info? 9).map (fun i => (i.zero, i.size, i.bytes)) = some (some (.string ⟨#[]⟩), 1, 16) := by kernel_rfl
theorem info22 : (Tryd.prog.info? 22).map (fun i => (i.zero, i.size, i.bytes)) = some (some (.float .f32 0), 1, 4) := by kernel_rfl
structure S27 where
  f0 : Nat
  f1 : Nat
  f2 : Nat
  f3 : Nat
  f4 : Nat
def z27 : S27 := ⟨(0 : Nat), (0 : Nat), (0 : Nat), (0 : Nat), (0 : Nat)⟩
def k27 : Kd S27 := Kd.iso (Kd.pair (Kd.float .f32) (Kd.pair (Kd.float .f32) (Kd.pair (Kd.float .f32) (Kd.pair (Kd.float .f32) (Kd.float .f32))))) (fun x : S27 => (x.f0, x.f1, x.f2, x.f3, x.f4))
theorem k27_open {w : World} {x : S27} {cs : List Value} (h : k27.K w x cs) : cs = [.float .f32 x.f0, .float .f32 x.f1, .float .f32 x.f2, .float .f32 x.f3, .float .f32 x.f4] := by
  obtain ⟨_, _, rfl, rfl, ⟨_, _, rfl, rfl, ⟨_, _, rfl, rfl, ⟨_, _, rfl, rfl, rfl⟩⟩⟩⟩ := h
  exact rfl
theorem k27_openM {w : World} {base : Nat} {ok : Nat → Prop} {x : S27} {cs : List Value} (h : k27.M w base ok x cs) : cs = [.float .f32 x.f0, .float .f32 x.f1, .float .f32 x.f2, .float .f32 x.f3, .float .f32 x.f4] := by
  obtain ⟨_, _, rfl, rfl, ⟨_, _, rfl, rfl, ⟨_, _, rfl, rfl, ⟨_, _, rfl, rfl, rfl⟩⟩⟩⟩ := h
  exact rfl
theorem k27_mk (w : World) (x : S27)  : k27.K w x [.float .f32 x.f0, .float .f32 x.f1, .float .f32 x.f2, .float .f32 x.f3, .float .f32 x.f4] := ⟨[.float .f32 x.f0], [.float .f32 x.f1, .float .f32 x.f2, .float .f32 x.f3, .float .f32 x.f4], rfl, rfl, ⟨[.float .f32 x.f1], [.float .f32 x.f2, .float .f32 x.f3, .float .f32 x.f4], rfl, rfl, ⟨[.float .f32 x.f2], [.float .f32 x.f3, .float .f32 x.f4], rfl, rfl, ⟨[.float .f32 x.f3], [.float .f32 x.f4], rfl, rfl, rfl⟩⟩⟩⟩
theorem k27_mkM (w : World) (base : Nat) (ok : Nat → Prop) (x : S27)  : k27.M w base ok x [.float .f32 x.f0, .float .f32 x.f1, .float .f32 x.f2, .float .f32 x.f3, .float .f32 x.f4] := ⟨[.float .f32 x.f0], [.float .f32 x.f1, .float .f32 x.f2, .float .f32 x.f3, .float .f32 x.f4], rfl, rfl, ⟨[.float .f32 x.f1], [.float .f32 x.f2, .float .f32 x.f3, .float .f32 x.f4], rfl, rfl, ⟨[.float .f32 x.f2], [.float .f32 x.f3, .float .f32 x.f4], rfl, rfl, ⟨[.float .f32 x.f3], [.float .f32 x.f4], rfl, rfl, rfl⟩⟩⟩⟩
def rd_T27 (xs : List S27) (i : Int) : S27 := xs.getD i.toNat z27
theorem at_T27 {w : World} {A : Option Addr} {n : Nat} {xs : List S27} (h : Kd.C k27 w A n xs) (i : Int) (h0 : 0 ≤ i) (h1 : i < n) : ∃ ad , A = some ad ∧ w.cell? (ad.add (i.toNat * 5)) = some (.float .f32 (rd_T27 xs i).f0) ∧ w.cell? ⟨(ad.add (i.toNat * 5)).block, (ad.add (i.toNat * 5)).off + 1, none⟩ = some (.float .f32 (rd_T27 xs i).f1) ∧ w.cell? ⟨(ad.add (i.toNat * 5)).block, (ad.add (i.toNat * 5)).off + 2, none⟩ = some (.float .f32 (rd_T27 xs i).f2) ∧ w.cell? ⟨(ad.add (i.toNat * 5)).block, (ad.add (i.toNat * 5)).off + 3, none⟩ = some (.float .f32 (rd_T27 xs i).f3) ∧ w.cell? ⟨(ad.add (i.toNat * 5)).block, (ad.add (i.toNat * 5)).off + 4, none⟩ = some (.float .f32 (rd_T27 xs i).f4) := by
  obtain ⟨ad, c, e, _, hK, hc0⟩ := Kd.C_get h z27 i h0 h1
  have hc : ∀ j u, c[j]? = some u → w.cell? (ad.add (i.toNat * 5 + j)) = some u := hc0
  obtain rfl := k27_open hK
  exact ⟨ad, e, hc 0 _ rfl, by rw [← add_field _ _ 1 (by omega)]; exact hc 1 _ rfl, by rw [← add_field _ _ 2 (by omega)]; exact hc 2 _ rfl, by rw [← add_field _ _ 3 (by omega)]; exact hc 3 _ rfl, by rw [← add_field _ _ 4 (by omega)]; exact hc 4 _ rfl⟩
end Go.Proofs.YtbojmdjghfhmbaaDoor.PFnExactThroatText
