import Derived.Test.YtdfpfiecpcgffaaDoorProg
import Derived.Below
import Derived.Deep.Draws
import Derived.Deep.AppendLies
import Derived.Maps.AppendAt
import Derived.OwnWalk
import Derived.Laws.BytesArg
import Derived.Laws.MakeOwn
import Derived.Laws.OwnMore
import Derived.Deep.OwnRows
import Derived.Tactics
import Derived.Lib.ConvBytes
import Derived.Laws.Slices
import Derived.WalkKit
import Derived.KernelRfl
import Derived.RowKit3
import Derived.Deep.LoopGhost
import Derived.Deep.QuietTactic
import Derived.BigQuiet
import Derived.WideLaws
import Derived.Deep.DeepCutAuto
import Derived.Deep.CutBlock
import Derived.Deep.RegionHeld3
import Derived.Laws.Rows
import Derived.Lib.AppendStr
import Derived.ArgAppend
import Derived.Laws.IdiomCopy
import Derived.OrdersHeld
import Derived.Laws.BitsLemmas
import Derived.RowKit
import Derived.Test.YtdfpfiecpcgffaaDoorFp
import Derived.Test.YtdfpfiecpcgffaaDoorShelf
import Derived.Test.YtdfpfiecpcgffaaDoorHx
import Derived.Test.YtdfpfiecpcgffaaDoorJn
import Derived.Test.YtdfpfiecpcgffaaDoorFi
import Derived.Test.YtdfpfiecpcgffaaDoorEf
import Derived.Test.YtdfpfiecpcgffaaDoorEs
import Derived.Test.YtdfpfiecpcgffaaDoorEt
import Derived.Test.YtdfpfiecpcgffaaDoorSl
import Derived.Test.YtdfpfiecpcgffaaDoorSq
import Derived.Test.YtdfpfiecpcgffaaDoorSm
import Derived.Test.YtdfpfiecpcgffaaDoorGt
import Derived.Test.YtdfpfiecpcgffaaDoorPu
import Derived.Test.YtdfpfiecpcgffaaDoorRn
import Derived.Test.YtdfpfiecpcgffaaDoorWWords
import Derived.Test.YtdfpfiecpcgffaaDoorWLast
import Derived.Test.YtdfpfiecpcgffaaDoorWTab
import Derived.Test.YtdfpfiecpcgffaaDoorWFour
import Derived.Test.YtdfpfiecpcgffaaDoorWQPut
import Derived.Test.YtdfpfiecpcgffaaDoorWApart
import Derived.Test.YtdfpfiecpcgffaaDoorWArr
import Derived.Test.YtdfpfiecpcgffaaDoorWZeros
import Derived.Test.YtdfpfiecpcgffaaDoorWFoot
import Derived.Test.YtdfpfiecpcgffaaDoorWKept
import Derived.Test.YtdfpfiecpcgffaaDoorWShare
import Derived.Test.YtdfpfiecpcgffaaDoorWN
import Derived.Test.YtdfpfiecpcgffaaDoorWFootNe
import Derived.Test.YtdfpfiecpcgffaaDoorWAt
import Derived.Test.YtdfpfiecpcgffaaDoorWEqStruct
import Derived.Test.YtdfpfiecpcgffaaDoorWRepsOne
import Derived.Test.YtdfpfiecpcgffaaDoorWInv
import Derived.Test.YtdfpfiecpcgffaaDoorWInvWords
import Derived.Test.YtdfpfiecpcgffaaDoorWGuard
import Derived.Test.YtdfpfiecpcgffaaDoorWNEv
import Derived.Test.YtdfpfiecpcgffaaDoorWMore
namespace Go.Proofs.YtdfpfiecpcgffaaDoor.PFnExactReadSounds
open Go.RowKit Go.Proofs.YtdfpfiecpcgffaaDoorW.PrintWords Go.Proofs.YtdfpfiecpcgffaaDoorW.PrintLast Go.Proofs.YtdfpfiecpcgffaaDoorW.PrintMore
open Go.Proofs.YtdfpfiecpcgffaaDoorW.PrintFl
attribute [local go_sem high] binOp_feq binOp_fne binOp_fls binOp_fle binOp_fgr binOp_fge binOp_sle binOp_sgt
attribute [local go_sem] run_fopr run_fconv run_fint run_stf run_stc ext_f32bits ext_f32frombits
attribute [local go_sem] max2_int min2_int max_two min_two max_three min_three max_four min_four
set_option linter.unusedVariables false
set_option linter.unusedSimpArgs false
def errW : Option Int → Value
  | none => .nilIface
  | some c => .iface 0 (.int .i64 c)
theorem errW_none : errW none = .nilIface := rfl
theorem errW_some (c : Int) : errW (some c) = .iface 0 (.int .i64 c) := rfl
theorem info5 : (Tryd.prog.info? 5).map (fun i => (i.zero, i.size, i.bytes)) = some (some (.int .u8 0), 1, 1) := by kernel_rfl
theorem info9 : (Tryd.prog.info? 9).map (fun i => (i.zero, i.size, i.bytes)) = some (some (.string ⟨#[]⟩), 1, 16) := by kernel_rfl
theorem info30 : (Tryd.prog.info? 30).map (fun i => (i.zero, i.size, i.bytes)) = some (some (.float .f32 0), 1, 4) := by kernel_rfl
theorem info37 : (Tryd.prog.info? 37).map (fun i => (i.zero, i.size, i.bytes)) = some (some (.slice none 0 0), 1, 24) := by kernel_rfl
theorem info58 : (Tryd.prog.info? 58).map (fun i => (i.zero, i.size, i.bytes)) = some (some (.agg #[(.string ⟨#[]⟩), (.slice none 0 0), (.float .f32 0), (.float .f32 0), (.float .f32 0), (.float .f32 0)]), 6, 56) := by kernel_rfl
def rd_L2 (xs : List (List Nat)) (i : Int) : (List Nat) := xs.getD i.toNat ([] : List Nat)
theorem at_L2 {w : World} {A : Option Addr} {n : Nat} {xs : List (List Nat)} (h : Kd.C (Kd.slice 30 (Kd.float .f32)) w A n xs) (i : Int) (h0 : 0 ≤ i) (h1 : i < n) : ∃ ad A0 c0, A = some ad ∧ w.cell? (ad.add i.toNat) = some (.slice A0 (rd_L2 xs i).length c0) ∧ (rd_L2 xs i).length ≤ c0 ∧ (Kd.float .f32).C w A0 (rd_L2 xs i).length (rd_L2 xs i) := by
  obtain ⟨ad, c, e, _, hK, hc0⟩ := Kd.C_get h ([] : List Nat) i h0 h1
  have hc : ∀ j u, c[j]? = some u → w.cell? (ad.add (i.toNat * 1 + j)) = some u := hc0
  obtain ⟨A0, c0, rfl, l0, g0⟩ := hK
  exact ⟨ad, A0, c0, e, by have hq := hc 0 _ rfl; rwa [Nat.mul_one, Nat.add_zero] at hq, l0, g0⟩
structure S58 where
  f0 : ByteArray
  f1 : (List Nat)
  f2 : Nat
  f3 : Nat
  f4 : Nat
  f5 : Nat
def z58 : S58 := ⟨(⟨#[]⟩ : ByteArray), ([] : List Nat), (0 : Nat), (0 : Nat), (0 : Nat), (0 : Nat)⟩
def k58 : Kd S58 := Kd.iso (Kd.pair Kd.string (Kd.pair (Kd.slice 30 (Kd.float .f32)) (Kd.pair (Kd.float .f32) (Kd.pair (Kd.float .f32) (Kd.pair (Kd.float .f32) (Kd.float .f32)))))) (fun x : S58 => (x.f0, x.f1, x.f2, x.f3, x.f4, x.f5))
theorem k58_open {w : World} {x : S58} {cs : List Value} (h : k58.K w x cs) : ∃ A1 c1, cs = [.string x.f0, .slice A1 x.f1.length c1, .float .f32 x.f2, .float .f32 x.f3, .float .f32 x.f4, .float .f32 x.f5] ∧ x.f1.length ≤ c1 ∧ (Kd.float .f32).C w A1 x.f1.length x.f1 := by
  obtain ⟨_, _, rfl, rfl, ⟨_, _, rfl, ⟨A1, c1, rfl, l1, g1⟩, ⟨_, _, rfl, rfl, ⟨_, _, rfl, rfl, ⟨_, _, rfl, rfl, rfl⟩⟩⟩⟩⟩ := h
  exact ⟨A1, c1, rfl, l1, g1⟩
theorem k58_openM {w : World} {base : Nat} {ok : Nat → Prop} {x : S58} {cs : List Value} (h : k58.M w base ok x cs) : ∃ v1, cs = [.string x.f0, v1, .float .f32 x.f2, .float .f32 x.f3, .float .f32 x.f4, .float .f32 x.f5] ∧ (Kd.float .f32).R 30 w base ok v1 x.f1 := by
  obtain ⟨_, _, rfl, rfl, ⟨_, _, rfl, ⟨v1, rfl, g1⟩, ⟨_, _, rfl, rfl, ⟨_, _, rfl, rfl, ⟨_, _, rfl, rfl, rfl⟩⟩⟩⟩⟩ := h
  exact ⟨v1, rfl, g1⟩
theorem k58_mk (w : World) (x : S58) {A1 : Option Addr} {c1 : Nat} (l1 : x.f1.length ≤ c1) (g1 : (Kd.float .f32).C w A1 x.f1.length x.f1) : k58.K w x [.string x.f0, .slice A1 x.f1.length c1, .float .f32 x.f2, .float .f32 x.f3, .float .f32 x.f4, .float .f32 x.f5] := ⟨[.string x.f0], [.slice A1 x.f1.length c1, .float .f32 x.f2, .float .f32 x.f3, .float .f32 x.f4, .float .f32 x.f5], rfl, rfl, ⟨[.slice A1 x.f1.length c1], [.float .f32 x.f2, .float .f32 x.f3, .float .f32 x.f4, .float .f32 x.f5], rfl, ⟨A1, c1, rfl, l1, g1⟩, ⟨[.float .f32 x.f2], [.float .f32 x.f3, .float .f32 x.f4, .float .f32 x.f5], rfl, rfl, ⟨[.float .f32 x.f3], [.float .f32 x.f4, .float .f32 x.f5], rfl, rfl, ⟨[.float .f32 x.f4], [.float .f32 x.f5], rfl, rfl, rfl⟩⟩⟩⟩⟩
theorem k58_mkM (w : World) (base : Nat) (ok : Nat → Prop) (x : S58) {v1 : Value} (g1 : (Kd.float .f32).R 30 w base ok v1 x.f1) : k58.M w base ok x [.string x.f0, v1, .float .f32 x.f2, .float .f32 x.f3, .float .f32 x.f4, .float .f32 x.f5] := ⟨[.string x.f0], [v1, .float .f32 x.f2, .float .f32 x.f3, .float .f32 x.f4, .float .f32 x.f5], rfl, rfl, ⟨[v1], [.float .f32 x.f2, .float .f32 x.f3, .float .f32 x.f4, .float .f32 x.f5], rfl, ⟨v1, rfl, g1⟩, ⟨[.float .f32 x.f2], [.float .f32 x.f3, .float .f32 x.f4, .float .f32 x.f5], rfl, rfl, ⟨[.float .f32 x.f3], [.float .f32 x.f4, .float .f32 x.f5], rfl, rfl, ⟨[.float .f32 x.f4], [.float .f32 x.f5], rfl, rfl, rfl⟩⟩⟩⟩⟩
theorem k58_openF {W : World} {ok : Nat → Prop} {x : S58} {cs : List Value} (h : Kd.FK k58 W ok x cs) : ∃ A1 c1, cs = [.string x.f0, .slice A1 x.f1.length c1, .float .f32 x.f2, .float .f32 x.f3, .float .f32 x.f4, .float .f32 x.f5] ∧ x.f1.length ≤ c1 ∧ Kd.F (Kd.float .f32) W ok A1 x.f1.length x.f1 := by
  obtain ⟨A1, c1, rfl, l1, _⟩ := k58_open (Kd.FK_now h)
  exact ⟨A1, c1, rfl, l1, (fun W' hW => by obtain ⟨A1_, c1_, he, l1_, g1_⟩ := k58_open (h W' hW); injection (Option.some.inj (show some (Value.slice A1 x.f1.length c1) = some (Value.slice A1_ x.f1.length c1_) from congrArg (fun l => l[1]?) he)) with ha_ _ _; rw [ha_]; exact g1_)⟩
theorem k58_mkF (W : World) (ok : Nat → Prop) (x : S58) {A1 : Option Addr} {c1 : Nat} (l1 : x.f1.length ≤ c1) (g1 : Kd.F (Kd.float .f32) W ok A1 x.f1.length x.f1) : Kd.FK k58 W ok x [.string x.f0, .slice A1 x.f1.length c1, .float .f32 x.f2, .float .f32 x.f3, .float .f32 x.f4, .float .f32 x.f5] := fun W2 hW => k58_mk W2 x l1 (g1 W2 hW)
def rd_T58 (xs : List S58) (i : Int) : S58 := xs.getD i.toNat z58
theorem at_T58 {w : World} {A : Option Addr} {n : Nat} {xs : List S58} (h : Kd.C k58 w A n xs) (i : Int) (h0 : 0 ≤ i) (h1 : i < n) : ∃ ad A1 c1, A = some ad ∧ w.cell? (ad.add (i.toNat * 6)) = some (.string (rd_T58 xs i).f0) ∧ w.cell? ⟨(ad.add (i.toNat * 6)).block, (ad.add (i.toNat * 6)).off + 1, none⟩ = some (.slice A1 (rd_T58 xs i).f1.length c1) ∧ w.cell? ⟨(ad.add (i.toNat * 6)).block, (ad.add (i.toNat * 6)).off + 2, none⟩ = some (.float .f32 (rd_T58 xs i).f2) ∧ w.cell? ⟨(ad.add (i.toNat * 6)).block, (ad.add (i.toNat * 6)).off + 3, none⟩ = some (.float .f32 (rd_T58 xs i).f3) ∧ w.cell? ⟨(ad.add (i.toNat * 6)).block, (ad.add (i.toNat * 6)).off + 4, none⟩ = some (.float .f32 (rd_T58 xs i).f4) ∧ w.cell? ⟨(ad.add (i.toNat * 6)).block, (ad.add (i.toNat * 6)).off + 5, none⟩ = some (.float .f32 (rd_T58 xs i).f5) ∧ (rd_T58 xs i).f1.length ≤ c1 ∧ (Kd.float .f32).C w A1 (rd_T58 xs i).f1.length (rd_T58 xs i).f1 := by
  obtain ⟨ad, c, e, _, hK, hc0⟩ := Kd.C_get h z58 i h0 h1
  have hc : ∀ j u, c[j]? = some u → w.cell? (ad.add (i.toNat * 6 + j)) = some u := hc0
  obtain ⟨A1, c1, rfl, l1, g1⟩ := k58_open hK
  exact ⟨ad, A1, c1, e, hc 0 _ rfl, by rw [← add_field _ _ 1 (by omega)]; exact hc 1 _ rfl, by rw [← add_field _ _ 2 (by omega)]; exact hc 2 _ rfl, by rw [← add_field _ _ 3 (by omega)]; exact hc 3 _ rfl, by rw [← add_field _ _ 4 (by omega)]; exact hc 4 _ rfl, by rw [← add_field _ _ 5 (by omega)]; exact hc 5 _ rfl, l1, g1⟩
end Go.Proofs.YtdfpfiecpcgffaaDoor.PFnExactReadSounds
