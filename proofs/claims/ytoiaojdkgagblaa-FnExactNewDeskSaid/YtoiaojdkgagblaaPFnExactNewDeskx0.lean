/- Printed by a program of this session (the kit's print, with contracts of this session's own): what functions come to, and that their code comes to it. -/
import Derived.Test.YtoiaojdkgagblaaProg
import Derived.Below
import Derived.Deep.Draws
import Derived.Deep.AppendLies
import Derived.Maps.AppendAt
import Derived.OwnWalk
import Derived.Laws.BytesArg
import Derived.Laws.MakeOwn
import Derived.Laws.OwnMore
import Derived.Deep.OwnRows
import Derived.Tactics
import Derived.Lib.ConvBytes
import Derived.Laws.Slices
import Derived.WalkKit
import Derived.KernelRfl
import Derived.RowKit3
import Derived.Deep.LoopGhost
import Derived.Deep.QuietTactic
import Derived.BigQuiet
import Derived.WideLaws
import Derived.Deep.DeepCutAuto
import Derived.Deep.CutBlock
import Derived.Deep.RegionHeld3
import Derived.Laws.Rows
import Derived.Lib.AppendStr
import Derived.ArgAppend
import Derived.Laws.IdiomCopy
import Derived.OrdersHeld
import Derived.Laws.BitsLemmas
import Derived.RowKit
import Derived.Test.YtoiaojdkgagblaaFp
import Derived.Test.YtoiaojdkgagblaaShelf
import Derived.Test.YtoiaojdkgagblaaFi
import Derived.Test.YtoiaojdkgagblaaEf
import Derived.Test.YtoiaojdkgagblaaEs
import Derived.Test.YtoiaojdkgagblaaEt
import Derived.Test.YtoiaojdkgagblaaSl
import Derived.Test.YtoiaojdkgagblaaSq
import Derived.Test.YtoiaojdkgagblaaSm
import Derived.Test.YtoiaojdkgagblaaWWords
import Derived.Test.YtoiaojdkgagblaaWLast
import Derived.Test.YtoiaojdkgagblaaWTab
import Derived.Test.YtoiaojdkgagblaaWFour
import Derived.Test.YtoiaojdkgagblaaWQPut
import Derived.Test.YtoiaojdkgagblaaWApart
import Derived.Test.YtoiaojdkgagblaaWArr
import Derived.Test.YtoiaojdkgagblaaWZeros
import Derived.Test.YtoiaojdkgagblaaWFoot
import Derived.Test.YtoiaojdkgagblaaWKept
import Derived.Test.YtoiaojdkgagblaaWShare
import Derived.Test.YtoiaojdkgagblaaWN
import Derived.Test.YtoiaojdkgagblaaWFootNe
import Derived.Test.YtoiaojdkgagblaaWAt
import Derived.Test.YtoiaojdkgagblaaWEqStruct
import Derived.Test.YtoiaojdkgagblaaWRepsOne
import Derived.Test.YtoiaojdkgagblaaWInv
import Derived.Test.YtoiaojdkgagblaaWInvWords
import Derived.Test.YtoiaojdkgagblaaWGuard
import Derived.Test.YtoiaojdkgagblaaWNEv
import Derived.Test.YtoiaojdkgagblaaWMore
namespace Go.Proofs.Ytoiaojdkgagblaa.PFnExactNewDesk
open Go.RowKit Go.Proofs.YtoiaojdkgagblaaW.PrintWords Go.Proofs.YtoiaojdkgagblaaW.PrintLast Go.Proofs.YtoiaojdkgagblaaW.PrintMore
open Go.Proofs.YtoiaojdkgagblaaW.PrintFl
attribute [local go_sem high] binOp_feq binOp_fne binOp_fls binOp_fle binOp_fgr binOp_fge binOp_sle binOp_sgt
attribute [local go_sem] run_fopr run_fconv run_fint run_stf run_stc ext_f32bits ext_f64bits ext_f32frombits 
attribute [local go_sem] max2_int min2_int max_two min_two max_three min_three max_four min_four   -- for this text's walks alone
set_option linter.unusedVariables false
set_option linter.unusedSimpArgs false



def errW : Option Int → Value
  | none => .nilIface
  | some c => .iface 0 (.int .i64 c)
theorem errW_none : errW none = .nilIface := rfl
theorem errW_some (c : Int) : errW (some c) = .iface 0 (.int .i64 c) := rfl

theorem info5 : (Try.prog.info? 5).map (fun i => (i.zero, i.size, i.bytes)) = some (some (.int .u8 0), 1, 1) := by kernel_rfl
theorem info36 : (Try.prog.info? 36).map (fun i => (i.zero, i.size, i.bytes)) = some (some (.float .f32 0), 1, 4) := by kernel_rfl
theorem info138 : (Try.prog.info? 138).map (fun i => (i.zero, i.size, i.bytes)) = some (some (.agg #[(.string ⟨#[]⟩), (.slice none 0 0), (.float .f32 0), (.float .f32 0), (.float .f32 0), (.float .f32 0)]), 6, 56) := by kernel_rfl
-- the values' own types
def rd_L2 (xs : List (List Nat)) (i : Int) : (List Nat) := xs.getD i.toNat ([] : List Nat)
theorem at_L2 {w : World} {A : Option Addr} {n : Nat} {xs : List (List Nat)} (h : Kd.C (Kd.slice 36 (Kd.float .f32)) w A n xs) (i : Int) (h0 : 0 ≤ i) (h1 : i < n) : ∃ ad A0 c0, A = some ad ∧ w.cell? (ad.add i.toNat) = some (.slice A0 (rd_L2 xs i).length c0) ∧ (rd_L2 xs i).length ≤ c0 ∧ (Kd.float .f32).C w A0 (rd_L2 xs i).length (rd_L2 xs i) := by
  obtain ⟨ad, c, e, _, hK, hc0⟩ := Kd.C_get h ([] : List Nat) i h0 h1
  have hc : ∀ j u, c[j]? = some u → w.cell? (ad.add (i.toNat * 1 + j)) = some u := hc0
  obtain ⟨A0, c0, rfl, l0, g0⟩ := hK
  exact ⟨ad, A0, c0, e, by have hq := hc 0 _ rfl; rwa [Nat.mul_one, Nat.add_zero] at hq, l0, g0⟩

/-! #### struct type 138 -/
structure S138 where
  f0 : ByteArray
  f1 : (List Nat)
  f2 : Nat
  f3 : Nat
  f4 : Nat
  f5 : Nat
def z138 : S138 := ⟨(⟨#[]⟩ : ByteArray), ([] : List Nat), (0 : Nat), (0 : Nat), (0 : Nat), (0 : Nat)⟩
def k138 : Kd S138 := Kd.iso (Kd.pair Kd.string (Kd.pair (Kd.slice 36 (Kd.float .f32)) (Kd.pair (Kd.float .f32) (Kd.pair (Kd.float .f32) (Kd.pair (Kd.float .f32) (Kd.float .f32)))))) (fun x : S138 => (x.f0, x.f1, x.f2, x.f3, x.f4, x.f5))
theorem k138_open {w : World} {x : S138} {cs : List Value} (h : k138.K w x cs) : ∃ A1 c1, cs = [.string x.f0, .slice A1 x.f1.length c1, .float .f32 x.f2, .float .f32 x.f3, .float .f32 x.f4, .float .f32 x.f5] ∧ x.f1.length ≤ c1 ∧ (Kd.float .f32).C w A1 x.f1.length x.f1 := by
  obtain ⟨_, _, rfl, rfl, ⟨_, _, rfl, ⟨A1, c1, rfl, l1, g1⟩, ⟨_, _, rfl, rfl, ⟨_, _, rfl, rfl, ⟨_, _, rfl, rfl, rfl⟩⟩⟩⟩⟩ := h
  exact ⟨A1, c1, rfl, l1, g1⟩
theorem k138_openM {w : World} {base : Nat} {ok : Nat → Prop} {x : S138} {cs : List Value} (h : k138.M w base ok x cs) : ∃ v1, cs = [.string x.f0, v1, .float .f32 x.f2, .float .f32 x.f3, .float .f32 x.f4, .float .f32 x.f5] ∧ (Kd.float .f32).R 36 w base ok v1 x.f1 := by
  obtain ⟨_, _, rfl, rfl, ⟨_, _, rfl, ⟨v1, rfl, g1⟩, ⟨_, _, rfl, rfl, ⟨_, _, rfl, rfl, ⟨_, _, rfl, rfl, rfl⟩⟩⟩⟩⟩ := h
  exact ⟨v1, rfl, g1⟩
theorem k138_mk (w : World) (x : S138) {A1 : Option Addr} {c1 : Nat} (l1 : x.f1.length ≤ c1) (g1 : (Kd.float .f32).C w A1 x.f1.length x.f1) : k138.K w x [.string x.f0, .slice A1 x.f1.length c1, .float .f32 x.f2, .float .f32 x.f3, .float .f32 x.f4, .float .f32 x.f5] := ⟨[.string x.f0], [.slice A1 x.f1.length c1, .float .f32 x.f2, .float .f32 x.f3, .float .f32 x.f4, .float .f32 x.f5], rfl, rfl, ⟨[.slice A1 x.f1.length c1], [.float .f32 x.f2, .float .f32 x.f3, .float .f32 x.f4, .float .f32 x.f5], rfl, ⟨A1, c1, rfl, l1, g1⟩, ⟨[.float .f32 x.f2], [.float .f32 x.f3, .float .f32 x.f4, .float .f32 x.f5], rfl, rfl, ⟨[.float .f32 x.f3], [.float .f32 x.f4, .float .f32 x.f5], rfl, rfl, ⟨[.float .f32 x.f4], [.float .f32 x.f5], rfl, rfl, rfl⟩⟩⟩⟩⟩
theorem k138_mkM (w : World) (base : Nat) (ok : Nat → Prop) (x : S138) {v1 : Value} (g1 : (Kd.float .f32).R 36 w base ok v1 x.f1) : k138.M w base ok x [.string x.f0, v1, .float .f32 x.f2, .float .f32 x.f3, .float .f32 x.f4, .float .f32 x.f5] := ⟨[.string x.f0], [v1, .float .f32 x.f2, .float .f32 x.f3, .float .f32 x.f4, .float .f32 x.f5], rfl, rfl, ⟨[v1], [.float .f32 x.f2, .float .f32 x.f3, .float .f32 x.f4, .float .f32 x.f5], rfl, ⟨v1, rfl, g1⟩, ⟨[.float .f32 x.f2], [.float .f32 x.f3, .float .f32 x.f4, .float .f32 x.f5], rfl, rfl, ⟨[.float .f32 x.f3], [.float .f32 x.f4, .float .f32 x.f5], rfl, rfl, ⟨[.float .f32 x.f4], [.float .f32 x.f5], rfl, rfl, rfl⟩⟩⟩⟩⟩
def rd_T138 (xs : List S138) (i : Int) : S138 := xs.getD i.toNat z138
theorem at_T138 {w : World} {A : Option Addr} {n : Nat} {xs : List S138} (h : Kd.C k138 w A n xs) (i : Int) (h0 : 0 ≤ i) (h1 : i < n) : ∃ ad A1 c1, A = some ad ∧ w.cell? (ad.add (i.toNat * 6)) = some (.string (rd_T138 xs i).f0) ∧ w.cell? ⟨(ad.add (i.toNat * 6)).block, (ad.add (i.toNat * 6)).off + 1, none⟩ = some (.slice A1 (rd_T138 xs i).f1.length c1) ∧ w.cell? ⟨(ad.add (i.toNat * 6)).block, (ad.add (i.toNat * 6)).off + 2, none⟩ = some (.float .f32 (rd_T138 xs i).f2) ∧ w.cell? ⟨(ad.add (i.toNat * 6)).block, (ad.add (i.toNat * 6)).off + 3, none⟩ = some (.float .f32 (rd_T138 xs i).f3) ∧ w.cell? ⟨(ad.add (i.toNat * 6)).block, (ad.add (i.toNat * 6)).off + 4, none⟩ = some (.float .f32 (rd_T138 xs i).f4) ∧ w.cell? ⟨(ad.add (i.toNat * 6)).block, (ad.add (i.toNat * 6)).off + 5, none⟩ = some (.float .f32 (rd_T138 xs i).f5) ∧ (rd_T138 xs i).f1.length ≤ c1 ∧ (Kd.float .f32).C w A1 (rd_T138 xs i).f1.length (rd_T138 xs i).f1 := by
  obtain ⟨ad, c, e, _, hK, hc0⟩ := Kd.C_get h z138 i h0 h1
  have hc : ∀ j u, c[j]? = some u → w.cell? (ad.add (i.toNat * 6 + j)) = some u := hc0
  obtain ⟨A1, c1, rfl, l1, g1⟩ := k138_open hK
  exact ⟨ad, A1, c1, e, hc 0 _ rfl, by rw [← add_field _ _ 1 (by omega)]; exact hc 1 _ rfl, by rw [← add_field _ _ 2 (by omega)]; exact hc 2 _ rfl, by rw [← add_field _ _ 3 (by omega)]; exact hc 3 _ rfl, by rw [← add_field _ _ 4 (by omega)]; exact hc 4 _ rfl, by rw [← add_field _ _ 5 (by omega)]; exact hc 5 _ rfl, l1, g1⟩

end Go.Proofs.Ytoiaojdkgagblaa.PFnExactNewDesk
