/- Printed by a program of this session (the kit's print, with contracts of this session's own): what functions come to, and that their code comes to it. -/
import Derived.Test.YtbojmdjghfhmbaaDoorProg
import Derived.Below
import Derived.Deep.Draws
import Derived.Deep.AppendLies
import Derived.Maps.AppendAt
import Derived.OwnWalk
import Derived.Laws.BytesArg
import Derived.Laws.MakeOwn
import Derived.Laws.OwnMore
import Derived.Deep.OwnRows
import Derived.Tactics
import Derived.Lib.ConvBytes
import Derived.Laws.Slices
import Derived.WalkKit
import Derived.KernelRfl
import Derived.RowKit3
import Derived.Deep.LoopGhost
import Derived.Deep.QuietTactic
import Derived.BigQuiet
import Derived.WideLaws
import Derived.Deep.DeepCutAuto
import Derived.Deep.CutBlock
import Derived.Deep.RegionHeld3
import Derived.Laws.Rows
import Derived.Lib.AppendStr
import Derived.ArgAppend
import Derived.Laws.IdiomCopy
import Derived.OrdersHeld
import Derived.Laws.BitsLemmas
import Derived.RowKit
import Derived.Test.YtbojmdjghfhmbaaDoorFp
import Derived.Test.YtbojmdjghfhmbaaDoorShelf
import Derived.Test.YtbojmdjghfhmbaaDoorHx
import Derived.Test.YtbojmdjghfhmbaaDoorJn
import Derived.Test.YtbojmdjghfhmbaaDoorFi
import Derived.Test.YtbojmdjghfhmbaaDoorEf
import Derived.Test.YtbojmdjghfhmbaaDoorWWords
import Derived.Test.YtbojmdjghfhmbaaDoorWLast
import Derived.Test.YtbojmdjghfhmbaaDoorWTab
import Derived.Test.YtbojmdjghfhmbaaDoorWFour
import Derived.Test.YtbojmdjghfhmbaaDoorWQPut
import Derived.Test.YtbojmdjghfhmbaaDoorWApart
import Derived.Test.YtbojmdjghfhmbaaDoorWArr
import Derived.Test.YtbojmdjghfhmbaaDoorWZeros
import Derived.Test.YtbojmdjghfhmbaaDoorWFoot
import Derived.Test.YtbojmdjghfhmbaaDoorWKept
import Derived.Test.YtbojmdjghfhmbaaDoorWShare
import Derived.Test.YtbojmdjghfhmbaaDoorWN
import Derived.Test.YtbojmdjghfhmbaaDoorWFootNe
import Derived.Test.YtbojmdjghfhmbaaDoorWAt
import Derived.Test.YtbojmdjghfhmbaaDoorWEqStruct
import Derived.Test.YtbojmdjghfhmbaaDoorWRepsOne
import Derived.Test.YtbojmdjghfhmbaaDoorWInv
import Derived.Test.YtbojmdjghfhmbaaDoorWInvWords
import Derived.Test.YtbojmdjghfhmbaaDoorWGuard
import Derived.Test.YtbojmdjghfhmbaaDoorWNEv
import Derived.Test.YtbojmdjghfhmbaaDoorWMore
namespace Go.Proofs.YtbojmdjghfhmbaaDoor.PFnExactTubeText
open Go.RowKit Go.Proofs.YtbojmdjghfhmbaaDoorW.PrintWords Go.Proofs.YtbojmdjghfhmbaaDoorW.PrintLast Go.Proofs.YtbojmdjghfhmbaaDoorW.PrintMore
open Go.Proofs.YtbojmdjghfhmbaaDoorW.PrintFl
attribute [local go_sem high] binOp_feq binOp_fne binOp_fls binOp_fle binOp_fgr binOp_fge
attribute [local go_sem] run_fopr run_fconv run_fint run_stf run_stc ext_f32bits ext_f32frombits 
attribute [local go_sem] max2_int min2_int max_two min_two max_three min_three max_four min_four   -- for this text's walks alone
set_option linter.unusedVariables false
set_option linter.unusedSimpArgs false



def errW : Option Int → Value
  | none => .nilIface
  | some c => .iface 0 (.int .i64 c)
theorem errW_none : errW none = .nilIface := rfl
theorem errW_some (c : Int) : errW (some c) = .iface 0 (.int .i64 c) := rfl

theorem info5 : (Tryd.prog.info? 5).map (fun i => (i.zero, i.size, i.bytes)) = some (some (.int .u8 0), 1, 1) := by kernel_rfl
theorem info9 : (Tryd.prog.info? 9).map (fun i => (i.zero, i.size, i.bytes)) = some (some (.string ⟨#[]⟩), 1, 16) := by kernel_rfl
theorem info22 : (Tryd.prog.info? 22).map (fun i => (i.zero, i.size, i.bytes)) = some (some (.float .f32 0), 1, 4) := by kernel_rfl
-- the values' own types
def rd_L1 (xs : List (List Nat)) (i : Int) : (List Nat) := xs.getD i.toNat ([] : List Nat)
theorem at_L1 {w : World} {A : Option Addr} {n : Nat} {xs : List (List Nat)} (h : Kd.C (Kd.slice 22 (Kd.float .f32)) w A n xs) (i : Int) (h0 : 0 ≤ i) (h1 : i < n) : ∃ ad A0 c0, A = some ad ∧ w.cell? (ad.add i.toNat) = some (.slice A0 (rd_L1 xs i).length c0) ∧ (rd_L1 xs i).length ≤ c0 ∧ (Kd.float .f32).C w A0 (rd_L1 xs i).length (rd_L1 xs i) := by
  obtain ⟨ad, c, e, _, hK, hc0⟩ := Kd.C_get h ([] : List Nat) i h0 h1
  have hc : ∀ j u, c[j]? = some u → w.cell? (ad.add (i.toNat * 1 + j)) = some u := hc0
  obtain ⟨A0, c0, rfl, l0, g0⟩ := hK
  exact ⟨ad, A0, c0, e, by have hq := hc 0 _ rfl; rwa [Nat.mul_one, Nat.add_zero] at hq, l0, g0⟩

/-! #### struct type 43 -/
structure S43 where
  f0 : (List Nat)
  f1 : Nat
  f2 : Nat
  f3 : Nat
def z43 : S43 := ⟨([] : List Nat), (0 : Nat), (0 : Nat), (0 : Nat)⟩
def k43 : Kd S43 := Kd.iso (Kd.pair (Kd.slice 22 (Kd.float .f32)) (Kd.pair (Kd.float .f32) (Kd.pair (Kd.float .f32) (Kd.float .f32)))) (fun x : S43 => (x.f0, x.f1, x.f2, x.f3))
theorem k43_open {w : World} {x : S43} {cs : List Value} (h : k43.K w x cs) : ∃ A0 c0, cs = [.slice A0 x.f0.length c0, .float .f32 x.f1, .float .f32 x.f2, .float .f32 x.f3] ∧ x.f0.length ≤ c0 ∧ (Kd.float .f32).C w A0 x.f0.length x.f0 := by
  obtain ⟨_, _, rfl, ⟨A0, c0, rfl, l0, g0⟩, ⟨_, _, rfl, rfl, ⟨_, _, rfl, rfl, rfl⟩⟩⟩ := h
  exact ⟨A0, c0, rfl, l0, g0⟩
theorem k43_openM {w : World} {base : Nat} {ok : Nat → Prop} {x : S43} {cs : List Value} (h : k43.M w base ok x cs) : ∃ v0, cs = [v0, .float .f32 x.f1, .float .f32 x.f2, .float .f32 x.f3] ∧ (Kd.float .f32).R 22 w base ok v0 x.f0 := by
  obtain ⟨_, _, rfl, ⟨v0, rfl, g0⟩, ⟨_, _, rfl, rfl, ⟨_, _, rfl, rfl, rfl⟩⟩⟩ := h
  exact ⟨v0, rfl, g0⟩
theorem k43_mk (w : World) (x : S43) {A0 : Option Addr} {c0 : Nat} (l0 : x.f0.length ≤ c0) (g0 : (Kd.float .f32).C w A0 x.f0.length x.f0) : k43.K w x [.slice A0 x.f0.length c0, .float .f32 x.f1, .float .f32 x.f2, .float .f32 x.f3] := ⟨[.slice A0 x.f0.length c0], [.float .f32 x.f1, .float .f32 x.f2, .float .f32 x.f3], rfl, ⟨A0, c0, rfl, l0, g0⟩, ⟨[.float .f32 x.f1], [.float .f32 x.f2, .float .f32 x.f3], rfl, rfl, ⟨[.float .f32 x.f2], [.float .f32 x.f3], rfl, rfl, rfl⟩⟩⟩
theorem k43_mkM (w : World) (base : Nat) (ok : Nat → Prop) (x : S43) {v0 : Value} (g0 : (Kd.float .f32).R 22 w base ok v0 x.f0) : k43.M w base ok x [v0, .float .f32 x.f1, .float .f32 x.f2, .float .f32 x.f3] := ⟨[v0], [.float .f32 x.f1, .float .f32 x.f2, .float .f32 x.f3], rfl, ⟨v0, rfl, g0⟩, ⟨[.float .f32 x.f1], [.float .f32 x.f2, .float .f32 x.f3], rfl, rfl, ⟨[.float .f32 x.f2], [.float .f32 x.f3], rfl, rfl, rfl⟩⟩⟩
def rd_T43 (xs : List S43) (i : Int) : S43 := xs.getD i.toNat z43
theorem at_T43 {w : World} {A : Option Addr} {n : Nat} {xs : List S43} (h : Kd.C k43 w A n xs) (i : Int) (h0 : 0 ≤ i) (h1 : i < n) : ∃ ad A0 c0, A = some ad ∧ w.cell? (ad.add (i.toNat * 4)) = some (.slice A0 (rd_T43 xs i).f0.length c0) ∧ w.cell? ⟨(ad.add (i.toNat * 4)).block, (ad.add (i.toNat * 4)).off + 1, none⟩ = some (.float .f32 (rd_T43 xs i).f1) ∧ w.cell? ⟨(ad.add (i.toNat * 4)).block, (ad.add (i.toNat * 4)).off + 2, none⟩ = some (.float .f32 (rd_T43 xs i).f2) ∧ w.cell? ⟨(ad.add (i.toNat * 4)).block, (ad.add (i.toNat * 4)).off + 3, none⟩ = some (.float .f32 (rd_T43 xs i).f3) ∧ (rd_T43 xs i).f0.length ≤ c0 ∧ (Kd.float .f32).C w A0 (rd_T43 xs i).f0.length (rd_T43 xs i).f0 := by
  obtain ⟨ad, c, e, _, hK, hc0⟩ := Kd.C_get h z43 i h0 h1
  have hc : ∀ j u, c[j]? = some u → w.cell? (ad.add (i.toNat * 4 + j)) = some u := hc0
  obtain ⟨A0, c0, rfl, l0, g0⟩ := k43_open hK
  exact ⟨ad, A0, c0, e, hc 0 _ rfl, by rw [← add_field _ _ 1 (by omega)]; exact hc 1 _ rfl, by rw [← add_field _ _ 2 (by omega)]; exact hc 2 _ rfl, by rw [← add_field _ _ 3 (by omega)]; exact hc 3 _ rfl, l0, g0⟩

end Go.Proofs.YtbojmdjghfhmbaaDoor.PFnExactTubeText
