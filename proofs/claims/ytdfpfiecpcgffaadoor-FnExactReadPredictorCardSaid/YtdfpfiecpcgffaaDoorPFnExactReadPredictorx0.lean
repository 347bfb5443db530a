/- Printed by a program of this session (the kit's print, with contracts of this session's own): what functions come to, and that their code comes to it. -/
import Derived.Test.YtdfpfiecpcgffaaDoorProg
import Derived.Below
import Derived.Deep.Draws
import Derived.Deep.AppendLies
import Derived.Maps.AppendAt
import Derived.OwnWalk
import Derived.Laws.BytesArg
import Derived.Laws.MakeOwn
import Derived.Laws.OwnMore
import Derived.Deep.OwnRows
import Derived.Tactics
import Derived.Lib.ConvBytes
import Derived.Laws.Slices
import Derived.WalkKit
import Derived.KernelRfl
import Derived.RowKit3
import Derived.Deep.LoopGhost
import Derived.Deep.QuietTactic
import Derived.BigQuiet
import Derived.WideLaws
import Derived.Deep.DeepCutAuto
import Derived.Deep.CutBlock
import Derived.Deep.RegionHeld3
import Derived.Laws.Rows
import Derived.Lib.AppendStr
import Derived.ArgAppend
import Derived.Laws.IdiomCopy
import Derived.OrdersHeld
import Derived.Laws.BitsLemmas
import Derived.RowKit
import Derived.Test.YtdfpfiecpcgffaaDoorFp
import Derived.Test.YtdfpfiecpcgffaaDoorShelf
import Derived.Test.YtdfpfiecpcgffaaDoorHx
import Derived.Test.YtdfpfiecpcgffaaDoorJn
import Derived.Test.YtdfpfiecpcgffaaDoorFi
import Derived.Test.YtdfpfiecpcgffaaDoorEf
import Derived.Test.YtdfpfiecpcgffaaDoorEs
import Derived.Test.YtdfpfiecpcgffaaDoorEt
import Derived.Test.YtdfpfiecpcgffaaDoorSl
import Derived.Test.YtdfpfiecpcgffaaDoorSq
import Derived.Test.YtdfpfiecpcgffaaDoorSm
import Derived.Test.YtdfpfiecpcgffaaDoorGt
import Derived.Test.YtdfpfiecpcgffaaDoorPu
import Derived.Test.YtdfpfiecpcgffaaDoorRn
import Derived.Test.YtdfpfiecpcgffaaDoorRt
import Derived.Test.YtdfpfiecpcgffaaDoorRp
import Derived.Test.YtdfpfiecpcgffaaDoorWWords
import Derived.Test.YtdfpfiecpcgffaaDoorWLast
import Derived.Test.YtdfpfiecpcgffaaDoorWTab
import Derived.Test.YtdfpfiecpcgffaaDoorWFour
import Derived.Test.YtdfpfiecpcgffaaDoorWQPut
import Derived.Test.YtdfpfiecpcgffaaDoorWApart
import Derived.Test.YtdfpfiecpcgffaaDoorWArr
import Derived.Test.YtdfpfiecpcgffaaDoorWZeros
import Derived.Test.YtdfpfiecpcgffaaDoorWFoot
import Derived.Test.YtdfpfiecpcgffaaDoorWKept
import Derived.Test.YtdfpfiecpcgffaaDoorWShare
import Derived.Test.YtdfpfiecpcgffaaDoorWN
import Derived.Test.YtdfpfiecpcgffaaDoorWFootNe
import Derived.Test.YtdfpfiecpcgffaaDoorWAt
import Derived.Test.YtdfpfiecpcgffaaDoorWEqStruct
import Derived.Test.YtdfpfiecpcgffaaDoorWRepsOne
import Derived.Test.YtdfpfiecpcgffaaDoorWInv
import Derived.Test.YtdfpfiecpcgffaaDoorWInvWords
import Derived.Test.YtdfpfiecpcgffaaDoorWGuard
import Derived.Test.YtdfpfiecpcgffaaDoorWNEv
import Derived.Test.YtdfpfiecpcgffaaDoorWMore
namespace Go.Proofs.YtdfpfiecpcgffaaDoor.PFnExactReadPredictor
open Go.RowKit Go.Proofs.YtdfpfiecpcgffaaDoorW.PrintWords Go.Proofs.YtdfpfiecpcgffaaDoorW.PrintLast Go.Proofs.YtdfpfiecpcgffaaDoorW.PrintMore
open Go.Proofs.YtdfpfiecpcgffaaDoorW.PrintFl
attribute [local go_sem high] binOp_feq binOp_fne binOp_fls binOp_fle binOp_fgr binOp_fge binOp_sle binOp_sgt
attribute [local go_sem] run_fopr run_fconv run_fint run_stf run_stc ext_f32bits ext_f32frombits 
attribute [local go_sem] max2_int min2_int max_two min_two max_three min_three max_four min_four   -- for this text's walks alone
set_option linter.unusedVariables false
set_option linter.unusedSimpArgs false



def errW : Option Int → Value
  | none => .nilIface
  | some c => .iface 0 (.int .i64 c)
theorem errW_none : errW none = .nilIface := rfl
theorem errW_some (c : Int) : errW (some c) = .iface 0 (.int .i64 c) := rfl

theorem info9 : (Tryd.prog.info? 9).map (fun i => (i.zero, i.size, i.bytes)) = some (some (.string ⟨#[]⟩), 1, 16) := by kernel_rfl
theorem info30 : (Tryd.prog.info? 30).map (fun i => (i.zero, i.size, i.bytes)) = some (some (.float .f32 0), 1, 4) := by kernel_rfl
theorem info37 : (Tryd.prog.info? 37).map (fun i => (i.zero, i.size, i.bytes)) = some (some (.slice none 0 0), 1, 24) := by kernel_rfl
-- the values' own types
def rd_L2 (xs : List (List Nat)) (i : Int) : (List Nat) := xs.getD i.toNat ([] : List Nat)
theorem at_L2 {w : World} {A : Option Addr} {n : Nat} {xs : List (List Nat)} (h : Kd.C (Kd.slice 30 (Kd.float .f32)) w A n xs) (i : Int) (h0 : 0 ≤ i) (h1 : i < n) : ∃ ad A0 c0, A = some ad ∧ w.cell? (ad.add i.toNat) = some (.slice A0 (rd_L2 xs i).length c0) ∧ (rd_L2 xs i).length ≤ c0 ∧ (Kd.float .f32).C w A0 (rd_L2 xs i).length (rd_L2 xs i) := by
  obtain ⟨ad, c, e, _, hK, hc0⟩ := Kd.C_get h ([] : List Nat) i h0 h1
  have hc : ∀ j u, c[j]? = some u → w.cell? (ad.add (i.toNat * 1 + j)) = some u := hc0
  obtain ⟨A0, c0, rfl, l0, g0⟩ := hK
  exact ⟨ad, A0, c0, e, by have hq := hc 0 _ rfl; rwa [Nat.mul_one, Nat.add_zero] at hq, l0, g0⟩

/-! #### struct type 39 -/
structure S39 where
  f0 : (List Nat)
  f1 : Nat
def z39 : S39 := ⟨([] : List Nat), (0 : Nat)⟩
def k39 : Kd S39 := Kd.iso (Kd.pair (Kd.slice 30 (Kd.float .f32)) (Kd.float .f32)) (fun x : S39 => (x.f0, x.f1))
theorem k39_open {w : World} {x : S39} {cs : List Value} (h : k39.K w x cs) : ∃ A0 c0, cs = [.slice A0 x.f0.length c0, .float .f32 x.f1] ∧ x.f0.length ≤ c0 ∧ (Kd.float .f32).C w A0 x.f0.length x.f0 := by
  obtain ⟨_, _, rfl, ⟨A0, c0, rfl, l0, g0⟩, rfl⟩ := h
  exact ⟨A0, c0, rfl, l0, g0⟩
theorem k39_openM {w : World} {base : Nat} {ok : Nat → Prop} {x : S39} {cs : List Value} (h : k39.M w base ok x cs) : ∃ v0, cs = [v0, .float .f32 x.f1] ∧ (Kd.float .f32).R 30 w base ok v0 x.f0 := by
  obtain ⟨_, _, rfl, ⟨v0, rfl, g0⟩, rfl⟩ := h
  exact ⟨v0, rfl, g0⟩
theorem k39_mk (w : World) (x : S39) {A0 : Option Addr} {c0 : Nat} (l0 : x.f0.length ≤ c0) (g0 : (Kd.float .f32).C w A0 x.f0.length x.f0) : k39.K w x [.slice A0 x.f0.length c0, .float .f32 x.f1] := ⟨[.slice A0 x.f0.length c0], [.float .f32 x.f1], rfl, ⟨A0, c0, rfl, l0, g0⟩, rfl⟩
theorem k39_mkM (w : World) (base : Nat) (ok : Nat → Prop) (x : S39) {v0 : Value} (g0 : (Kd.float .f32).R 30 w base ok v0 x.f0) : k39.M w base ok x [v0, .float .f32 x.f1] := ⟨[v0], [.float .f32 x.f1], rfl, ⟨v0, rfl, g0⟩, rfl⟩
def rd_T39 (xs : List S39) (i : Int) : S39 := xs.getD i.toNat z39
theorem at_T39 {w : World} {A : Option Addr} {n : Nat} {xs : List S39} (h : Kd.C k39 w A n xs) (i : Int) (h0 : 0 ≤ i) (h1 : i < n) : ∃ ad A0 c0, A = some ad ∧ w.cell? (ad.add (i.toNat * 2)) = some (.slice A0 (rd_T39 xs i).f0.length c0) ∧ w.cell? ⟨(ad.add (i.toNat * 2)).block, (ad.add (i.toNat * 2)).off + 1, none⟩ = some (.float .f32 (rd_T39 xs i).f1) ∧ (rd_T39 xs i).f0.length ≤ c0 ∧ (Kd.float .f32).C w A0 (rd_T39 xs i).f0.length (rd_T39 xs i).f0 := by
  obtain ⟨ad, c, e, _, hK, hc0⟩ := Kd.C_get h z39 i h0 h1
  have hc : ∀ j u, c[j]? = some u → w.cell? (ad.add (i.toNat * 2 + j)) = some u := hc0
  obtain ⟨A0, c0, rfl, l0, g0⟩ := k39_open hK
  exact ⟨ad, A0, c0, e, hc 0 _ rfl, by rw [← add_field _ _ 1 (by omega)]; exact hc 1 _ rfl, l0, g0⟩

end Go.Proofs.YtdfpfiecpcgffaaDoor.PFnExactReadPredictor
