import Derived.Test.YteooifighndmkaaProg
import Derived.Below
import Derived.Shelf.Abstract
import Derived.Deep.Draws
import Derived.Deep.AppendLies
import Derived.Maps.AppendAt
import Derived.OwnWalk
import Derived.Laws.BytesArg
import Derived.Laws.MakeOwn
import Derived.Laws.OwnMore
import Derived.Deep.OwnRows
import Derived.Tactics
import Derived.Lib.ConvBytes
import Derived.Laws.Slices
import Derived.WalkKit
import Derived.KernelRfl
import Derived.RowKit3
import Derived.Deep.LoopGhost
import Derived.Deep.QuietTactic
import Derived.BigQuiet
import Derived.WideLaws
import Derived.Deep.DeepCutAuto
import Derived.Deep.CutBlock
import Derived.Deep.RegionHeld3
import Derived.Laws.Rows
import Derived.Lib.AppendStr
import Derived.ArgAppend
import Derived.Laws.IdiomCopy
import Derived.OrdersHeld
import Derived.Laws.BitsLemmas
import Derived.RowKit
import Derived.Test.YteooifighndmkaaFp
import Derived.Test.YteooifighndmkaaFi
import Derived.Test.YteooifighndmkaaEf
import Derived.Test.YteooifighndmkaaEs
import Derived.Test.YteooifighndmkaaEt
import Derived.Test.YteooifighndmkaaEfr
import Derived.Test.YteooifighndmkaaSl
import Derived.Test.YteooifighndmkaaSq
import Derived.Test.YteooifighndmkaaSm
import Derived.Test.YteooifighndmkaaWWords
import Derived.Test.YteooifighndmkaaWAll
namespace Go.Proofs.Yteooifighndmkaa.PFnExactFrameAt
open Go.RowKit Go.Proofs.YteooifighndmkaaW.PrintWords Go.Proofs.YteooifighndmkaaW.PrintLast Go.Proofs.YteooifighndmkaaW.PrintMore
open Go.Proofs.YteooifighndmkaaW.PrintFl
attribute [local go_sem high] binOp_feq binOp_fne binOp_fls binOp_fle binOp_fgr binOp_fge binOp_sle binOp_sgt
attribute [local go_sem] run_fopr run_fconv run_fint run_stf run_stc
attribute [local go_sem] max2_int min2_int max_two min_two max_three min_three max_four min_four
set_option linter.unusedVariables false
set_option linter.unusedSimpArgs false
def errW : Option Int → Value
  | none => .nilIface
  | some c => .iface 0 (.int .i64 c)
theorem errW_none : errW none = .nilIface := rfl
theorem errW_some (c : Int) : errW (some c) = .iface 0 (.int .i64 c) := rfl
theorem info5 : (Try.prog.info? 5).map (fun i => (i.zero, i.size, i.bytes)) = some (some (.int .u8 0), 1, 1) := by kernel_rfl
theorem info9 : (Try.prog.info? 9).map (fun i => (i.zero, i.size, i.bytes)) = some (some (.string ⟨#[]⟩), 1, 16) := by kernel_rfl
theorem info25 : (Try.prog.info? 25).map (fun i => (i.zero, i.size, i.bytes)) = some (some (.float .f32 0), 1, 4) := by kernel_rfl
theorem info49 : (Try.prog.info? 49).map (fun i => (i.zero, i.size, i.bytes)) = some (some (.agg #[(.string ⟨#[]⟩), (.slice none 0 0), (.float .f32 0), (.float .f32 0), (.float .f32 0), (.float .f32 0)]), 6, 56) := by kernel_rfl
def rd_L2 (xs : List (List Nat)) (i : Int) : (List Nat) := xs.getD i.toNat ([] : List Nat)
theorem at_L2 {w : World} {A : Option Addr} {n : Nat} {xs : List (List Nat)} (h : Kd.C (Kd.slice 25 (Kd.float .f32)) w A n xs) (i : Int) (h0 : 0 ≤ i) (h1 : i < n) : ∃ ad A0 c0, A = some ad ∧ w.cell? (ad.add i.toNat) = some (.slice A0 (rd_L2 xs i).length c0) ∧ (rd_L2 xs i).length ≤ c0 ∧ (Kd.float .f32).C w A0 (rd_L2 xs i).length (rd_L2 xs i) := by
  obtain ⟨ad, c, e, _, hK, hc0⟩ := Kd.C_get h ([] : List Nat) i h0 h1
  have hc : ∀ j u, c[j]? = some u → w.cell? (ad.add (i.toNat * 1 + j)) = some u := hc0
  obtain ⟨A0, c0, rfl, l0, g0⟩ := hK
  exact ⟨ad, A0, c0, e, by have hq := hc 0 _ rfl; rwa [Nat.mul_one, Nat.add_zero] at hq, l0, g0⟩
structure S45 where
  f0 : ByteArray
  f1 : (List Nat)
  f2 : Nat
  f3 : Nat
  f4 : Nat
  f5 : Nat
def z45 : S45 := ⟨(⟨#[]⟩ : ByteArray), ([] : List Nat), (0 : Nat), (0 : Nat), (0 : Nat), (0 : Nat)⟩
def k45 : Kd S45 := Kd.iso (Kd.pair Kd.string (Kd.pair (Kd.slice 25 (Kd.float .f32)) (Kd.pair (Kd.float .f32) (Kd.pair (Kd.float .f32) (Kd.pair (Kd.float .f32) (Kd.float .f32)))))) (fun x : S45 => (x.f0, x.f1, x.f2, x.f3, x.f4, x.f5))
theorem k45_open {w : World} {x : S45} {cs : List Value} (h : k45.K w x cs) : ∃ A1 c1, cs = [.string x.f0, .slice A1 x.f1.length c1, .float .f32 x.f2, .float .f32 x.f3, .float .f32 x.f4, .float .f32 x.f5] ∧ x.f1.length ≤ c1 ∧ (Kd.float .f32).C w A1 x.f1.length x.f1 := by
  obtain ⟨_, _, rfl, rfl, ⟨_, _, rfl, ⟨A1, c1, rfl, l1, g1⟩, ⟨_, _, rfl, rfl, ⟨_, _, rfl, rfl, ⟨_, _, rfl, rfl, rfl⟩⟩⟩⟩⟩ := h
  exact ⟨A1, c1, rfl, l1, g1⟩
theorem k45_openM {w : World} {base : Nat} {ok : Nat → Prop} {x : S45} {cs : List Value} (h : k45.M w base ok x cs) : ∃ v1, cs = [.string x.f0, v1, .float .f32 x.f2, .float .f32 x.f3, .float .f32 x.f4, .float .f32 x.f5] ∧ (Kd.float .f32).R 25 w base ok v1 x.f1 := by
  obtain ⟨_, _, rfl, rfl, ⟨_, _, rfl, ⟨v1, rfl, g1⟩, ⟨_, _, rfl, rfl, ⟨_, _, rfl, rfl, ⟨_, _, rfl, rfl, rfl⟩⟩⟩⟩⟩ := h
  exact ⟨v1, rfl, g1⟩
theorem k45_mk (w : World) (x : S45) {A1 : Option Addr} {c1 : Nat} (l1 : x.f1.length ≤ c1) (g1 : (Kd.float .f32).C w A1 x.f1.length x.f1) : k45.K w x [.string x.f0, .slice A1 x.f1.length c1, .float .f32 x.f2, .float .f32 x.f3, .float .f32 x.f4, .float .f32 x.f5] := ⟨[.string x.f0], [.slice A1 x.f1.length c1, .float .f32 x.f2, .float .f32 x.f3, .float .f32 x.f4, .float .f32 x.f5], rfl, rfl, ⟨[.slice A1 x.f1.length c1], [.float .f32 x.f2, .float .f32 x.f3, .float .f32 x.f4, .float .f32 x.f5], rfl, ⟨A1, c1, rfl, l1, g1⟩, ⟨[.float .f32 x.f2], [.float .f32 x.f3, .float .f32 x.f4, .float .f32 x.f5], rfl, rfl, ⟨[.float .f32 x.f3], [.float .f32 x.f4, .float .f32 x.f5], rfl, rfl, ⟨[.float .f32 x.f4], [.float .f32 x.f5], rfl, rfl, rfl⟩⟩⟩⟩⟩
theorem k45_mkM (w : World) (base : Nat) (ok : Nat → Prop) (x : S45) {v1 : Value} (g1 : (Kd.float .f32).R 25 w base ok v1 x.f1) : k45.M w base ok x [.string x.f0, v1, .float .f32 x.f2, .float .f32 x.f3, .float .f32 x.f4, .float .f32 x.f5] := ⟨[.string x.f0], [v1, .float .f32 x.f2, .float .f32 x.f3, .float .f32 x.f4, .float .f32 x.f5], rfl, rfl, ⟨[v1], [.float .f32 x.f2, .float .f32 x.f3, .float .f32 x.f4, .float .f32 x.f5], rfl, ⟨v1, rfl, g1⟩, ⟨[.float .f32 x.f2], [.float .f32 x.f3, .float .f32 x.f4, .float .f32 x.f5], rfl, rfl, ⟨[.float .f32 x.f3], [.float .f32 x.f4, .float .f32 x.f5], rfl, rfl, ⟨[.float .f32 x.f4], [.float .f32 x.f5], rfl, rfl, rfl⟩⟩⟩⟩⟩
def rd_T45 (xs : List S45) (i : Int) : S45 := xs.getD i.toNat z45
theorem at_T45 {w : World} {A : Option Addr} {n : Nat} {xs : List S45} (h : Kd.C k45 w A n xs) (i : Int) (h0 : 0 ≤ i) (h1 : i < n) : ∃ ad A1 c1, A = some ad ∧ w.cell? (ad.add (i.toNat * 6)) = some (.string (rd_T45 xs i).f0) ∧ w.cell? ⟨(ad.add (i.toNat * 6)).block, (ad.add (i.toNat * 6)).off + 1, none⟩ = some (.slice A1 (rd_T45 xs i).f1.length c1) ∧ w.cell? ⟨(ad.add (i.toNat * 6)).block, (ad.add (i.toNat * 6)).off + 2, none⟩ = some (.float .f32 (rd_T45 xs i).f2) ∧ w.cell? ⟨(ad.add (i.toNat * 6)).block, (ad.add (i.toNat * 6)).off + 3, none⟩ = some (.float .f32 (rd_T45 xs i).f3) ∧ w.cell? ⟨(ad.add (i.toNat * 6)).block, (ad.add (i.toNat * 6)).off + 4, none⟩ = some (.float .f32 (rd_T45 xs i).f4) ∧ w.cell? ⟨(ad.add (i.toNat * 6)).block, (ad.add (i.toNat * 6)).off + 5, none⟩ = some (.float .f32 (rd_T45 xs i).f5) ∧ (rd_T45 xs i).f1.length ≤ c1 ∧ (Kd.float .f32).C w A1 (rd_T45 xs i).f1.length (rd_T45 xs i).f1 := by
  obtain ⟨ad, c, e, _, hK, hc0⟩ := Kd.C_get h z45 i h0 h1
  have hc : ∀ j u, c[j]? = some u → w.cell? (ad.add (i.toNat * 6 + j)) = some u := hc0
  obtain ⟨A1, c1, rfl, l1, g1⟩ := k45_open hK
  exact ⟨ad, A1, c1, e, hc 0 _ rfl, by rw [← add_field _ _ 1 (by omega)]; exact hc 1 _ rfl, by rw [← add_field _ _ 2 (by omega)]; exact hc 2 _ rfl, by rw [← add_field _ _ 3 (by omega)]; exact hc 3 _ rfl, by rw [← add_field _ _ 4 (by omega)]; exact hc 4 _ rfl, by rw [← add_field _ _ 5 (by omega)]; exact hc 5 _ rfl, l1, g1⟩
structure S49 where
  f0 : ByteArray
  f1 : (List Nat)
  f2 : Nat
  f3 : Nat
  f4 : Nat
  f5 : Nat
def z49 : S49 := ⟨(⟨#[]⟩ : ByteArray), ([] : List Nat), (0 : Nat), (0 : Nat), (0 : Nat), (0 : Nat)⟩
def k49 : Kd S49 := Kd.iso (Kd.pair Kd.string (Kd.pair (Kd.slice 25 (Kd.float .f32)) (Kd.pair (Kd.float .f32) (Kd.pair (Kd.float .f32) (Kd.pair (Kd.float .f32) (Kd.float .f32)))))) (fun x : S49 => (x.f0, x.f1, x.f2, x.f3, x.f4, x.f5))
theorem k49_open {w : World} {x : S49} {cs : List Value} (h : k49.K w x cs) : ∃ A1 c1, cs = [.string x.f0, .slice A1 x.f1.length c1, .float .f32 x.f2, .float .f32 x.f3, .float .f32 x.f4, .float .f32 x.f5] ∧ x.f1.length ≤ c1 ∧ (Kd.float .f32).C w A1 x.f1.length x.f1 := by
  obtain ⟨_, _, rfl, rfl, ⟨_, _, rfl, ⟨A1, c1, rfl, l1, g1⟩, ⟨_, _, rfl, rfl, ⟨_, _, rfl, rfl, ⟨_, _, rfl, rfl, rfl⟩⟩⟩⟩⟩ := h
  exact ⟨A1, c1, rfl, l1, g1⟩
theorem k49_openM {w : World} {base : Nat} {ok : Nat → Prop} {x : S49} {cs : List Value} (h : k49.M w base ok x cs) : ∃ v1, cs = [.string x.f0, v1, .float .f32 x.f2, .float .f32 x.f3, .float .f32 x.f4, .float .f32 x.f5] ∧ (Kd.float .f32).R 25 w base ok v1 x.f1 := by
  obtain ⟨_, _, rfl, rfl, ⟨_, _, rfl, ⟨v1, rfl, g1⟩, ⟨_, _, rfl, rfl, ⟨_, _, rfl, rfl, ⟨_, _, rfl, rfl, rfl⟩⟩⟩⟩⟩ := h
  exact ⟨v1, rfl, g1⟩
theorem k49_mk (w : World) (x : S49) {A1 : Option Addr} {c1 : Nat} (l1 : x.f1.length ≤ c1) (g1 : (Kd.float .f32).C w A1 x.f1.length x.f1) : k49.K w x [.string x.f0, .slice A1 x.f1.length c1, .float .f32 x.f2, .float .f32 x.f3, .float .f32 x.f4, .float .f32 x.f5] := ⟨[.string x.f0], [.slice A1 x.f1.length c1, .float .f32 x.f2, .float .f32 x.f3, .float .f32 x.f4, .float .f32 x.f5], rfl, rfl, ⟨[.slice A1 x.f1.length c1], [.float .f32 x.f2, .float .f32 x.f3, .float .f32 x.f4, .float .f32 x.f5], rfl, ⟨A1, c1, rfl, l1, g1⟩, ⟨[.float .f32 x.f2], [.float .f32 x.f3, .float .f32 x.f4, .float .f32 x.f5], rfl, rfl, ⟨[.float .f32 x.f3], [.float .f32 x.f4, .float .f32 x.f5], rfl, rfl, ⟨[.float .f32 x.f4], [.float .f32 x.f5], rfl, rfl, rfl⟩⟩⟩⟩⟩
theorem k49_mkM (w : World) (base : Nat) (ok : Nat → Prop) (x : S49) {v1 : Value} (g1 : (Kd.float .f32).R 25 w base ok v1 x.f1) : k49.M w base ok x [.string x.f0, v1, .float .f32 x.f2, .float .f32 x.f3, .float .f32 x.f4, .float .f32 x.f5] := ⟨[.string x.f0], [v1, .float .f32 x.f2, .float .f32 x.f3, .float .f32 x.f4, .float .f32 x.f5], rfl, rfl, ⟨[v1], [.float .f32 x.f2, .float .f32 x.f3, .float .f32 x.f4, .float .f32 x.f5], rfl, ⟨v1, rfl, g1⟩, ⟨[.float .f32 x.f2], [.float .f32 x.f3, .float .f32 x.f4, .float .f32 x.f5], rfl, rfl, ⟨[.float .f32 x.f3], [.float .f32 x.f4, .float .f32 x.f5], rfl, rfl, ⟨[.float .f32 x.f4], [.float .f32 x.f5], rfl, rfl, rfl⟩⟩⟩⟩⟩
def rd_T49 (xs : List S49) (i : Int) : S49 := xs.getD i.toNat z49
theorem at_T49 {w : World} {A : Option Addr} {n : Nat} {xs : List S49} (h : Kd.C k49 w A n xs) (i : Int) (h0 : 0 ≤ i) (h1 : i < n) : ∃ ad A1 c1, A = some ad ∧ w.cell? (ad.add (i.toNat * 6)) = some (.string (rd_T49 xs i).f0) ∧ w.cell? ⟨(ad.add (i.toNat * 6)).block, (ad.add (i.toNat * 6)).off + 1, none⟩ = some (.slice A1 (rd_T49 xs i).f1.length c1) ∧ w.cell? ⟨(ad.add (i.toNat * 6)).block, (ad.add (i.toNat * 6)).off + 2, none⟩ = some (.float .f32 (rd_T49 xs i).f2) ∧ w.cell? ⟨(ad.add (i.toNat * 6)).block, (ad.add (i.toNat * 6)).off + 3, none⟩ = some (.float .f32 (rd_T49 xs i).f3) ∧ w.cell? ⟨(ad.add (i.toNat * 6)).block, (ad.add (i.toNat * 6)).off + 4, none⟩ = some (.float .f32 (rd_T49 xs i).f4) ∧ w.cell? ⟨(ad.add (i.toNat * 6)).block, (ad.add (i.toNat * 6)).off + 5, none⟩ = some (.float .f32 (rd_T49 xs i).f5) ∧ (rd_T49 xs i).f1.length ≤ c1 ∧ (Kd.float .f32).C w A1 (rd_T49 xs i).f1.length (rd_T49 xs i).f1 := by
  obtain ⟨ad, c, e, _, hK, hc0⟩ := Kd.C_get h z49 i h0 h1
  have hc : ∀ j u, c[j]? = some u → w.cell? (ad.add (i.toNat * 6 + j)) = some u := hc0
  obtain ⟨A1, c1, rfl, l1, g1⟩ := k49_open hK
  exact ⟨ad, A1, c1, e, hc 0 _ rfl, by rw [← add_field _ _ 1 (by omega)]; exact hc 1 _ rfl, by rw [← add_field _ _ 2 (by omega)]; exact hc 2 _ rfl, by rw [← add_field _ _ 3 (by omega)]; exact hc 3 _ rfl, by rw [← add_field _ _ 4 (by omega)]; exact hc 4 _ rfl, by rw [← add_field _ _ 5 (by omega)]; exact hc 5 _ rfl, l1, g1⟩
structure S29 where
  f0 : (List Nat)
  f1 : Nat
  f2 : Nat
  f3 : Nat
def z29 : S29 := ⟨([] : List Nat), (0 : Nat), (0 : Nat), (0 : Nat)⟩
def k29 : Kd S29 := Kd.iso (Kd.pair (Kd.slice 25 (Kd.float .f32)) (Kd.pair (Kd.float .f32) (Kd.pair (Kd.float .f32) (Kd.float .f32)))) (fun x : S29 => (x.f0, x.f1, x.f2, x.f3))
theorem k29_open {w : World} {x : S29} {cs : List Value} (h : k29.K w x cs) : ∃ A0 c0, cs = [.slice A0 x.f0.length c0, .float .f32 x.f1, .float .f32 x.f2, .float .f32 x.f3] ∧ x.f0.length ≤ c0 ∧ (Kd.float .f32).C w A0 x.f0.length x.f0 := by
  obtain ⟨_, _, rfl, ⟨A0, c0, rfl, l0, g0⟩, ⟨_, _, rfl, rfl, ⟨_, _, rfl, rfl, rfl⟩⟩⟩ := h
  exact ⟨A0, c0, rfl, l0, g0⟩
theorem k29_openM {w : World} {base : Nat} {ok : Nat → Prop} {x : S29} {cs : List Value} (h : k29.M w base ok x cs) : ∃ v0, cs = [v0, .float .f32 x.f1, .float .f32 x.f2, .float .f32 x.f3] ∧ (Kd.float .f32).R 25 w base ok v0 x.f0 := by
  obtain ⟨_, _, rfl, ⟨v0, rfl, g0⟩, ⟨_, _, rfl, rfl, ⟨_, _, rfl, rfl, rfl⟩⟩⟩ := h
  exact ⟨v0, rfl, g0⟩
theorem k29_mk (w : World) (x : S29) {A0 : Option Addr} {c0 : Nat} (l0 : x.f0.length ≤ c0) (g0 : (Kd.float .f32).C w A0 x.f0.length x.f0) : k29.K w x [.slice A0 x.f0.length c0, .float .f32 x.f1, .float .f32 x.f2, .float .f32 x.f3] := ⟨[.slice A0 x.f0.length c0], [.float .f32 x.f1, .float .f32 x.f2, .float .f32 x.f3], rfl, ⟨A0, c0, rfl, l0, g0⟩, ⟨[.float .f32 x.f1], [.float .f32 x.f2, .float .f32 x.f3], rfl, rfl, ⟨[.float .f32 x.f2], [.float .f32 x.f3], rfl, rfl, rfl⟩⟩⟩
theorem k29_mkM (w : World) (base : Nat) (ok : Nat → Prop) (x : S29) {v0 : Value} (g0 : (Kd.float .f32).R 25 w base ok v0 x.f0) : k29.M w base ok x [v0, .float .f32 x.f1, .float .f32 x.f2, .float .f32 x.f3] := ⟨[v0], [.float .f32 x.f1, .float .f32 x.f2, .float .f32 x.f3], rfl, ⟨v0, rfl, g0⟩, ⟨[.float .f32 x.f1], [.float .f32 x.f2, .float .f32 x.f3], rfl, rfl, ⟨[.float .f32 x.f2], [.float .f32 x.f3], rfl, rfl, rfl⟩⟩⟩
def rd_T29 (xs : List S29) (i : Int) : S29 := xs.getD i.toNat z29
theorem at_T29 {w : World} {A : Option Addr} {n : Nat} {xs : List S29} (h : Kd.C k29 w A n xs) (i : Int) (h0 : 0 ≤ i) (h1 : i < n) : ∃ ad A0 c0, A = some ad ∧ w.cell? (ad.add (i.toNat * 4)) = some (.slice A0 (rd_T29 xs i).f0.length c0) ∧ w.cell? ⟨(ad.add (i.toNat * 4)).block, (ad.add (i.toNat * 4)).off + 1, none⟩ = some (.float .f32 (rd_T29 xs i).f1) ∧ w.cell? ⟨(ad.add (i.toNat * 4)).block, (ad.add (i.toNat * 4)).off + 2, none⟩ = some (.float .f32 (rd_T29 xs i).f2) ∧ w.cell? ⟨(ad.add (i.toNat * 4)).block, (ad.add (i.toNat * 4)).off + 3, none⟩ = some (.float .f32 (rd_T29 xs i).f3) ∧ (rd_T29 xs i).f0.length ≤ c0 ∧ (Kd.float .f32).C w A0 (rd_T29 xs i).f0.length (rd_T29 xs i).f0 := by
  obtain ⟨ad, c, e, _, hK, hc0⟩ := Kd.C_get h z29 i h0 h1
  have hc : ∀ j u, c[j]? = some u → w.cell? (ad.add (i.toNat * 4 + j)) = some u := hc0
  obtain ⟨A0, c0, rfl, l0, g0⟩ := k29_open hK
  exact ⟨ad, A0, c0, e, hc 0 _ rfl, by rw [← add_field _ _ 1 (by omega)]; exact hc 1 _ rfl, by rw [← add_field _ _ 2 (by omega)]; exact hc 2 _ rfl, by rw [← add_field _ _ 3 (by omega)]; exact hc 3 _ rfl, l0, g0⟩
structure S9 where
  f0 : ByteArray
def z9 : S9 := ⟨(⟨#[]⟩ : ByteArray)⟩
def k9 : Kd S9 := Kd.iso Kd.string (fun x : S9 => x.f0)
theorem k9_open {w : World} {x : S9} {cs : List Value} (h : k9.K w x cs) : cs = [.string x.f0] := by
  obtain rfl := h
  exact rfl
theorem k9_openM {w : World} {base : Nat} {ok : Nat → Prop} {x : S9} {cs : List Value} (h : k9.M w base ok x cs) : cs = [.string x.f0] := by
  obtain rfl := h
  exact rfl
theorem k9_mk (w : World) (x : S9)  : k9.K w x [.string x.f0] := rfl
theorem k9_mkM (w : World) (base : Nat) (ok : Nat → Prop) (x : S9)  : k9.M w base ok x [.string x.f0] := rfl
def rd_T9 (xs : List S9) (i : Int) : S9 := xs.getD i.toNat z9
theorem at_T9 {w : World} {A : Option Addr} {n : Nat} {xs : List S9} (h : Kd.C k9 w A n xs) (i : Int) (h0 : 0 ≤ i) (h1 : i < n) : ∃ ad , A = some ad ∧ w.cell? (ad.add i.toNat) = some (.string (rd_T9 xs i).f0) := by
  obtain ⟨ad, c, e, _, hK, hc0⟩ := Kd.C_get h z9 i h0 h1
  have hc : ∀ j u, c[j]? = some u → w.cell? (ad.add (i.toNat * 1 + j)) = some u := hc0
  obtain rfl := k9_open hK
  exact ⟨ad, e, by have hq := hc 0 _ rfl; rwa [Nat.mul_one, Nat.add_zero] at hq⟩
def rd_L7 (xs : List (List S49)) (i : Int) : (List S49) := xs.getD i.toNat ([] : List S49)
theorem at_L7 {w : World} {A : Option Addr} {n : Nat} {xs : List (List S49)} (h : Kd.C (Kd.slice 49 k49) w A n xs) (i : Int) (h0 : 0 ≤ i) (h1 : i < n) : ∃ ad A0 c0, A = some ad ∧ w.cell? (ad.add i.toNat) = some (.slice A0 (rd_L7 xs i).length c0) ∧ (rd_L7 xs i).length ≤ c0 ∧ k49.C w A0 (rd_L7 xs i).length (rd_L7 xs i) := by
  obtain ⟨ad, c, e, _, hK, hc0⟩ := Kd.C_get h ([] : List S49) i h0 h1
  have hc : ∀ j u, c[j]? = some u → w.cell? (ad.add (i.toNat * 1 + j)) = some u := hc0
  obtain ⟨A0, c0, rfl, l0, g0⟩ := hK
  exact ⟨ad, A0, c0, e, by have hq := hc 0 _ rfl; rwa [Nat.mul_one, Nat.add_zero] at hq, l0, g0⟩
structure S32 where
  f0 : (List S49)
def z32 : S32 := ⟨([] : List S49)⟩
def k32 : Kd S32 := Kd.iso (Kd.slice 49 k49) (fun x : S32 => x.f0)
theorem k32_open {w : World} {x : S32} {cs : List Value} (h : k32.K w x cs) : ∃ A0 c0, cs = [.slice A0 x.f0.length c0] ∧ x.f0.length ≤ c0 ∧ k49.C w A0 x.f0.length x.f0 := by
  obtain ⟨A0, c0, rfl, l0, g0⟩ := h
  exact ⟨A0, c0, rfl, l0, g0⟩
theorem k32_openM {w : World} {base : Nat} {ok : Nat → Prop} {x : S32} {cs : List Value} (h : k32.M w base ok x cs) : ∃ v0, cs = [v0] ∧ k49.R 49 w base ok v0 x.f0 := by
  obtain ⟨v0, rfl, g0⟩ := h
  exact ⟨v0, rfl, g0⟩
theorem k32_mk (w : World) (x : S32) {A0 : Option Addr} {c0 : Nat} (l0 : x.f0.length ≤ c0) (g0 : k49.C w A0 x.f0.length x.f0) : k32.K w x [.slice A0 x.f0.length c0] := ⟨A0, c0, rfl, l0, g0⟩
theorem k32_mkM (w : World) (base : Nat) (ok : Nat → Prop) (x : S32) {v0 : Value} (g0 : k49.R 49 w base ok v0 x.f0) : k32.M w base ok x [v0] := ⟨v0, rfl, g0⟩
def rd_T32 (xs : List S32) (i : Int) : S32 := xs.getD i.toNat z32
theorem at_T32 {w : World} {A : Option Addr} {n : Nat} {xs : List S32} (h : Kd.C k32 w A n xs) (i : Int) (h0 : 0 ≤ i) (h1 : i < n) : ∃ ad A0 c0, A = some ad ∧ w.cell? (ad.add i.toNat) = some (.slice A0 (rd_T32 xs i).f0.length c0) ∧ (rd_T32 xs i).f0.length ≤ c0 ∧ k49.C w A0 (rd_T32 xs i).f0.length (rd_T32 xs i).f0 := by
  obtain ⟨ad, c, e, _, hK, hc0⟩ := Kd.C_get h z32 i h0 h1
  have hc : ∀ j u, c[j]? = some u → w.cell? (ad.add (i.toNat * 1 + j)) = some u := hc0
  obtain ⟨A0, c0, rfl, l0, g0⟩ := k32_open hK
  exact ⟨ad, A0, c0, e, by have hq := hc 0 _ rfl; rwa [Nat.mul_one, Nat.add_zero] at hq, l0, g0⟩
structure S25 where
  f0 : Nat
def z25 : S25 := ⟨(0 : Nat)⟩
def k25 : Kd S25 := Kd.iso (Kd.float .f32) (fun x : S25 => x.f0)
theorem k25_open {w : World} {x : S25} {cs : List Value} (h : k25.K w x cs) : cs = [.float .f32 x.f0] := by
  obtain rfl := h
  exact rfl
theorem k25_openM {w : World} {base : Nat} {ok : Nat → Prop} {x : S25} {cs : List Value} (h : k25.M w base ok x cs) : cs = [.float .f32 x.f0] := by
  obtain rfl := h
  exact rfl
theorem k25_mk (w : World) (x : S25)  : k25.K w x [.float .f32 x.f0] := rfl
theorem k25_mkM (w : World) (base : Nat) (ok : Nat → Prop) (x : S25)  : k25.M w base ok x [.float .f32 x.f0] := rfl
def rd_T25 (xs : List S25) (i : Int) : S25 := xs.getD i.toNat z25
theorem at_T25 {w : World} {A : Option Addr} {n : Nat} {xs : List S25} (h : Kd.C k25 w A n xs) (i : Int) (h0 : 0 ≤ i) (h1 : i < n) : ∃ ad , A = some ad ∧ w.cell? (ad.add i.toNat) = some (.float .f32 (rd_T25 xs i).f0) := by
  obtain ⟨ad, c, e, _, hK, hc0⟩ := Kd.C_get h z25 i h0 h1
  have hc : ∀ j u, c[j]? = some u → w.cell? (ad.add (i.toNat * 1 + j)) = some u := hc0
  obtain rfl := k25_open hK
  exact ⟨ad, e, by have hq := hc 0 _ rfl; rwa [Nat.mul_one, Nat.add_zero] at hq⟩
end Go.Proofs.Yteooifighndmkaa.PFnExactFrameAt
