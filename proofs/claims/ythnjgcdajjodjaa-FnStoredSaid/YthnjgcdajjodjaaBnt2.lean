/- A row of bytes that is made of a string, in which one byte is written; and strings that are made of it again. -/
import Derived.Test.YthnjgcdajjodjaaStdB2
import Derived.Lib.Hide
import Derived.Lib.ConvBytes
import Derived.Laws.IdiomStrings
import Derived.Laws.BitsAllLaws
set_option linter.unusedVariables false
set_option linter.unusedSimpArgs false
namespace Go.Proofs.Ythnjgcdajjodjaa.Bnt2
open Go.RowKit Go.Proofs.YthnjgcdajjodjaaW.PrintWords Go.Proofs.Ythnjgcdajjodjaa Go.Proofs.Ythnjgcdajjodjaa.StdPure2
abbrev bw (W : World) (q : ByteArray) : World := Go.Lib.bytesWorld W 5 q
abbrev gc (W : World) (q : ByteArray) : Nat := grownCap W q.size 0 5
theorem run_cv (W : World) (q : ByteArray) : (convert 9 34 (.string q)).run Try.prog W = .ok (.slice (some ⟨W.heap.size, 0, none⟩) q.size (gc W q)) (bw W q) :=
  Go.Lib.run_convert_string_bytes W 9 34 5 q Try.underlying9 Try.underlying34 Try.underlying5
theorem below_bw (W : World) (q : ByteArray) : Below W.heap.size W (bw W q) :=
  ⟨by simp [Go.Lib.bytesWorld, World.freeze, World.alloc, World.drew, -World.alloc_eq, -World.drew_eq], by simp [Go.Lib.bytesWorld, World.freeze, World.alloc, World.drew, -World.alloc_eq, -World.drew_eq], by simp [Go.Lib.bytesWorld, World.freeze, World.alloc, World.drew, -World.alloc_eq, -World.drew_eq], by rw [Go.Lib.bytesWorld_size]; omega, fun k hk => Go.Lib.bytesWorld_at_old W _ q k hk⟩
theorem cell_bw (W : World) (q : ByteArray) (m : Nat) (h : m < q.size) : (bw W q).cell? ⟨W.heap.size, m, none⟩ = some (.int .u8 ((D q)[m]'(by rw [D_len]; exact h)).toNat) := by
  rw [Go.Lib.bytesWorld_cell W _ q m h, List.getD_eq_getElem?_getD, List.getElem?_eq_getElem (by rw [D_len]; exact h)]
  rfl
theorem frozen_bw (W : World) (q : ByteArray) (m : Nat) (h : m < q.size) : (bw W q).frozen? ⟨W.heap.size, m, none⟩ = false := by
  unfold World.frozen?
  rw [show (bw W q).heap[(⟨W.heap.size, m, none⟩ : Addr).block]? = _ from Go.Lib.bytesWorld_at_new W _ q]
  have : q.size ≤ (Go.Lib.bytesCells W 5 q).size := by
    unfold Go.Lib.bytesCells
    rw [Array.size_append, Array.size_map]
    show q.size ≤ q.size + _
    omega
  simp
  omega
/-- the world behind the store -/
abbrev bx (W : World) (q : ByteArray) (m : Nat) (z : Int) : World := (bw W q).setCell ⟨W.heap.size, m, none⟩ (.int .u8 z)
theorem below_bx (W : World) (q : ByteArray) (m : Nat) (z : Int) : Below W.heap.size W (bx W q m z) := Below.setCell (below_bw W q) (p := ⟨W.heap.size, m, none⟩) (Nat.le_refl _) _
theorem size_bx (W : World) (q : ByteArray) (m : Nat) (z : Int) : (bx W q m z).heap.size = W.heap.size + 1 := by
  have : (bx W q m z).heap.size = (bw W q).heap.size := by simp [World.setCell]
  rw [this]; exact Go.Lib.bytesWorld_size W _ q
/-- the bytes with one written -/
def bent (q : ByteArray) (m : Nat) (b : UInt8) : ByteArray := ⟨((D q).set m b).toArray⟩
theorem D_bent (q : ByteArray) (m : Nat) (b : UInt8) : D (bent q m b) = (D q).set m b := rfl
theorem bent_size (q : ByteArray) (m : Nat) (b : UInt8) : (bent q m b).size = q.size := by rw [← D_len, D_bent, List.length_set, D_len]
theorem cell_bx (W : World) (q : ByteArray) (m : Nat) (hm : m < q.size) (b : UInt8) (j : Nat) (hj : j < q.size) : (bx W q m (b.toNat : Int)).cell? ⟨W.heap.size, j, none⟩ = some (.int .u8 (((D (bent q m b))[j]'(by rw [D_len, bent_size]; exact hj)).toNat : Int)) := by
  simp only [D_bent]
  by_cases c : m = j
  · subst c
    rw [List.getElem_set_self]
    exact World.cell?_setCell_same _ _ _ (cell_bw W q m hm)
  · rw [List.getElem_set_ne c]
    have h2 := cell_bw W q j hj
    exact (World.cell?_setCell_other _ _ _ _ (by intro h; simp only [Addr.mk.injEq] at h; omega)).trans h2
/-- the string of the first n bytes of such a row, at any later world -/
theorem str_bx (W : World) (q : ByteArray) (m : Nat) (hm : m < q.size) (b : UInt8) (W2 : World) (hB : Below (bx W q m (b.toNat : Int)).heap.size (bx W q m (b.toNat : Int)) W2) (n : Nat) (hn : n ≤ q.size) (cap : Nat) :
    (convert 34 9 (.slice (some ⟨W.heap.size, 0, none⟩) n cap)).run Try.prog W2 = .ok (.string ((bent q m b).extract 0 n)) W2 := by
  have hl : ((D (bent q m b)).take n).length = n := by rw [List.length_take, D_len, bent_size]; omega
  have h := run_convert_bytes_back (P := Try.prog) W2 34 9 5 ⟨W.heap.size, 0, none⟩ cap ((D (bent q m b)).take n) Try.underlying34 Try.underlying5 Try.underlying9 (fun j hj => by
    rw [hl] at hj
    have e : (⟨W.heap.size, 0, none⟩ : Addr).add j = ⟨W.heap.size, j, none⟩ := by
      unfold Addr.add
      split
      · rename_i h0; rw [h0]
      · simp
    rw [e, hB.cell (by rw [size_bx]; exact Nat.lt_succ_self _), cell_bx W q m hm b j (by omega)]
    simp only [List.getElem_take])
  rw [hl] at h
  rw [h]
  congr 2
  exact D_inj (by rw [D_to])
theorem str_bx_all (W : World) (q : ByteArray) (m : Nat) (hm : m < q.size) (b : UInt8) (W2 : World) (hB : Below (bx W q m (b.toNat : Int)).heap.size (bx W q m (b.toNat : Int)) W2) (cap : Nat) :
    (convert 34 9 (.slice (some ⟨W.heap.size, 0, none⟩) q.size cap)).run Try.prog W2 = .ok (.string (bent q m b)) W2 := by
  rw [str_bx W q m hm b W2 hB q.size (Nat.le_refl _) cap]
  congr 2
  exact D_inj (by rw [D_to, List.take_of_length_le]; rw [D_len, bent_size]; exact Nat.le_refl _)
/-- the same, where draws lie between -/
theorem cell_bd (W : World) (q : ByteArray) (m : Nat) (hm : m < q.size) (b : UInt8) (n : Nat) (j : Nat) (hj : j < q.size) : (((bw W q).drewN n).setCell ⟨W.heap.size, m, none⟩ (.int .u8 (b.toNat : Int))).cell? ⟨W.heap.size, j, none⟩ = some (.int .u8 (((D (bent q m b))[j]'(by rw [D_len, bent_size]; exact hj)).toNat : Int)) := by
  have hd : ∀ i : Nat, ((bw W q).drewN n).cell? ⟨W.heap.size, i, none⟩ = (bw W q).cell? ⟨W.heap.size, i, none⟩ := fun i =>
    (pw_below_drewN (Below.refl (W.heap.size + 1) (bw W q)) n).cell (p := ⟨W.heap.size, i, none⟩) (Nat.lt_succ_self _)
  simp only [D_bent]
  by_cases c : m = j
  · subst c
    rw [List.getElem_set_self]
    exact World.cell?_setCell_same _ _ _ ((hd m).trans (cell_bw W q m hm))
  · rw [List.getElem_set_ne c]
    exact (World.cell?_setCell_other _ _ _ _ (by intro h; simp only [Addr.mk.injEq] at h; omega)).trans ((hd j).trans (cell_bw W q j hj))
theorem below_bd (W : World) (q : ByteArray) (m : Nat) (n : Nat) (z : Int) : Below W.heap.size W (((bw W q).drewN n).setCell ⟨W.heap.size, m, none⟩ (.int .u8 z)) := Below.setCell (pw_below_drewN (below_bw W q) n) (p := ⟨W.heap.size, m, none⟩) (Nat.le_refl _) _
theorem size_bd (W : World) (q : ByteArray) (m : Nat) (n : Nat) (z : Int) : W.heap.size < (((bw W q).drewN n).setCell ⟨W.heap.size, m, none⟩ (.int .u8 z)).heap.size := by
  have h1 : (((bw W q).drewN n).setCell ⟨W.heap.size, m, none⟩ (.int .u8 z)).heap.size = ((bw W q).drewN n).heap.size := by simp [World.setCell]
  have h2 := (pw_below_drewN (Below.refl 0 (bw W q)) n).size
  have h3 : (bw W q).heap.size = W.heap.size + 1 := Go.Lib.bytesWorld_size W _ q
  omega
abbrev Cl (V : World) (g : Nat) (q : ByteArray) (m : Nat) (b : UInt8) : Prop := ∀ (j : Nat) (hj : j < q.size), V.cell? ⟨g, j, none⟩ = some (.int .u8 (((D (bent q m b))[j]'(by rw [D_len, bent_size]; exact hj)).toNat : Int))
theorem str_at (V : World) (g : Nat) (q : ByteArray) (m : Nat) (b : UInt8) (hg : g < V.heap.size) (hc : Cl V g q m b) (W2 : World) (hB : Below V.heap.size V W2) (n : Nat) (hn : n ≤ q.size) (cap : Nat) :
    (convert 34 9 (.slice (some ⟨g, 0, none⟩) n cap)).run Try.prog W2 = .ok (.string ((bent q m b).extract 0 n)) W2 := by
  have hl : ((D (bent q m b)).take n).length = n := by rw [List.length_take, D_len, bent_size]; omega
  have h := run_convert_bytes_back (P := Try.prog) W2 34 9 5 ⟨g, 0, none⟩ cap ((D (bent q m b)).take n) Try.underlying34 Try.underlying5 Try.underlying9 (fun j hj => by
    rw [hl] at hj
    have e : (⟨g, 0, none⟩ : Addr).add j = ⟨g, j, none⟩ := by
      unfold Addr.add
      split
      · rename_i h0; rw [h0]
      · simp
    rw [e, hB.cell hg, hc j (by omega)]
    simp only [List.getElem_take])
  rw [hl] at h
  rw [h]
  congr 2
  exact D_inj (by rw [D_to])
theorem str_at_all (V : World) (g : Nat) (q : ByteArray) (m : Nat) (b : UInt8) (hg : g < V.heap.size) (hc : Cl V g q m b) (cap : Nat) :
    (convert 34 9 (.slice (some ⟨g, 0, none⟩) q.size cap)).run Try.prog V = .ok (.string (bent q m b)) V := by
  rw [str_at V g q m b hg hc V (Below.refl _ _) q.size (Nat.le_refl _) cap]
  congr 2
  exact D_inj (by rw [D_to, List.take_of_length_le]; rw [D_len, bent_size]; exact Nat.le_refl _)
theorem byte_of (z : Int) (h0 : 0 ≤ z) (h1 : z < 256) : ∃ b : UInt8, z = (b.toNat : Int) := ⟨UInt8.ofNat z.toNat, by rw [UInt8.toNat_ofNat']; omega⟩
end Go.Proofs.Ythnjgcdajjodjaa.Bnt2
