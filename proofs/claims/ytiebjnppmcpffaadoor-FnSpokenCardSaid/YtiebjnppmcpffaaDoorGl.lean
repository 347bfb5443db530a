/- Tables of strings among the package's variables: what the world holds where a law starts. -/
import Derived.Test.YtiebjnppmcpffaaDoorWWords
import Derived.Lib.LaidU8
import Derived.Below
namespace Go.Proofs.YtiebjnppmcpffaaDoor
open Go.Lib Go.RowKit Go.Proofs.YtiebjnppmcpffaaDoorW.PrintWords
/-- at block g stand these strings -/
def tabAt (g : Nat) (ss : List ByteArray) (w : World) : Prop := ∀ (i : Nat) (h : i < ss.length), w.cell? ⟨g, i, none⟩ = some (.string (ss[i]'h))
theorem tabAt_of_reads {P : Program} {w : World} {n : String} {g t e N : Nat} {ss : List ByteArray} (hn : P.globalNamed n = some g) (hy : (P.globals[g]?).map (·.type) = some t) (ht : P.underlying t = some (.array N e))
    (he : P.underlying e = some .string) (hc : P.cellsOf e = 1) (hN : ss.length = N) (h : VarReads P w n (.agg (ss.map fun s => .lit (.string s.data.toList)))) : tabAt g ss w := by
  intro i hi
  obtain ⟨g', t', cs, fuel, p, hg, hty, hvar, hd⟩ := h
  obtain rfl := Option.some.inj (hn.symm.trans hg)
  obtain rfl := Option.some.inj (hy.symm.trans hty)
  obtain ⟨f', d, q, hds, hq⟩ := array_elem ht hd i (by omega)
  rw [hc, Nat.mul_one] at hq
  obtain ⟨s, hcs, hd2, _⟩ := DataW.trod_string he hq
  have h1 : (ss.map fun s => (DataW.lit (.string s.data.toList) : DataW Unit))[i]? = some (.lit (.string (ss[i]'hi).data.toList)) := by
    rw [List.getElem?_map, List.getElem?_eq_getElem hi]; rfl
  rw [h1] at hds
  have := World.var?_cell hg hvar i
  rw [this, ← Array.getElem?_toList]
  have h2 : cs.toList[i]? = some (.string s) := by
    have := congrArg (·[0]?) hcs
    simpa [List.getElem?_take, List.getElem?_drop] using this
  have h3 : s = ss[i]'hi := by
    have e := Option.some.inj hds
    rw [(Prod.mk.inj hd2).1] at e
    have e1 : (ss[i]'hi).data.toList = s.data.toList := by injection e with e; injection e with e
    exact (ByteArray.ext (Array.toList_inj.1 e1)).symm
  rw [h2, h3]
theorem tabAt_below {g : Nat} {ss : List ByteArray} {w w' : World} (h : tabAt g ss w) (hb : Below w.heap.size w w') : tabAt g ss w' := fun i hi => (hb.cell (p := ⟨g, i, none⟩) (World.block_lt_of_cell? w _ (h i hi))).trans (h i hi)
def smallL : List ByteArray := [[122, 101, 114, 111], [111, 110, 101], [116, 119, 111], [116, 104, 114, 101, 101], [102, 111, 117, 114], [102, 105, 118, 101], [115, 105, 120], [115, 101, 118, 101, 110], [101, 105, 103, 104, 116], [110, 105, 110, 101], [116, 101, 110], [101, 108, 101, 118, 101, 110], [116, 119, 101, 108, 118, 101], [116, 104, 105, 114, 116, 101, 101, 110], [102, 111, 117, 114, 116, 101, 101, 110], [102, 105, 102, 116, 101, 101, 110], [115, 105, 120, 116, 101, 101, 110], [115, 101, 118, 101, 110, 116, 101, 101, 110], [101, 105, 103, 104, 116, 101, 101, 110], [110, 105, 110, 101, 116, 101, 101, 110]].map fun l => (⟨⟨l⟩⟩ : ByteArray)
def tenL : List ByteArray := [[], [], [116, 119, 101, 110, 116, 121], [116, 104, 105, 114, 116, 121], [102, 111, 114, 116, 121], [102, 105, 102, 116, 121], [115, 105, 120, 116, 121], [115, 101, 118, 101, 110, 116, 121], [101, 105, 103, 104, 116, 121], [110, 105, 110, 101, 116, 121]].map fun l => (⟨⟨l⟩⟩ : ByteArray)
/-- the tables of the words of numbers -/
def GL (w : World) : Prop := tabAt 0 smallL w ∧ tabAt 1 tenL w
theorem GL_nw {w : World} (h : GL w) : GL w := h
theorem GL_below {w w' : World} (h : GL w) (hb : Below w.heap.size w w') : GL w' := ⟨tabAt_below h.1 hb, tabAt_below h.2 hb⟩
theorem GL_alloc {w : World} (h : GL w) (o : Obj) : GL (w.alloc o) := GL_below h (Below.alloc (Below.refl _ _) (Nat.le_refl _) o)
theorem GL_drew {w : World} (h : GL w) : GL w.drew := GL_below h (Below.drew (Below.refl _ _))
theorem GL_drewN {w : World} (h : GL w) (m : Nat) : GL (w.drewN m) := GL_below h (Go.Proofs.YtiebjnppmcpffaaDoorW.PrintWords.pw_below_drewN (Below.refl _ _) m)
theorem tab_rd {g : Nat} {ss : List ByteArray} {w : World} (h : tabAt g ss w) (n : Int) (h0 : 0 ≤ n) (h1 : n < (ss.length : Int)) : w.cell? ⟨g, n.toNat, none⟩ = some (.string (rdOf ByteArray.empty ss n)) := by
  have hn : n.toNat < ss.length := by omega
  rw [h n.toNat hn]
  unfold rdOf
  rw [List.getD_eq_getElem?_getD, List.getElem?_eq_getElem hn]; rfl
theorem trodVars_len {H : Type} {enc : TypeId × Value → H} {P : Program} {w : World} {sp : Nat → Bool} : ∀ {ns : List String} {gs : List (DataW H)} {ps : List MemPlace}, DataW.TrodVars enc P w sp ns gs ps → gs.length = ns.length
  | [], [], _, _ => rfl
  | [], _ :: _, _, h => h.elim
  | _ :: _, [], _, h => h.elim
  | n :: ns, d :: ds, ps, h => by
    obtain ⟨g, t, cs, fuel, p, q, h1, h2, h3, h4, hs, e⟩ := h
    have := trodVars_len hs
    simp [this]
end Go.Proofs.YtiebjnppmcpffaaDoor
