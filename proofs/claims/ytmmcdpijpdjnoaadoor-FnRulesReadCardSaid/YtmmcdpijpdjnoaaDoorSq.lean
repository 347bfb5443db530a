import Derived.Test.YtmmcdpijpdjnoaaDoorWWords
import Derived.Below
import Derived.Test.YtmmcdpijpdjnoaaDoorFp
namespace Go.Proofs.YtmmcdpijpdjnoaaDoorW.PrintFl
open Go.RowKit Go.Proofs.YtmmcdpijpdjnoaaDoorW.PrintWords
theorem cu {w w1 : World} {a : Addr} {v : Value} (hb : Below w.heap.size w w1) (h : w.cell? a = some v) : w1.cell? a = some v := (hb.cell (World.block_lt_of_cell? w _ h)).trans h
theorem cv {w w1 : World} {a : Addr} {v : Value} {n : Nat} (hb : Below w.heap.size w w1) (h : w.cell? a = some v) : (w1.drewN n).cell? a = some v := by
  have hc := cu hb h
  exact hc
theorem cw {w w1 : World} {a : Addr} {v : Value} {n m : Nat} (hb : Below w.heap.size w w1) (h : w.cell? a = some v) : ((w1.drewN n).drewN m).cell? a = some v := by
  have hc := cu hb h
  exact hc
theorem cx {w w1 : World} {a : Addr} {v : Value} {n m q : Nat} (hb : Below w.heap.size w w1) (h : w.cell? a = some v) : (((w1.drewN n).drewN m).drewN q).cell? a = some v := by
  have hc := cu hb h
  exact hc
namespace Kd
open Go.Proofs.YtmmcdpijpdjnoaaDoorW.PrintWords.Kd
theorem C_one_at {α : Type} {d : Kd α} {w : World} {g off : Nat} {cs : Array Value} {T : TypeId} {x : α} {ds : List Value} (h : w.heap[g]? = some (.cells cs T (0, 0))) (hk : d.K w x ds) (hd : ∀ i u, ds[i]? = some u → cs[off + i]? = some u) : d.C w (some ⟨g, off, none⟩) [x].length [x] := by
  refine ⟨rfl, by show 1 ≤ _; decide, fun _ => ⟨_, rfl, fun j p hj => ?_⟩⟩
  cases j with
  | zero =>
    obtain rfl : x = p := by simpa using hj
    refine ⟨ds, d.K_len hk, hk, fun i u hu => ?_⟩
    have : (Addr.mk g off none).add (0 * d.sz + i) = ⟨g, off + i, none⟩ := by
      unfold Addr.add
      by_cases c : i = 0 <;> simp [c]
    rw [this, blk_cell h (off + i)]
    exact hd i u hu
  | succ j => simp at hj
end Kd
end Go.Proofs.YtmmcdpijpdjnoaaDoorW.PrintFl
