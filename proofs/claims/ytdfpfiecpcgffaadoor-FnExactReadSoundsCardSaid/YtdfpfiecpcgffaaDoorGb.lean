import Derived.Test.YtdfpfiecpcgffaaDoorShelf
import Derived.Test.YtdfpfiecpcgffaaDoorWWords
import Derived.Lib.LaidU8
import Derived.Below
import Derived.Sort.Grow
namespace Go.Proofs.YtdfpfiecpcgffaaDoor
open Go.Lib Go.RowKit Go.Sort Go.Proofs.YtdfpfiecpcgffaaDoorW.PrintWords
theorem var?_below {P : Program} {w w' : World} {n : String} {cs : Array Value} (h : w.var? P n = some cs) (hb : Below w.heap.size w w') : w'.var? P n = some cs := by
  unfold World.var? at h ⊢
  cases hg : P.globalNamed n with
  | none => rw [hg] at h; cases h
  | some g =>
    rw [hg] at h
    simp only [Option.bind_some] at h ⊢
    have hl : g < w.heap.size := by
      cases hh : w.heap[g]? with
      | none => rw [hh] at h; cases h
      | some o => exact (Array.getElem?_eq_some_iff.1 hh).1
    rw [hb.block g hl]; exact h
theorem below_grow {B : Nat} {a w : World} (h : Below B a w) (hB : B ≤ w.heap.size) (os : Array Obj) : Below B a (grow w os) :=
  h.trans ⟨rfl, rfl, rfl, by show w.heap.size ≤ (w.heap ++ os).size; rw [Array.size_append]; omega, fun k hk => by show (w.heap ++ os)[k]? = _; rw [Array.getElem?_append_left (by omega)]⟩
def decTab (w : World) : Prop := Lib.TabIs Tryd.prog w "internal/strconv.uint64pow10" .u64 Lib.pow10Tab
theorem decTab_below {w w' : World} (h : decTab w) (hb : Below w.heap.size w w') : decTab w' := var?_below h hb
def errAt (n : String) (w : World) : Prop := ∃ tp p, w.var? Tryd.prog n = some #[.iface tp p]
theorem errAt_below {n : String} {w w' : World} (h : errAt n w) (hb : Below w.heap.size w w') : errAt n w' := let ⟨tp, p, hm⟩ := h; ⟨tp, p, var?_below hm hb⟩
end Go.Proofs.YtdfpfiecpcgffaaDoor
