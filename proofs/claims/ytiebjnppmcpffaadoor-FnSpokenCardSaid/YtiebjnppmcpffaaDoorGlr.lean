/- The premise of the law ReadNumberWords: the tables of words, and that the cell of internal/bytealg.MaxLen holds a whole number. -/
import Derived.Test.YtiebjnppmcpffaaDoorGl
namespace Go.Proofs.YtiebjnppmcpffaaDoor
open Go.Lib Go.RowKit Go.Proofs.YtiebjnppmcpffaaDoorW.PrintWords
def mlAt (w : World) : Prop := ∃ m : Int, w.cell? ⟨2, 0, none⟩ = some (.int .i64 m)
theorem mlAt_below {w w' : World} (h : mlAt w) (hb : Below w.heap.size w w') : mlAt w' := let ⟨m, hm⟩ := h; ⟨m, (hb.cell (World.block_lt_of_cell? w _ hm)).trans hm⟩
def GLr (w : World) : Prop := GL w ∧ mlAt w
theorem GLr_below {w w' : World} (h : GLr w) (hb : Below w.heap.size w w') : GLr w' := ⟨GL_below h.1 hb, mlAt_below h.2 hb⟩
theorem GLr_alloc {w : World} (h : GLr w) (o : Obj) : GLr (w.alloc o) := GLr_below h (Below.alloc (Below.refl _ _) (Nat.le_refl _) o)
theorem GLr_drew {w : World} (h : GLr w) : GLr w.drew := GLr_below h (Below.drew (Below.refl _ _))
theorem GLr_drewN {w : World} (h : GLr w) (m : Nat) : GLr (w.drewN m) := GLr_below h (Go.Proofs.YtiebjnppmcpffaaDoorW.PrintWords.pw_below_drewN (Below.refl _ _) m)
theorem GLr_ml {w : World} (h : GLr w) : mlAt w := h.2
theorem GLr_nw {w : World} (h : GLr w) : GL w := h.1
end Go.Proofs.YtiebjnppmcpffaaDoor
