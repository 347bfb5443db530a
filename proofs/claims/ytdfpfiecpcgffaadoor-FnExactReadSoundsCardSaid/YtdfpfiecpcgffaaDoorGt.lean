import Derived.Test.YtdfpfiecpcgffaaDoorFi
namespace Go.Proofs.YtdfpfiecpcgffaaDoor
open Go.RowKit Go.Proofs.YtdfpfiecpcgffaaDoorW.PrintWords Go.Proofs.YtdfpfiecpcgffaaDoorW.PrintLast Go.Proofs.YtdfpfiecpcgffaaDoorW.PrintMore
def GLt (w : World) : Prop := GLh w ∧ errAt "strconv.ErrSyntax" w
theorem GLt_below {w w' : World} (h : GLt w) (hb : Below w.heap.size w w') : GLt w' := ⟨GLh_below h.1 hb, errAt_below h.2 hb⟩
theorem GLt_alloc {w : World} (h : GLt w) (o : Obj) : GLt (w.alloc o) := GLt_below h (Below.alloc (Below.refl _ _) (Nat.le_refl _) o)
theorem GLt_drew {w : World} (h : GLt w) : GLt w.drew := GLt_below h (Below.drew (Below.refl _ _))
theorem GLt_drewN {w : World} (h : GLt w) (m : Nat) : GLt (w.drewN m) := GLt_below h (pw_below_drewN (Below.refl _ _) m)
theorem GLt_tab {w : World} (h : GLt w) : dbAt w := GLh_tab h.1
theorem GLt_es {w : World} (h : GLt w) : errAt "strconv.ErrSyntax" w := h.2
end Go.Proofs.YtdfpfiecpcgffaaDoor
