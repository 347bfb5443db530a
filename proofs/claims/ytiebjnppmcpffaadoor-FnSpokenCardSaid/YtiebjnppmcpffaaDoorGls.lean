/- The premise of the laws Spoken and SpeakNumbers: the tables of words, the cell of MaxLen, the powers of ten, the errors of strconv. -/
import Derived.Test.YtiebjnppmcpffaaDoorGlr
import Derived.Test.YtiebjnppmcpffaaDoorGb
namespace Go.Proofs.YtiebjnppmcpffaaDoor
open Go.Lib Go.RowKit Go.Proofs.YtiebjnppmcpffaaDoorW.PrintWords
def GLs (w : World) : Prop := GLr w ∧ decTab w ∧ errAt "strconv.ErrSyntax" w ∧ errAt "strconv.ErrRange" w
theorem GLs_below {w w' : World} (h : GLs w) (hb : Below w.heap.size w w') : GLs w' := ⟨GLr_below h.1 hb, decTab_below h.2.1 hb, errAt_below h.2.2.1 hb, errAt_below h.2.2.2 hb⟩
theorem GLs_alloc {w : World} (h : GLs w) (o : Obj) : GLs (w.alloc o) := GLs_below h (Below.alloc (Below.refl _ _) (Nat.le_refl _) o)
theorem GLs_drew {w : World} (h : GLs w) : GLs w.drew := GLs_below h (Below.drew (Below.refl _ _))
theorem GLs_drewN {w : World} (h : GLs w) (m : Nat) : GLs (w.drewN m) := GLs_below h (pw_below_drewN (Below.refl _ _) m)
theorem GLs_ml {w : World} (h : GLs w) : mlAt w := h.1.2
theorem GLs_nw {w : World} (h : GLs w) : GL w := h.1.1
theorem GLs_dec {w : World} (h : GLs w) : decTab w := h.2.1
theorem GLs_es {w : World} (h : GLs w) : errAt "strconv.ErrSyntax" w := h.2.2.1
theorem GLs_er {w : World} (h : GLs w) : errAt "strconv.ErrRange" w := h.2.2.2
end Go.Proofs.YtiebjnppmcpffaaDoor
