/- The premise of the laws of journals: the powers of ten. -/
import Derived.Test.YtbojmdjghfhmbaaDoorGb
namespace Go.Proofs.YtbojmdjghfhmbaaDoor
open Go.Lib Go.RowKit Go.Proofs.YtbojmdjghfhmbaaDoorW.PrintWords
def GLd (w : World) : Prop := decTab w
theorem GLd_below {w w' : World} (h : GLd w) (hb : Below w.heap.size w w') : GLd w' := decTab_below h hb
theorem GLd_alloc {w : World} (h : GLd w) (o : Obj) : GLd (w.alloc o) := GLd_below h (Below.alloc (Below.refl _ _) (Nat.le_refl _) o)
theorem GLd_drew {w : World} (h : GLd w) : GLd w.drew := GLd_below h (Below.drew (Below.refl _ _))
theorem GLd_drewN {w : World} (h : GLd w) (m : Nat) : GLd (w.drewN m) := GLd_below h (pw_below_drewN (Below.refl _ _) m)
theorem GLd_dec {w : World} (h : GLd w) : decTab w := h
end Go.Proofs.YtbojmdjghfhmbaaDoor
