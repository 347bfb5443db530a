import Derived.Test.YtdfpfiecpcgffaaDoorGc
import Derived.Test.YtdfpfiecpcgffaaDoorFi
namespace Go.Proofs.YtdfpfiecpcgffaaDoor
open Go.Lib Go.RowKit
def db64 : List Int := [0, 1, 56, 2, 57, 49, 28, 3, 61, 58, 42, 50, 38, 29, 17, 4, 62, 47, 59, 36, 45, 43, 51, 22, 53, 39, 33, 30, 24, 18, 12, 5, 63, 55, 48, 27, 60, 41, 37, 16, 46, 35, 44, 21, 52, 32, 23, 11, 54, 26, 40, 15, 34, 20, 31, 10, 25, 14, 19, 9, 13, 8, 7, 6]
theorem dbAt_of_tab {w : World} (h : TabIs Tryd.prog w "math/bits.deBruijn64tab" .u8 db64) : dbAt w := h.cell (g := 8) (by kernel_rfl) 15 (by decide)
end Go.Proofs.YtdfpfiecpcgffaaDoor
