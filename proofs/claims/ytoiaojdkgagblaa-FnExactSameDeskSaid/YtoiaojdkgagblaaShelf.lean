import Derived.Shelf.Bits.Mul64
import Derived.Test.YtoiaojdkgagblaaProg
namespace Go.Proofs
open Go.Shelf
def Try.lays264_ren : Go.Shelf.Ren := ⟨fun | 264 => 211 | n => n, fun | 53 => 190 | 46 => 175 | n => n, fun | n => n⟩
def Try.lays212_ren : Go.Shelf.Ren := ⟨fun | 212 => 202 | 263 => 210 | 264 => 211 | n => n, fun | 46 => 175 | 51 => 218 | 146 => 227 | 53 => 190 | 148 => 229 | n => n, fun | n => n⟩
end Go.Proofs
