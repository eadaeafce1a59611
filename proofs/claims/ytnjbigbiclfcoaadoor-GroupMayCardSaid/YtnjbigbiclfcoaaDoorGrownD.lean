/- Draws alone leave the memory as it was; the table of bits as it is listed. -/
import Derived.Test.YtnjbigbiclfcoaaDoorModP
import Derived.Test.YtnjbigbiclfcoaaDoorOpen
import Derived.ProofKit
namespace Go.Proofs.YtnjbigbiclfcoaaDoor
open Go.RowKit
theorem grown_drewN (w : World) : ∀ n, Grown w (w.drewN n)
  | 0 => Grown.refl w
  | n + 1 => (grown_drewN w n).drew
def tabL : List Int := [0, 1, 56, 2, 57, 49, 28, 3, 61, 58, 42, 50, 38, 29, 17, 4, 62, 47, 59, 36, 45, 43, 51, 22, 53, 39, 33, 30, 24, 18, 12, 5, 63, 55, 48, 27, 60, 41, 37, 16, 46, 35, 44, 21, 52, 32, 23, 11, 54, 26, 40, 15, 34, 20, 31, 10, 25, 14, 19, 9, 13, 8, 7, 6]
theorem tabZ' : ∀ j, j < 64 → tabL.getD j 0 = ((Lib.deBruijn64tab.getD j 0 : Nat) : Int) := by decide
theorem tabZ (j : Nat) (hj : j < Lib.deBruijn64tab.length) : tabL.getD j 0 = ((Lib.deBruijn64tab.getD j 0 : Nat) : Int) := tabZ' j hj
/-- What an initialiser lays into a variable's block. -/
def layCells (cs : Array Value) : Obj → Obj
  | .cells _ t f => .cells cs t f
  | o => o
end Go.Proofs.YtnjbigbiclfcoaaDoor
