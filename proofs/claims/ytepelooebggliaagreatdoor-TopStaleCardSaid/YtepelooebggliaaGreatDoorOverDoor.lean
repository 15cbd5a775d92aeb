/- A world that meets the rows' condition: the settled one, the library's tables laid. -/
import Derived.Test.YtepelooebggliaaGreatDoorRows
import Derived.ProofKit
import Derived.LaidLaws
import Derived.LaidHandle
import Derived.MakeChecks
namespace Go.Proofs.YtepelooebggliaaGreatDoor
open Go.ChangeShapes Go.WideShapes Go.ChangeAt Go.RowKit
abbrev laid : List (String × DataW Unit) := [("math/bits.deBruijn32tab", Rows.laid_math_bits_deBruijn32tab), ("math/bits.deBruijn64tab", Rows.laid_math_bits_deBruijn64tab), ("internal/strconv.uint64pow10", Rows.laid_internal_strconv_uint64pow10), ("unicode/utf8.acceptRanges", Rows.laid_unicode_utf8_acceptRanges), ("unicode/utf8.first", Rows.laid_unicode_utf8_first)]
def litV : DataW Unit → Value
  | .lit (.int k n) => .int k n
  | _ => undef
def partV : DataW Unit → List Value
  | .agg ps => ps.map litV
  | d => [litV d]
def cellsD : DataW Unit → Array Value
  | .agg ps => (ps.flatMap partV).toArray
  | _ => #[]
def layD (d : DataW Unit) : Obj → Obj
  | .cells _ t frozen => .cells (cellsD d) t frozen
  | o => o
noncomputable def laidWorld (os : Os) : World :=
  let w0 := World.holding Tryz.prog os ⟨#[], #[], []⟩
  { w0 with heap := ((((w0.heap.modify 4 (layD Rows.laid_math_bits_deBruijn32tab)).modify 5 (layD Rows.laid_math_bits_deBruijn64tab)).modify 0 (layD Rows.laid_internal_strconv_uint64pow10)).modify 3 (layD Rows.laid_unicode_utf8_acceptRanges)).modify 2 (layD Rows.laid_unicode_utf8_first) }
theorem laidWorld_met (os : Os) (args : Array Value) : laidMetH Tryz.prog laid ((laidWorld os).forCall (fun _ _ => 0) ⟨#[], args, []⟩).memory := by
  rw [MakeChecks.laidMetH_plain _ _ _ (by kernel_rfl)]
  exact laidMet_of_run' 8 (by kernel_rfl) (by kernel_rfl)
end Go.Proofs.YtepelooebggliaaGreatDoor
