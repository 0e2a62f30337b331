/-
  LineCircles returns true for every input and leaves its arguments as they were: closed facts of the row. No condition.
-/
import Derived.Test.YtnlggiimgihmcaaDoorF2
import Derived.SevenTiedAt
namespace Go.Proofs.YtnlggiimgihmcaaDoor
open Go.ChangeShapes Go.WideShapes Go.ChangeAt Go.WideElems Go.RowKit
set_option maxRecDepth 100000
theorem lineCircles_named : Tryd.pinned.checked.prog.funcNamed Rows.lineCirclesRow.func = some 10 := by kernel_rfl
theorem lineCircles_closed : joinedFacts Tryd.pinned.checked.prog 10 Tryd.f10 Rows.lineCirclesSpec Rows.lineCirclesRow = true := by kernel_rfl
end Go.Proofs.YtnlggiimgihmcaaDoor
