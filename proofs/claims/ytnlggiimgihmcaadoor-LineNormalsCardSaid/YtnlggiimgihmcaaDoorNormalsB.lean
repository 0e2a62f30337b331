/-
  LineNormals returns true for every input and leaves its arguments as they were: closed facts of the row. No condition.
-/
import Derived.Test.YtnlggiimgihmcaaDoorF2
import Derived.SevenTiedAt
namespace Go.Proofs.YtnlggiimgihmcaaDoor
open Go.ChangeShapes Go.WideShapes Go.ChangeAt Go.WideElems Go.RowKit
set_option maxRecDepth 100000
theorem lineNormals_named : Tryd.pinned.checked.prog.funcNamed Rows.lineNormalsRow.func = some 4 := by kernel_rfl
theorem lineNormals_closed : joinedFacts Tryd.pinned.checked.prog 4 Tryd.f4 Rows.lineNormalsSpec Rows.lineNormalsRow = true := by kernel_rfl
end Go.Proofs.YtnlggiimgihmcaaDoor
