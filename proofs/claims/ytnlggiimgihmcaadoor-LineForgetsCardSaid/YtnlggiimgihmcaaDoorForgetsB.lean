/-
  LineForgets returns true for every input and leaves its arguments as they were: closed facts of the row. No condition.
-/
import Derived.Test.YtnlggiimgihmcaaDoorF2
import Derived.SevenTiedAt
namespace Go.Proofs.YtnlggiimgihmcaaDoor
open Go.ChangeShapes Go.WideShapes Go.ChangeAt Go.WideElems Go.RowKit
set_option maxRecDepth 100000
theorem lineForgets_named : Tryd.pinned.checked.prog.funcNamed Rows.lineForgetsRow.func = some 5 := by kernel_rfl
theorem lineForgets_closed : joinedFacts Tryd.pinned.checked.prog 5 Tryd.f5 Rows.lineForgetsSpec Rows.lineForgetsRow = true := by kernel_rfl
end Go.Proofs.YtnlggiimgihmcaaDoor
