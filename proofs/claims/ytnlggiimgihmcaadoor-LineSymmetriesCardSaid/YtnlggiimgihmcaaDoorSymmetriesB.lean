/-
  LineSymmetries returns true for every input and leaves its arguments as they were: closed facts of the row. No condition.
-/
import Derived.Test.YtnlggiimgihmcaaDoorF2
import Derived.SevenTiedAt
namespace Go.Proofs.YtnlggiimgihmcaaDoor
open Go.ChangeShapes Go.WideShapes Go.ChangeAt Go.WideElems Go.RowKit
set_option maxRecDepth 100000
theorem lineSymmetries_named : Tryd.pinned.checked.prog.funcNamed Rows.lineSymmetriesRow.func = some 15 := by kernel_rfl
theorem lineSymmetries_closed : joinedFacts Tryd.pinned.checked.prog 15 Tryd.f15 Rows.lineSymmetriesSpec Rows.lineSymmetriesRow = true := by kernel_rfl
end Go.Proofs.YtnlggiimgihmcaaDoor
