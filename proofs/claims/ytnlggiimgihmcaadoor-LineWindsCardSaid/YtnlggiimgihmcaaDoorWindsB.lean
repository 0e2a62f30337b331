/-
  LineWinds returns true for every input and leaves its arguments as they were: closed facts of the row. No condition.
-/
import Derived.Test.YtnlggiimgihmcaaDoorF2
import Derived.SevenTiedAt
namespace Go.Proofs.YtnlggiimgihmcaaDoor
open Go.ChangeShapes Go.WideShapes Go.ChangeAt Go.WideElems Go.RowKit
set_option maxRecDepth 100000
theorem lineWinds_named : Tryd.pinned.checked.prog.funcNamed Rows.lineWindsRow.func = some 7 := by kernel_rfl
theorem lineWinds_closed : joinedFacts Tryd.pinned.checked.prog 7 Tryd.f7 Rows.lineWindsSpec Rows.lineWindsRow = true := by kernel_rfl
end Go.Proofs.YtnlggiimgihmcaaDoor
