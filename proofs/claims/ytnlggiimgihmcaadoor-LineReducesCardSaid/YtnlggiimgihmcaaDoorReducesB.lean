/-
  LineReduces returns true for every input and leaves its arguments as they were: closed facts of the row. No condition.
-/
import Derived.Test.YtnlggiimgihmcaaDoorF2
import Derived.SevenTiedAt
namespace Go.Proofs.YtnlggiimgihmcaaDoor
open Go.ChangeShapes Go.WideShapes Go.ChangeAt Go.WideElems Go.RowKit
set_option maxRecDepth 100000
theorem lineReduces_named : Tryd.pinned.checked.prog.funcNamed Rows.lineReducesRow.func = some 13 := by kernel_rfl
theorem lineReduces_closed : joinedFacts Tryd.pinned.checked.prog 13 Tryd.f13 Rows.lineReducesSpec Rows.lineReducesRow = true := by kernel_rfl
end Go.Proofs.YtnlggiimgihmcaaDoor
