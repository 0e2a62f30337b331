/-
  LineTurns returns true for every input and leaves its arguments as they were: closed facts of the row. No condition.
-/
import Derived.Test.YtnlggiimgihmcaaDoorF2
import Derived.SevenTiedAt
namespace Go.Proofs.YtnlggiimgihmcaaDoor
open Go.ChangeShapes Go.WideShapes Go.ChangeAt Go.WideElems Go.RowKit
set_option maxRecDepth 100000
theorem lineTurns_named : Tryd.pinned.checked.prog.funcNamed Rows.lineTurnsRow.func = some 14 := by kernel_rfl
theorem lineTurns_closed : joinedFacts Tryd.pinned.checked.prog 14 Tryd.f14 Rows.lineTurnsSpec Rows.lineTurnsRow = true := by kernel_rfl
end Go.Proofs.YtnlggiimgihmcaaDoor
