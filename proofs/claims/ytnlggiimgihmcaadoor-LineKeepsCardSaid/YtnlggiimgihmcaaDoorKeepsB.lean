/-
  LineKeeps returns true for every input and leaves its arguments as they were: closed facts of the row. No condition.
-/
import Derived.Test.YtnlggiimgihmcaaDoorF2
import Derived.SevenTiedAt
namespace Go.Proofs.YtnlggiimgihmcaaDoor
open Go.ChangeShapes Go.WideShapes Go.ChangeAt Go.WideElems Go.RowKit
set_option maxRecDepth 100000
theorem lineKeeps_named : Tryd.pinned.checked.prog.funcNamed Rows.lineKeepsRow.func = some 9 := by kernel_rfl
theorem lineKeeps_closed : joinedFacts Tryd.pinned.checked.prog 9 Tryd.f9 Rows.lineKeepsSpec Rows.lineKeepsRow = true := by kernel_rfl
end Go.Proofs.YtnlggiimgihmcaaDoor
