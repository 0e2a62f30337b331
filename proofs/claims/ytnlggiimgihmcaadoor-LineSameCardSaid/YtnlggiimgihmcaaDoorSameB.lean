/-
  LineSame returns true for every input and leaves its arguments as they were: closed facts of the row. No condition.
-/
import Derived.Test.YtnlggiimgihmcaaDoorF2
import Derived.SevenTiedAt
namespace Go.Proofs.YtnlggiimgihmcaaDoor
open Go.ChangeShapes Go.WideShapes Go.ChangeAt Go.WideElems Go.RowKit
set_option maxRecDepth 100000
theorem lineSame_named : Tryd.pinned.checked.prog.funcNamed Rows.lineSameRow.func = some 12 := by kernel_rfl
theorem lineSame_closed : joinedFacts Tryd.pinned.checked.prog 12 Tryd.f12 Rows.lineSameSpec Rows.lineSameRow = true := by kernel_rfl
end Go.Proofs.YtnlggiimgihmcaaDoor
