/-
  LineRanks returns true for every input and leaves its arguments as they were: closed facts of the row. No condition.
-/
import Derived.Test.YtnlggiimgihmcaaDoorF2
import Derived.SevenTiedAt
namespace Go.Proofs.YtnlggiimgihmcaaDoor
open Go.ChangeShapes Go.WideShapes Go.ChangeAt Go.WideElems Go.RowKit
set_option maxRecDepth 100000
theorem lineRanks_named : Tryd.pinned.checked.prog.funcNamed Rows.lineRanksRow.func = some 8 := by kernel_rfl
theorem lineRanks_closed : joinedFacts Tryd.pinned.checked.prog 8 Tryd.f8 Rows.lineRanksSpec Rows.lineRanksRow = true := by kernel_rfl
end Go.Proofs.YtnlggiimgihmcaaDoor
