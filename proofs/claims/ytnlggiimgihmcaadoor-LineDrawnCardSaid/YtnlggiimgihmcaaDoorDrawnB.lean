/-
  LineDrawn returns true for every input and leaves its arguments as they were: closed facts of the row. No condition.
-/
import Derived.Test.YtnlggiimgihmcaaDoorF2
import Derived.SevenTiedAt
namespace Go.Proofs.YtnlggiimgihmcaaDoor
open Go.ChangeShapes Go.WideShapes Go.ChangeAt Go.WideElems Go.RowKit
set_option maxRecDepth 100000
theorem lineDrawn_named : Tryd.pinned.checked.prog.funcNamed Rows.lineDrawnRow.func = some 11 := by kernel_rfl
theorem lineDrawn_closed : joinedFacts Tryd.pinned.checked.prog 11 Tryd.f11 Rows.lineDrawnSpec Rows.lineDrawnRow = true := by kernel_rfl
end Go.Proofs.YtnlggiimgihmcaaDoor
