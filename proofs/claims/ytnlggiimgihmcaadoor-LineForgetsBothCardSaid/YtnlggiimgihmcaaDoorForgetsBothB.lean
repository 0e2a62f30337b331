/-
  LineForgetsBoth returns true for every input and leaves its arguments as they were: closed facts of the row. No condition.
-/
import Derived.Test.YtnlggiimgihmcaaDoorF2
import Derived.SevenTiedAt
namespace Go.Proofs.YtnlggiimgihmcaaDoor
open Go.ChangeShapes Go.WideShapes Go.ChangeAt Go.WideElems Go.RowKit
set_option maxRecDepth 100000
theorem lineForgetsBoth_named : Tryd.pinned.checked.prog.funcNamed Rows.lineForgetsBothRow.func = some 6 := by kernel_rfl
theorem lineForgetsBoth_closed : joinedFacts Tryd.pinned.checked.prog 6 Tryd.f6 Rows.lineForgetsBothSpec Rows.lineForgetsBothRow = true := by kernel_rfl
end Go.Proofs.YtnlggiimgihmcaaDoor
