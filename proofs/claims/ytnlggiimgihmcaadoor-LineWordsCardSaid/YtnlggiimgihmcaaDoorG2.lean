/-
  Closed facts of the row of LineWords. No condition.
-/
import Derived.Test.YtnlggiimgihmcaaDoorF2
import Derived.SevenTiedAt
namespace Go.Proofs.YtnlggiimgihmcaaDoor
open Go.ChangeShapes Go.WideShapes Go.ChangeAt Go.WideElems Go.RowKit
set_option maxRecDepth 100000
theorem lineWords_named : Tryd.pinned.checked.prog.funcNamed Rows.lineWordsRow.func = some 3 := by kernel_rfl
theorem lineWords_row : 3 < Tryd.prog.funcs.size := of_decide_eq_true (by kernel_rfl)
theorem lineWords_closed : joinedFacts Tryd.pinned.checked.prog 3 Tryd.f3 Rows.lineWordsSpec Rows.lineWordsRow = true := by kernel_rfl
end Go.Proofs.YtnlggiimgihmcaaDoor
