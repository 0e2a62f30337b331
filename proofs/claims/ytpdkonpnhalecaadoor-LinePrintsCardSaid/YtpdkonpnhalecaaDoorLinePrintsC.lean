/-
  LinePrints returns true for every input and leaves its arguments as they were: the row. No condition.
-/
import Derived.Test.YtpdkonpnhalecaaDoorLinePrintsA
import Derived.Test.YtpdkonpnhalecaaDoorLinePrintsB
import Derived.SevenTiedAt
namespace Go.Proofs.YtpdkonpnhalecaaDoor
open Go.ChangeShapes Go.WideShapes Go.ChangeAt Go.WideElems Go.RowKit
set_option maxRecDepth 100000
theorem linePrints_holds : Rows.LinePrintsSaid :=
  OpenClaim.holds_of_wide 4 Tryd.f4 rfl rfl rfl rfl rfl rfl rfl ⟨rfl, rfl, rfl, rfl, rfl⟩ rfl rfl rfl rfl rfl linePrints_named Tryd.func4 linePrints_closed
    (of_decide_eq_true (by kernel_rfl)) (by unfold Func.isWrapper; first | (rw [if_pos (by decide +kernel)]; kernel_rfl) | (rw [if_neg (by decide +kernel)]; exact ⟨rfl, rfl⟩))
    (fun os started H enc _ => linePrints_lifted os started H enc)
end Go.Proofs.YtpdkonpnhalecaaDoor
