/-
  LineCircles returns true for every input and leaves its arguments as they were: the row. No condition.
-/
import Derived.Test.YtnlggiimgihmcaaDoorCirclesA
import Derived.Test.YtnlggiimgihmcaaDoorCirclesB
import Derived.SevenTiedAt
namespace Go.Proofs.YtnlggiimgihmcaaDoor
open Go.ChangeShapes Go.WideShapes Go.ChangeAt Go.WideElems Go.RowKit
set_option maxRecDepth 100000
theorem lineCircles_holds : Rows.LineCirclesSaid :=
  OpenClaim.holds_of_wide 10 Tryd.f10 rfl rfl rfl rfl rfl rfl rfl ⟨rfl, rfl, rfl, rfl, rfl⟩ rfl rfl rfl rfl rfl lineCircles_named Tryd.func10 lineCircles_closed
    (of_decide_eq_true (by kernel_rfl)) (by unfold Func.isWrapper; first | (rw [if_pos (by decide +kernel)]; kernel_rfl) | (rw [if_neg (by decide +kernel)]; exact ⟨rfl, rfl⟩))
    (fun os started H enc _ => lineCircles_lifted os started H enc)
end Go.Proofs.YtnlggiimgihmcaaDoor
