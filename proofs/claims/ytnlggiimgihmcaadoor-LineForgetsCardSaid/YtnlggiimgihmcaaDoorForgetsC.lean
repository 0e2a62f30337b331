/-
  LineForgets returns true for every input and leaves its arguments as they were: the row. No condition.
-/
import Derived.Test.YtnlggiimgihmcaaDoorForgetsA
import Derived.Test.YtnlggiimgihmcaaDoorForgetsB
import Derived.SevenTiedAt
namespace Go.Proofs.YtnlggiimgihmcaaDoor
open Go.ChangeShapes Go.WideShapes Go.ChangeAt Go.WideElems Go.RowKit
set_option maxRecDepth 100000
theorem lineForgets_holds : Rows.LineForgetsSaid :=
  OpenClaim.holds_of_wide 5 Tryd.f5 rfl rfl rfl rfl rfl rfl rfl ⟨rfl, rfl, rfl, rfl, rfl⟩ rfl rfl rfl rfl rfl lineForgets_named Tryd.func5 lineForgets_closed
    (of_decide_eq_true (by kernel_rfl)) (by unfold Func.isWrapper; first | (rw [if_pos (by decide +kernel)]; kernel_rfl) | (rw [if_neg (by decide +kernel)]; exact ⟨rfl, rfl⟩))
    (fun os started H enc _ => lineForgets_lifted os started H enc)
end Go.Proofs.YtnlggiimgihmcaaDoor
