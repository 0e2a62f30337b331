/-
  LineWords returns true for every input and leaves its arguments as they were: the row and its tied card. No condition.
-/
import Derived.Test.YtnlggiimgihmcaaDoorG1
import Derived.Test.YtnlggiimgihmcaaDoorG2
import Derived.SevenTiedAt
namespace Go.Proofs.YtnlggiimgihmcaaDoor
open Go.ChangeShapes Go.WideShapes Go.ChangeAt Go.WideElems Go.RowKit
set_option maxRecDepth 100000
theorem lineWords_holds : Rows.LineWordsSaid :=
  OpenClaim.holds_of_wide 3 Tryd.f3 rfl rfl rfl rfl rfl rfl rfl ⟨rfl, rfl, rfl, rfl, rfl⟩ rfl rfl rfl rfl rfl lineWords_named Tryd.func3 lineWords_closed
    (of_decide_eq_true (by kernel_rfl)) (by unfold Func.isWrapper; first | (rw [if_pos (by decide +kernel)]; kernel_rfl) | (rw [if_neg (by decide +kernel)]; exact ⟨rfl, rfl⟩))
    (fun os started H enc _ => lineWords_lifted os started H enc)
end Go.Proofs.YtnlggiimgihmcaaDoor
