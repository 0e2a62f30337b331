/-
  LineDrawn returns true for every input and leaves its arguments as they were: the row. No condition.
-/
import Derived.Test.YtnlggiimgihmcaaDoorDrawnA
import Derived.Test.YtnlggiimgihmcaaDoorDrawnB
import Derived.SevenTiedAt
namespace Go.Proofs.YtnlggiimgihmcaaDoor
open Go.ChangeShapes Go.WideShapes Go.ChangeAt Go.WideElems Go.RowKit
set_option maxRecDepth 100000
theorem lineDrawn_holds : Rows.LineDrawnSaid :=
  OpenClaim.holds_of_wide 11 Tryd.f11 rfl rfl rfl rfl rfl rfl rfl ⟨rfl, rfl, rfl, rfl, rfl⟩ rfl rfl rfl rfl rfl lineDrawn_named Tryd.func11 lineDrawn_closed
    (of_decide_eq_true (by kernel_rfl)) (by unfold Func.isWrapper; first | (rw [if_pos (by decide +kernel)]; kernel_rfl) | (rw [if_neg (by decide +kernel)]; exact ⟨rfl, rfl⟩))
    (fun os started H enc _ => lineDrawn_lifted os started H enc)
end Go.Proofs.YtnlggiimgihmcaaDoor
