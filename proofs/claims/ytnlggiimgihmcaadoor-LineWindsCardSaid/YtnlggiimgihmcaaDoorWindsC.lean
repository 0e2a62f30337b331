/-
  LineWinds returns true for every input and leaves its arguments as they were: the row. No condition.
-/
import Derived.Test.YtnlggiimgihmcaaDoorWindsA
import Derived.Test.YtnlggiimgihmcaaDoorWindsB
import Derived.SevenTiedAt
namespace Go.Proofs.YtnlggiimgihmcaaDoor
open Go.ChangeShapes Go.WideShapes Go.ChangeAt Go.WideElems Go.RowKit
set_option maxRecDepth 100000
theorem lineWinds_holds : Rows.LineWindsSaid :=
  OpenClaim.holds_of_wide 7 Tryd.f7 rfl rfl rfl rfl rfl rfl rfl ⟨rfl, rfl, rfl, rfl, rfl⟩ rfl rfl rfl rfl rfl lineWinds_named Tryd.func7 lineWinds_closed
    (of_decide_eq_true (by kernel_rfl)) (by unfold Func.isWrapper; first | (rw [if_pos (by decide +kernel)]; kernel_rfl) | (rw [if_neg (by decide +kernel)]; exact ⟨rfl, rfl⟩))
    (fun os started H enc _ => lineWinds_lifted os started H enc)
end Go.Proofs.YtnlggiimgihmcaaDoor
