/-
  LineTurns returns true for every input and leaves its arguments as they were: the row. No condition.
-/
import Derived.Test.YtnlggiimgihmcaaDoorTurnsA
import Derived.Test.YtnlggiimgihmcaaDoorTurnsB
import Derived.SevenTiedAt
namespace Go.Proofs.YtnlggiimgihmcaaDoor
open Go.ChangeShapes Go.WideShapes Go.ChangeAt Go.WideElems Go.RowKit
set_option maxRecDepth 100000
theorem lineTurns_holds : Rows.LineTurnsSaid :=
  OpenClaim.holds_of_wide 14 Tryd.f14 rfl rfl rfl rfl rfl rfl rfl ⟨rfl, rfl, rfl, rfl, rfl⟩ rfl rfl rfl rfl rfl lineTurns_named Tryd.func14 lineTurns_closed
    (of_decide_eq_true (by kernel_rfl)) (by unfold Func.isWrapper; first | (rw [if_pos (by decide +kernel)]; kernel_rfl) | (rw [if_neg (by decide +kernel)]; exact ⟨rfl, rfl⟩))
    (fun os started H enc _ => lineTurns_lifted os started H enc)
end Go.Proofs.YtnlggiimgihmcaaDoor
