/-
  The row. No condition.
-/
import Derived.Test.YtlmdfmnbcndhoaaGreatDoorRc49
import Derived.Test.YtlmdfmnbcndhoaaGreatDoorRc50
import Derived.SevenTiedAt
namespace Go.Proofs.YtlmdfmnbcndhoaaGreatDoor
open Go.ChangeShapes Go.WideShapes Go.ChangeAt Go.WideElems Go.RowKit
set_option maxRecDepth 100000
theorem notesCodes_holds:Rows.NotesCodesSaid :=
 OpenClaim.holds_of_wide 9 Tryz.f9 rfl rfl rfl rfl rfl rfl rfl ⟨rfl,rfl,rfl,rfl,rfl⟩ rfl rfl rfl rfl rfl notesCodes_named Tryz.func9 notesCodes_closed
  (of_decide_eq_true (by kernel_rfl)) (by unfold Func.isWrapper;first | (rw [if_pos (by decide +kernel)];kernel_rfl) | (rw [if_neg (by decide +kernel)];exact ⟨rfl,rfl⟩))
  (fun os started H enc _=>notesCodes_lifted os started H enc)
end Go.Proofs.YtlmdfmnbcndhoaaGreatDoor
