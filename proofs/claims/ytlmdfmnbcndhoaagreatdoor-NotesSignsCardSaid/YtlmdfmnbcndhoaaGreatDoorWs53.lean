/-
  NotesSigns returns true for every input and leaves its arguments as they were: the row. No condition.
-/
import Derived.Test.YtlmdfmnbcndhoaaGreatDoorWs51
import Derived.Test.YtlmdfmnbcndhoaaGreatDoorWs52
import Derived.SevenTiedAt
namespace Go.Proofs.YtlmdfmnbcndhoaaGreatDoor
open Go.ChangeShapes Go.WideShapes Go.ChangeAt Go.WideElems Go.RowKit
set_option maxRecDepth 100000
theorem notesSigns_holds:Rows.NotesSignsSaid :=
 OpenClaim.holds_of_wide 5 Tryz.f5 rfl rfl rfl rfl rfl rfl rfl ⟨rfl,rfl,rfl,rfl,rfl⟩ rfl rfl rfl rfl rfl notesSigns_named Tryz.func5 notesSigns_closed
  (of_decide_eq_true (by kernel_rfl)) (by unfold Func.isWrapper;first | (rw [if_pos (by decide +kernel)];kernel_rfl) | (rw [if_neg (by decide +kernel)];exact ⟨rfl,rfl⟩))
  (fun os started H enc _=>notesSigns_lifted os started H enc)
end Go.Proofs.YtlmdfmnbcndhoaaGreatDoor
