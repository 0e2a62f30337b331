/-
  NotesOpen returns true for every input and leaves its arguments as they were: the row. No condition.
-/
import Derived.Test.YtlmdfmnbcndhoaaGreatDoorOn47
import Derived.Test.YtlmdfmnbcndhoaaGreatDoorOn48
import Derived.SevenTiedAt
namespace Go.Proofs.YtlmdfmnbcndhoaaGreatDoor
open Go.ChangeShapes Go.WideShapes Go.ChangeAt Go.WideElems Go.RowKit
set_option maxRecDepth 100000
theorem notesOpen_holds:Rows.NotesOpenSaid :=
 OpenClaim.holds_of_wide 12 Tryz.f12 rfl rfl rfl rfl rfl rfl rfl ⟨rfl,rfl,rfl,rfl,rfl⟩ rfl rfl rfl rfl rfl notesOpen_named Tryz.func12 notesOpen_closed
  (of_decide_eq_true (by kernel_rfl)) (by unfold Func.isWrapper;first | (rw [if_pos (by decide +kernel)];kernel_rfl) | (rw [if_neg (by decide +kernel)];exact ⟨rfl,rfl⟩))
  (fun os started H enc _=>notesOpen_lifted os started H enc)
end Go.Proofs.YtlmdfmnbcndhoaaGreatDoor
