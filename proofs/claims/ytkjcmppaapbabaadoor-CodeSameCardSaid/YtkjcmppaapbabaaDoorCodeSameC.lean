/-
  CodeSame returns true for every input and leaves its arguments as they were: the row. No condition.
-/
import Derived.Test.YtkjcmppaapbabaaDoorCodeSameA
import Derived.Test.YtkjcmppaapbabaaDoorCodeSameB
import Derived.SevenTiedAt
namespace Go.Proofs.YtkjcmppaapbabaaDoor
open Go.ChangeShapes Go.WideShapes Go.ChangeAt Go.WideElems Go.RowKit
set_option maxRecDepth 100000
theorem codeSame_holds : Rows.CodeSameSaid :=
  OpenClaim.holds_of_wide 10 Tryd.f10 rfl rfl rfl rfl rfl rfl rfl ⟨rfl, rfl, rfl, rfl, rfl⟩ rfl rfl rfl rfl rfl codeSame_named Tryd.func10 codeSame_closed
    (of_decide_eq_true (by kernel_rfl)) (by unfold Func.isWrapper; first | (rw [if_pos (by decide +kernel)]; kernel_rfl) | (rw [if_neg (by decide +kernel)]; exact ⟨rfl, rfl⟩))
    (fun os started H enc _ => codeSame_lifted os started H enc)
end Go.Proofs.YtkjcmppaapbabaaDoor
