/-
  CodeStarts returns true for every input and leaves its arguments as they were: the row. No condition.
-/
import Derived.Test.YtkjcmppaapbabaaDoorCodeStartsA
import Derived.Test.YtkjcmppaapbabaaDoorCodeStartsB
import Derived.SevenTiedAt
namespace Go.Proofs.YtkjcmppaapbabaaDoor
open Go.ChangeShapes Go.WideShapes Go.ChangeAt Go.WideElems Go.RowKit
set_option maxRecDepth 100000
theorem codeStarts_holds : Rows.CodeStartsSaid :=
  OpenClaim.holds_of_wide 13 Tryd.f13 rfl rfl rfl rfl rfl rfl rfl ⟨rfl, rfl, rfl, rfl, rfl⟩ rfl rfl rfl rfl rfl codeStarts_named Tryd.func13 codeStarts_closed
    (of_decide_eq_true (by kernel_rfl)) (by unfold Func.isWrapper; first | (rw [if_pos (by decide +kernel)]; kernel_rfl) | (rw [if_neg (by decide +kernel)]; exact ⟨rfl, rfl⟩))
    (fun os started H enc _ => codeStarts_lifted os started H enc)
end Go.Proofs.YtkjcmppaapbabaaDoor
