/-
  CodeWords returns true for every input and leaves its arguments as they were: the row. No condition.
-/
import Derived.Test.YtkjcmppaapbabaaDoorCodeWordsA
import Derived.Test.YtkjcmppaapbabaaDoorCodeWordsB
import Derived.SevenTiedAt
namespace Go.Proofs.YtkjcmppaapbabaaDoor
open Go.ChangeShapes Go.WideShapes Go.ChangeAt Go.WideElems Go.RowKit
set_option maxRecDepth 100000
theorem codeWords_holds : Rows.CodeWordsSaid :=
  OpenClaim.holds_of_wide 17 Tryd.f17 rfl rfl rfl rfl rfl rfl rfl ⟨rfl, rfl, rfl, rfl, rfl⟩ rfl rfl rfl rfl rfl codeWords_named Tryd.func17 codeWords_closed
    (of_decide_eq_true (by kernel_rfl)) (by unfold Func.isWrapper; first | (rw [if_pos (by decide +kernel)]; kernel_rfl) | (rw [if_neg (by decide +kernel)]; exact ⟨rfl, rfl⟩))
    (fun os started H enc _ => codeWords_lifted os started H enc)
end Go.Proofs.YtkjcmppaapbabaaDoor
