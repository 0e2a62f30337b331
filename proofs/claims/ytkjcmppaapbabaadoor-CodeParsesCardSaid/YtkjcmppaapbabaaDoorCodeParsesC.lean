/-
  CodeParses returns true for every input and leaves its arguments as they were: the row. No condition.
-/
import Derived.Test.YtkjcmppaapbabaaDoorCodeParsesA
import Derived.Test.YtkjcmppaapbabaaDoorCodeParsesB
import Derived.SevenTiedAt
namespace Go.Proofs.YtkjcmppaapbabaaDoor
open Go.ChangeShapes Go.WideShapes Go.ChangeAt Go.WideElems Go.RowKit
set_option maxRecDepth 100000
theorem codeParses_holds : Rows.CodeParsesSaid :=
  OpenClaim.holds_of_wide 19 Tryd.f19 rfl rfl rfl rfl rfl rfl rfl ⟨rfl, rfl, rfl, rfl, rfl⟩ rfl rfl rfl rfl rfl codeParses_named Tryd.func19 codeParses_closed
    (of_decide_eq_true (by kernel_rfl)) (by unfold Func.isWrapper; first | (rw [if_pos (by decide +kernel)]; kernel_rfl) | (rw [if_neg (by decide +kernel)]; exact ⟨rfl, rfl⟩))
    (fun os started H enc _ => codeParses_lifted os started H enc)
end Go.Proofs.YtkjcmppaapbabaaDoor
