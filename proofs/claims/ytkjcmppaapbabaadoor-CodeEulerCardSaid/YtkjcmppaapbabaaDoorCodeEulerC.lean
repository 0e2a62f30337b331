/-
  CodeEuler returns true for every input and leaves its arguments as they were: the row. No condition.
-/
import Derived.Test.YtkjcmppaapbabaaDoorCodeEulerA
import Derived.Test.YtkjcmppaapbabaaDoorCodeEulerB
import Derived.SevenTiedAt
namespace Go.Proofs.YtkjcmppaapbabaaDoor
open Go.ChangeShapes Go.WideShapes Go.ChangeAt Go.WideElems Go.RowKit
set_option maxRecDepth 100000
theorem codeEuler_holds : Rows.CodeEulerSaid :=
  OpenClaim.holds_of_wide 5 Tryd.f5 rfl rfl rfl rfl rfl rfl rfl ⟨rfl, rfl, rfl, rfl, rfl⟩ rfl rfl rfl rfl rfl codeEuler_named Tryd.func5 codeEuler_closed
    (of_decide_eq_true (by kernel_rfl)) (by unfold Func.isWrapper; first | (rw [if_pos (by decide +kernel)]; kernel_rfl) | (rw [if_neg (by decide +kernel)]; exact ⟨rfl, rfl⟩))
    (fun os started H enc _ => codeEuler_lifted os started H enc)
end Go.Proofs.YtkjcmppaapbabaaDoor
