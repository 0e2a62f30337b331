/-
  LineParses returns true for every input and leaves its arguments as they were: the row. No condition.
-/
import Derived.Test.YtpdkonpnhalecaaDoorLineParsesA
import Derived.Test.YtpdkonpnhalecaaDoorLineParsesB
import Derived.SevenTiedAt
namespace Go.Proofs.YtpdkonpnhalecaaDoor
open Go.ChangeShapes Go.WideShapes Go.ChangeAt Go.WideElems Go.RowKit
set_option maxRecDepth 100000
theorem lineParses_holds : Rows.LineParsesSaid :=
  OpenClaim.holds_of_wide 5 Tryd.f5 rfl rfl rfl rfl rfl rfl rfl ⟨rfl, rfl, rfl, rfl, rfl⟩ rfl rfl rfl rfl rfl lineParses_named Tryd.func5 lineParses_closed
    (of_decide_eq_true (by kernel_rfl)) (by unfold Func.isWrapper; first | (rw [if_pos (by decide +kernel)]; kernel_rfl) | (rw [if_neg (by decide +kernel)]; exact ⟨rfl, rfl⟩))
    (fun os started H enc _ => lineParses_lifted os started H enc)
end Go.Proofs.YtpdkonpnhalecaaDoor
