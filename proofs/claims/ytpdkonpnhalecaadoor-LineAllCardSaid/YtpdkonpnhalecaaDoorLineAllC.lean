/-
  LineAll returns true for every input and leaves its arguments as they were: the row. No condition.
-/
import Derived.Test.YtpdkonpnhalecaaDoorLineAllA
import Derived.Test.YtpdkonpnhalecaaDoorLineAllB
import Derived.SevenTiedAt
namespace Go.Proofs.YtpdkonpnhalecaaDoor
open Go.ChangeShapes Go.WideShapes Go.ChangeAt Go.WideElems Go.RowKit
set_option maxRecDepth 100000
theorem lineAll_holds : Rows.LineAllSaid :=
  OpenClaim.holds_of_wide 3 Tryd.f3 rfl rfl rfl rfl rfl rfl rfl ⟨rfl, rfl, rfl, rfl, rfl⟩ rfl rfl rfl rfl rfl lineAll_named Tryd.func3 lineAll_closed
    (of_decide_eq_true (by kernel_rfl)) (by unfold Func.isWrapper; first | (rw [if_pos (by decide +kernel)]; kernel_rfl) | (rw [if_neg (by decide +kernel)]; exact ⟨rfl, rfl⟩))
    (fun os started H enc _ => lineAll_lifted os started H enc)
end Go.Proofs.YtpdkonpnhalecaaDoor
