/-
  Contract: the law's normal. Conditions: the slices read as lists of ints.
-/
import Derived.Test.YtpdkonpnhalecaaDoorB9
namespace Go.Proofs.YtpdkonpnhalecaaDoor
open Go.RowKit
theorem law_normal (A : Option Addr) (n c : Nat) (L : List Int) (w : World) (hA : Ints w A n L) :
    Calls Tryd.prog 18 #[.slice A n c] w fun e w' => ∃ A' m c', e = .returned (.slice A' m c') ∧ Own w' w.heap.size A' m c' (okL (errW L) (normalL L)) ∧ Below w.heap.size w w' := by
  go_enter Tryd.func18, Tryd.ntmps18
  go_wp2_with fail
  refine (line_Normal _ _ _ _ _ hA).mono ?_
  rintro e w1 ⟨A1, c1, rfl, hown, hb⟩
  go_wp2_with fail
  go_ret
  exact ⟨_, _, _, rfl, hown, hb⟩
end Go.Proofs.YtpdkonpnhalecaaDoor
