/-
  Walk: LineWords returns true. Conditions: the slice reads.
-/
import Derived.Test.YtnlggiimgihmcaaDoorD2
namespace Go.Proofs.YtnlggiimgihmcaaDoor
open Go.RowKit
theorem lineWords_any (K : Int) (A : Option Addr) (n c : Nat) (L : List Int) (w : World) (hA : Ints w A n L) :
    Calls Tryd.prog 3 #[.int .i64 K, .slice A n c] w fun e w' => e = .returned (.bool true) ∧ Below w.heap.size w w' := by
  go_enter Tryd.func3, Tryd.ntmps3
  go_wp2_with (first | (go_at_call 19; refine (line_valid _ _ _ _ _ _ hA).mono ?_; rintro e w' ⟨rfl, rfl⟩) | (go_at_call 20; refine (ref_valid _ _ _ _ _ _ hA).mono ?_; rintro e w' ⟨rfl, rfl⟩) | (go_at_call 21; refine (line_reduced _ _ _ _ _ hA).mono ?_; rintro e w' ⟨rfl, rfl⟩))
  refine (ref_reduced _ _ _ _ _ hA).mono ?_
  rintro e w1 ⟨rfl, hd⟩
  have hb1 := hd.below w'.heap.size
  go_wp2_with fail
  refine (law_known _).mono ?_
  rintro e w2 ⟨rfl, hb2⟩
  have hb3 := below_chain hb1 hb2 hb1.size
  clear hb1 hb2 hd
  go_wp2_with fail
  go_ret
  exact ⟨rfl, hb3⟩
end Go.Proofs.YtnlggiimgihmcaaDoor
