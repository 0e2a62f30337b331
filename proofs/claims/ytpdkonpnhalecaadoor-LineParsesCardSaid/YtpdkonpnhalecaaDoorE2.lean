/-
  Walk: LineNormals returns true. Conditions: the slice reads.
-/
import Derived.Test.YtpdkonpnhalecaaDoorQ2
import Derived.Test.YtpdkonpnhalecaaDoorD2
namespace Go.Proofs.YtpdkonpnhalecaaDoor
open Go.RowKit
theorem ref_word_is {b : Bool} {L : List Int} (h : wordB L = b) (A : Option Addr) (n c : Nat) (w : World) (hA : Ints w A n L) :
    Calls Tryd.prog 13 #[.slice A n c] w fun e w' => e = .returned (.bool b) ∧ w' = w := by
  subst h
  exact ref_word A n c L w hA
theorem gives_ok3 {w w' : World} {L : List Int} {er : Int} {e : Ending} (h : Gives w (okL er L) er e w') (he : er = 0) :
    ∃ A m c, e = .returned (.tuple #[.slice A m c, .int .i64 0]) ∧ Own w' w.heap.size A m c L ∧ Below w.heap.size w w' := by
  rw [okL_yes he, he] at h
  obtain ⟨A, c, h1, h2, h3⟩ := h
  exact ⟨A, _, c, h1, h2, h3⟩
theorem gives_no {w w' : World} {L : List Int} {er : Int} {e : Ending} (h : Gives w (okL er L) er e w') (he : er ≠ 0) :
    ∃ A c, e = .returned (.tuple #[.slice A 0 c, .int .i64 er]) ∧ Below w.heap.size w w' := by
  rw [okL_no he] at h
  obtain ⟨A, c, h1, _, h3⟩ := h
  exact ⟨A, c, h1, h3⟩

end Go.Proofs.YtpdkonpnhalecaaDoor
