/-
  LineDrawn returns true for every input and leaves its arguments as they were: the tied card. No condition.
-/
import Derived.Test.YtnlggiimgihmcaaDoorDrawnC
import Derived.SevenTiedAt
namespace Go.Proofs.YtnlggiimgihmcaaDoor
open Go.ChangeShapes Go.WideShapes Go.ChangeAt Go.WideElems Go.RowKit
set_option maxRecDepth 100000
theorem lineDrawn_card : Rows.LineDrawnCardSaid :=
  Claim7.holds_tied_plain_at .later [] [.data, .data, .data] true _ true
    lineDrawn_holds (fun _ h => by cases h) (by kernel_rfl) (fun _ h => by cases h) lineDrawn_row_tie rfl ⟨rfl, rfl⟩ (by kernel_rfl) rfl
    (fun f fn hf hfn => by
      obtain rfl : f = 11 := Option.some.inj (lineDrawn_named.symm.trans hf) |>.symm
      obtain rfl : fn = Tryd.f11 := (Option.some.inj (Tryd.func11.symm.trans hfn)).symm
      exact ⟨by kernel_rfl, fun j t ht => by
        rw [Tryd.params11] at ht
        have hm : t ∈ [3, 22] := by simpa using Array.mem_of_getElem? ht
        have hall : ([3, 22].all fun u => !Tryd.prog.wantsStandIn u) = true := by kernel_rfl
        exact (show Tryd.prog.wantsStandIn t = false by simpa using List.all_eq_true.1 hall t hm)⟩)
    (by kernel_rfl)
end Go.Proofs.YtnlggiimgihmcaaDoor
