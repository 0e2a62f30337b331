/-
  LineRanks returns true for every input and leaves its arguments as they were: the tied card. No condition.
-/
import Derived.Test.YtnlggiimgihmcaaDoorRanksC
import Derived.SevenTiedAt
namespace Go.Proofs.YtnlggiimgihmcaaDoor
open Go.ChangeShapes Go.WideShapes Go.ChangeAt Go.WideElems Go.RowKit
set_option maxRecDepth 100000
theorem lineRanks_card : Rows.LineRanksCardSaid :=
  Claim7.holds_tied_plain_at .later [] [.data, .data, .data] true _ true
    lineRanks_holds (fun _ h => by cases h) (by kernel_rfl) (fun _ h => by cases h) lineRanks_row_tie rfl ⟨rfl, rfl⟩ (by kernel_rfl) rfl
    (fun f fn hf hfn => by
      obtain rfl : f = 8 := Option.some.inj (lineRanks_named.symm.trans hf) |>.symm
      obtain rfl : fn = Tryd.f8 := (Option.some.inj (Tryd.func8.symm.trans hfn)).symm
      exact ⟨by kernel_rfl, fun j t ht => by
        rw [Tryd.params8] at ht
        have hm : t ∈ [22] := by simpa using Array.mem_of_getElem? ht
        have hall : ([22].all fun u => !Tryd.prog.wantsStandIn u) = true := by kernel_rfl
        exact (show Tryd.prog.wantsStandIn t = false by simpa using List.all_eq_true.1 hall t hm)⟩)
    (by kernel_rfl)
end Go.Proofs.YtnlggiimgihmcaaDoor
