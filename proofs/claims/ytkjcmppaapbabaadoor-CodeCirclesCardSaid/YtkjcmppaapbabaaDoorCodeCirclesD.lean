/-
  CodeCircles returns true for every input and leaves its arguments as they were: the tied card. No condition.
-/
import Derived.Test.YtkjcmppaapbabaaDoorCodeCirclesC
import Derived.SevenTiedAt
namespace Go.Proofs.YtkjcmppaapbabaaDoor
open Go.ChangeShapes Go.WideShapes Go.ChangeAt Go.WideElems Go.RowKit
set_option maxRecDepth 100000
theorem codeCircles_text : Rows.codeCirclesRow.wfByText (OpenSpec.ofChange Rows.codeCirclesSpec) = true := by kernel_rfl
theorem codeCircles_main : Tryd.pinned.checked.prog.mainIs = some (Rows.codeCirclesCard.stood.harness.1, Rows.codeCirclesCard.stood.harness.2.toList) := by kernel_rfl
theorem codeCircles_looks : true = Tryd.pinned.checked.prog.looks [] := by kernel_rfl
theorem codeCircles_wants : ([3, 3, 3].all fun u => !Tryd.prog.wantsStandIn u) = true := by kernel_rfl
theorem codeCircles_goes : false = Rows.codeCirclesRow.goesBy Tryd.pinned.checked.prog := by kernel_rfl
theorem codeCircles_card : Rows.CodeCirclesCardSaid :=
  Claim7.holds_tied_plain_at .later [] [.data, .data, .data] true _ true
    codeCircles_holds (fun _ h => by cases h) codeCircles_text (fun _ h => by cases h) codeCircles_row_tie rfl ⟨rfl, rfl⟩ codeCircles_main rfl
    (fun f fn hf hfn => by
      obtain rfl : f = 6 := Option.some.inj (codeCircles_named.symm.trans hf) |>.symm
      obtain rfl : fn = Tryd.f6 := (Option.some.inj (Tryd.func6.symm.trans hfn)).symm
      exact ⟨codeCircles_looks, fun j t ht => by
        rw [Tryd.params6] at ht
        have hm : t ∈ [3, 3, 3] := by simpa using Array.mem_of_getElem? ht
        exact (show Tryd.prog.wantsStandIn t = false by simpa using List.all_eq_true.1 codeCircles_wants t hm)⟩)
    codeCircles_goes
end Go.Proofs.YtkjcmppaapbabaaDoor
