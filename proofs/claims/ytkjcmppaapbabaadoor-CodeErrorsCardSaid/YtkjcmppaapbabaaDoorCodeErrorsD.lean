/-
  CodeErrors returns true for every input and leaves its arguments as they were: the tied card. No condition.
-/
import Derived.Test.YtkjcmppaapbabaaDoorCodeErrorsC
import Derived.SevenTiedAt
namespace Go.Proofs.YtkjcmppaapbabaaDoor
open Go.ChangeShapes Go.WideShapes Go.ChangeAt Go.WideElems Go.RowKit
set_option maxRecDepth 100000
theorem codeErrors_text : Rows.codeErrorsRow.wfByText (OpenSpec.ofChange Rows.codeErrorsSpec) = true := by kernel_rfl
theorem codeErrors_main : Tryd.pinned.checked.prog.mainIs = some (Rows.codeErrorsCard.stood.harness.1, Rows.codeErrorsCard.stood.harness.2.toList) := by kernel_rfl
theorem codeErrors_looks : true = Tryd.pinned.checked.prog.looks [] := by kernel_rfl
theorem codeErrors_wants : ([24, 3, 50].all fun u => !Tryd.prog.wantsStandIn u) = true := by kernel_rfl
theorem codeErrors_goes : false = Rows.codeErrorsRow.goesBy Tryd.pinned.checked.prog := by kernel_rfl
theorem codeErrors_card : Rows.CodeErrorsCardSaid :=
  Claim7.holds_tied_plain_at .later [] [.data, .data, .data] true _ true
    codeErrors_holds (fun _ h => by cases h) codeErrors_text (fun _ h => by cases h) codeErrors_row_tie rfl ⟨rfl, rfl⟩ codeErrors_main rfl
    (fun f fn hf hfn => by
      obtain rfl : f = 16 := Option.some.inj (codeErrors_named.symm.trans hf) |>.symm
      obtain rfl : fn = Tryd.f16 := (Option.some.inj (Tryd.func16.symm.trans hfn)).symm
      exact ⟨codeErrors_looks, fun j t ht => by
        rw [Tryd.params16] at ht
        have hm : t ∈ [24, 3, 50] := by simpa using Array.mem_of_getElem? ht
        exact (show Tryd.prog.wantsStandIn t = false by simpa using List.all_eq_true.1 codeErrors_wants t hm)⟩)
    codeErrors_goes
end Go.Proofs.YtkjcmppaapbabaaDoor
