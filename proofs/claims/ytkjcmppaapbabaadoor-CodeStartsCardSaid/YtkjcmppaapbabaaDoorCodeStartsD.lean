/-
  CodeStarts returns true for every input and leaves its arguments as they were: the tied card. No condition.
-/
import Derived.Test.YtkjcmppaapbabaaDoorCodeStartsC
import Derived.SevenTiedAt
namespace Go.Proofs.YtkjcmppaapbabaaDoor
open Go.ChangeShapes Go.WideShapes Go.ChangeAt Go.WideElems Go.RowKit
set_option maxRecDepth 100000
theorem codeStarts_text : Rows.codeStartsRow.wfByText (OpenSpec.ofChange Rows.codeStartsSpec) = true := by kernel_rfl
theorem codeStarts_main : Tryd.pinned.checked.prog.mainIs = some (Rows.codeStartsCard.stood.harness.1, Rows.codeStartsCard.stood.harness.2.toList) := by kernel_rfl
theorem codeStarts_looks : true = Tryd.pinned.checked.prog.looks [] := by kernel_rfl
theorem codeStarts_wants : ([24, 3, 3].all fun u => !Tryd.prog.wantsStandIn u) = true := by kernel_rfl
theorem codeStarts_goes : false = Rows.codeStartsRow.goesBy Tryd.pinned.checked.prog := by kernel_rfl
theorem codeStarts_card : Rows.CodeStartsCardSaid :=
  Claim7.holds_tied_plain_at .later [] [.data, .data, .data] true _ true
    codeStarts_holds (fun _ h => by cases h) codeStarts_text (fun _ h => by cases h) codeStarts_row_tie rfl ⟨rfl, rfl⟩ codeStarts_main rfl
    (fun f fn hf hfn => by
      obtain rfl : f = 13 := Option.some.inj (codeStarts_named.symm.trans hf) |>.symm
      obtain rfl : fn = Tryd.f13 := (Option.some.inj (Tryd.func13.symm.trans hfn)).symm
      exact ⟨codeStarts_looks, fun j t ht => by
        rw [Tryd.params13] at ht
        have hm : t ∈ [24, 3, 3] := by simpa using Array.mem_of_getElem? ht
        exact (show Tryd.prog.wantsStandIn t = false by simpa using List.all_eq_true.1 codeStarts_wants t hm)⟩)
    codeStarts_goes
end Go.Proofs.YtkjcmppaapbabaaDoor
