/-
  CodeFingers returns true for every input and leaves its arguments as they were: the tied card. No condition.
-/
import Derived.Test.YtkjcmppaapbabaaDoorCodeFingersC
import Derived.SevenTiedAt
namespace Go.Proofs.YtkjcmppaapbabaaDoor
open Go.ChangeShapes Go.WideShapes Go.ChangeAt Go.WideElems Go.RowKit
set_option maxRecDepth 100000
theorem codeFingers_text : Rows.codeFingersRow.wfByText (OpenSpec.ofChange Rows.codeFingersSpec) = true := by kernel_rfl
theorem codeFingers_main : Tryd.pinned.checked.prog.mainIs = some (Rows.codeFingersCard.stood.harness.1, Rows.codeFingersCard.stood.harness.2.toList) := by kernel_rfl
theorem codeFingers_looks : true = Tryd.pinned.checked.prog.looks [] := by kernel_rfl
theorem codeFingers_wants : ([24, 3, 50].all fun u => !Tryd.prog.wantsStandIn u) = true := by kernel_rfl
theorem codeFingers_goes : false = Rows.codeFingersRow.goesBy Tryd.pinned.checked.prog := by kernel_rfl
theorem codeFingers_card : Rows.CodeFingersCardSaid :=
  Claim7.holds_tied_plain_at .later [] [.data, .data, .data] true _ true
    codeFingers_holds (fun _ h => by cases h) codeFingers_text (fun _ h => by cases h) codeFingers_row_tie rfl ⟨rfl, rfl⟩ codeFingers_main rfl
    (fun f fn hf hfn => by
      obtain rfl : f = 7 := Option.some.inj (codeFingers_named.symm.trans hf) |>.symm
      obtain rfl : fn = Tryd.f7 := (Option.some.inj (Tryd.func7.symm.trans hfn)).symm
      exact ⟨codeFingers_looks, fun j t ht => by
        rw [Tryd.params7] at ht
        have hm : t ∈ [24, 3, 50] := by simpa using Array.mem_of_getElem? ht
        exact (show Tryd.prog.wantsStandIn t = false by simpa using List.all_eq_true.1 codeFingers_wants t hm)⟩)
    codeFingers_goes
end Go.Proofs.YtkjcmppaapbabaaDoor
