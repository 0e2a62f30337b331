/-
  CodeForgets returns true for every input and leaves its arguments as they were: the tied card. No condition.
-/
import Derived.Test.YtkjcmppaapbabaaDoorCodeForgetsC
import Derived.SevenTiedAt
namespace Go.Proofs.YtkjcmppaapbabaaDoor
open Go.ChangeShapes Go.WideShapes Go.ChangeAt Go.WideElems Go.RowKit
set_option maxRecDepth 100000
theorem codeForgets_text : Rows.codeForgetsRow.wfByText (OpenSpec.ofChange Rows.codeForgetsSpec) = true := by kernel_rfl
theorem codeForgets_main : Tryd.pinned.checked.prog.mainIs = some (Rows.codeForgetsCard.stood.harness.1, Rows.codeForgetsCard.stood.harness.2.toList) := by kernel_rfl
theorem codeForgets_looks : true = Tryd.pinned.checked.prog.looks [] := by kernel_rfl
theorem codeForgets_wants : ([24, 3, 50].all fun u => !Tryd.prog.wantsStandIn u) = true := by kernel_rfl
theorem codeForgets_goes : false = Rows.codeForgetsRow.goesBy Tryd.pinned.checked.prog := by kernel_rfl
theorem codeForgets_card : Rows.CodeForgetsCardSaid :=
  Claim7.holds_tied_plain_at .later [] [.data, .data, .data] true _ true
    codeForgets_holds (fun _ h => by cases h) codeForgets_text (fun _ h => by cases h) codeForgets_row_tie rfl ⟨rfl, rfl⟩ codeForgets_main rfl
    (fun f fn hf hfn => by
      obtain rfl : f = 15 := Option.some.inj (codeForgets_named.symm.trans hf) |>.symm
      obtain rfl : fn = Tryd.f15 := (Option.some.inj (Tryd.func15.symm.trans hfn)).symm
      exact ⟨codeForgets_looks, fun j t ht => by
        rw [Tryd.params15] at ht
        have hm : t ∈ [24, 3, 50] := by simpa using Array.mem_of_getElem? ht
        exact (show Tryd.prog.wantsStandIn t = false by simpa using List.all_eq_true.1 codeForgets_wants t hm)⟩)
    codeForgets_goes
end Go.Proofs.YtkjcmppaapbabaaDoor
