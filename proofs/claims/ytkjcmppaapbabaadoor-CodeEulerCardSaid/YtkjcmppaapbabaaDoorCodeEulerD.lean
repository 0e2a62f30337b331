/-
  CodeEuler returns true for every input and leaves its arguments as they were: the tied card. No condition.
-/
import Derived.Test.YtkjcmppaapbabaaDoorCodeEulerC
import Derived.SevenTiedAt
namespace Go.Proofs.YtkjcmppaapbabaaDoor
open Go.ChangeShapes Go.WideShapes Go.ChangeAt Go.WideElems Go.RowKit
set_option maxRecDepth 100000
theorem codeEuler_text : Rows.codeEulerRow.wfByText (OpenSpec.ofChange Rows.codeEulerSpec) = true := by kernel_rfl
theorem codeEuler_main : Tryd.pinned.checked.prog.mainIs = some (Rows.codeEulerCard.stood.harness.1, Rows.codeEulerCard.stood.harness.2.toList) := by kernel_rfl
theorem codeEuler_looks : true = Tryd.pinned.checked.prog.looks [] := by kernel_rfl
theorem codeEuler_wants : ([24].all fun u => !Tryd.prog.wantsStandIn u) = true := by kernel_rfl
theorem codeEuler_goes : false = Rows.codeEulerRow.goesBy Tryd.pinned.checked.prog := by kernel_rfl
theorem codeEuler_card : Rows.CodeEulerCardSaid :=
  Claim7.holds_tied_plain_at .later [] [.data, .data, .data] true _ true
    codeEuler_holds (fun _ h => by cases h) codeEuler_text (fun _ h => by cases h) codeEuler_row_tie rfl ⟨rfl, rfl⟩ codeEuler_main rfl
    (fun f fn hf hfn => by
      obtain rfl : f = 5 := Option.some.inj (codeEuler_named.symm.trans hf) |>.symm
      obtain rfl : fn = Tryd.f5 := (Option.some.inj (Tryd.func5.symm.trans hfn)).symm
      exact ⟨codeEuler_looks, fun j t ht => by
        rw [Tryd.params5] at ht
        have hm : t ∈ [24] := by simpa using Array.mem_of_getElem? ht
        exact (show Tryd.prog.wantsStandIn t = false by simpa using List.all_eq_true.1 codeEuler_wants t hm)⟩)
    codeEuler_goes
end Go.Proofs.YtkjcmppaapbabaaDoor
