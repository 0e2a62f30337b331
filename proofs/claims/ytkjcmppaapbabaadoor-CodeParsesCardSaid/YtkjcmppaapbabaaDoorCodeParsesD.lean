/-
  CodeParses returns true for every input and leaves its arguments as they were: the tied card. No condition.
-/
import Derived.Test.YtkjcmppaapbabaaDoorCodeParsesC
import Derived.SevenTiedAt
namespace Go.Proofs.YtkjcmppaapbabaaDoor
open Go.ChangeShapes Go.WideShapes Go.ChangeAt Go.WideElems Go.RowKit
set_option maxRecDepth 100000
theorem codeParses_text : Rows.codeParsesRow.wfByText (OpenSpec.ofChange Rows.codeParsesSpec) = true := by kernel_rfl
theorem codeParses_main : Tryd.pinned.checked.prog.mainIs = some (Rows.codeParsesCard.stood.harness.1, Rows.codeParsesCard.stood.harness.2.toList) := by kernel_rfl
theorem codeParses_looks : true = Tryd.pinned.checked.prog.looks [] := by kernel_rfl
theorem codeParses_wants : ([9].all fun u => !Tryd.prog.wantsStandIn u) = true := by kernel_rfl
theorem codeParses_goes : false = Rows.codeParsesRow.goesBy Tryd.pinned.checked.prog := by kernel_rfl
theorem codeParses_card : Rows.CodeParsesCardSaid :=
  Claim7.holds_tied_plain_at .later [] [.data, .data, .data, .sentinel, .sentinel] true _ true
    codeParses_holds (fun _ h => by cases h) codeParses_text (fun _ h => by cases h) codeParses_row_tie rfl ⟨rfl, rfl⟩ codeParses_main rfl
    (fun f fn hf hfn => by
      obtain rfl : f = 19 := Option.some.inj (codeParses_named.symm.trans hf) |>.symm
      obtain rfl : fn = Tryd.f19 := (Option.some.inj (Tryd.func19.symm.trans hfn)).symm
      exact ⟨codeParses_looks, fun j t ht => by
        rw [Tryd.params19] at ht
        have hm : t ∈ [9] := by simpa using Array.mem_of_getElem? ht
        exact (show Tryd.prog.wantsStandIn t = false by simpa using List.all_eq_true.1 codeParses_wants t hm)⟩)
    codeParses_goes
end Go.Proofs.YtkjcmppaapbabaaDoor
