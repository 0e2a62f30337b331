/-
  CodePrints returns true for every input and leaves its arguments as they were: the tied card. No condition.
-/
import Derived.Test.YtkjcmppaapbabaaDoorCodePrintsC
import Derived.SevenTiedAt
namespace Go.Proofs.YtkjcmppaapbabaaDoor
open Go.ChangeShapes Go.WideShapes Go.ChangeAt Go.WideElems Go.RowKit
set_option maxRecDepth 100000
theorem codePrints_text : Rows.codePrintsRow.wfByText (OpenSpec.ofChange Rows.codePrintsSpec) = true := by kernel_rfl
theorem codePrints_main : Tryd.pinned.checked.prog.mainIs = some (Rows.codePrintsCard.stood.harness.1, Rows.codePrintsCard.stood.harness.2.toList) := by kernel_rfl
theorem codePrints_looks : true = Tryd.pinned.checked.prog.looks [] := by kernel_rfl
theorem codePrints_wants : ([24].all fun u => !Tryd.prog.wantsStandIn u) = true := by kernel_rfl
theorem codePrints_goes : false = Rows.codePrintsRow.goesBy Tryd.pinned.checked.prog := by kernel_rfl
theorem codePrints_card : Rows.CodePrintsCardSaid :=
  Claim7.holds_tied_plain_at .later [] [.data, .data, .data, .sentinel, .sentinel] true _ true
    codePrints_holds (fun _ h => by cases h) codePrints_text (fun _ h => by cases h) codePrints_row_tie rfl ⟨rfl, rfl⟩ codePrints_main rfl
    (fun f fn hf hfn => by
      obtain rfl : f = 18 := Option.some.inj (codePrints_named.symm.trans hf) |>.symm
      obtain rfl : fn = Tryd.f18 := (Option.some.inj (Tryd.func18.symm.trans hfn)).symm
      exact ⟨codePrints_looks, fun j t ht => by
        rw [Tryd.params18] at ht
        have hm : t ∈ [24] := by simpa using Array.mem_of_getElem? ht
        exact (show Tryd.prog.wantsStandIn t = false by simpa using List.all_eq_true.1 codePrints_wants t hm)⟩)
    codePrints_goes
end Go.Proofs.YtkjcmppaapbabaaDoor
