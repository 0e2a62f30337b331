/-
  CodeFaces returns true for every input and leaves its arguments as they were: the tied card. No condition.
-/
import Derived.Test.YtkjcmppaapbabaaDoorCodeFacesC
import Derived.SevenTiedAt
namespace Go.Proofs.YtkjcmppaapbabaaDoor
open Go.ChangeShapes Go.WideShapes Go.ChangeAt Go.WideElems Go.RowKit
set_option maxRecDepth 100000
theorem codeFaces_text : Rows.codeFacesRow.wfByText (OpenSpec.ofChange Rows.codeFacesSpec) = true := by kernel_rfl
theorem codeFaces_main : Tryd.pinned.checked.prog.mainIs = some (Rows.codeFacesCard.stood.harness.1, Rows.codeFacesCard.stood.harness.2.toList) := by kernel_rfl
theorem codeFaces_looks : true = Tryd.pinned.checked.prog.looks [] := by kernel_rfl
theorem codeFaces_wants : ([24].all fun u => !Tryd.prog.wantsStandIn u) = true := by kernel_rfl
theorem codeFaces_goes : false = Rows.codeFacesRow.goesBy Tryd.pinned.checked.prog := by kernel_rfl
theorem codeFaces_card : Rows.CodeFacesCardSaid :=
  Claim7.holds_tied_plain_at .later [] [.data, .data, .data] true _ true
    codeFaces_holds (fun _ h => by cases h) codeFaces_text (fun _ h => by cases h) codeFaces_row_tie rfl ⟨rfl, rfl⟩ codeFaces_main rfl
    (fun f fn hf hfn => by
      obtain rfl : f = 3 := Option.some.inj (codeFaces_named.symm.trans hf) |>.symm
      obtain rfl : fn = Tryd.f3 := (Option.some.inj (Tryd.func3.symm.trans hfn)).symm
      exact ⟨codeFaces_looks, fun j t ht => by
        rw [Tryd.params3] at ht
        have hm : t ∈ [24] := by simpa using Array.mem_of_getElem? ht
        exact (show Tryd.prog.wantsStandIn t = false by simpa using List.all_eq_true.1 codeFaces_wants t hm)⟩)
    codeFaces_goes
end Go.Proofs.YtkjcmppaapbabaaDoor
