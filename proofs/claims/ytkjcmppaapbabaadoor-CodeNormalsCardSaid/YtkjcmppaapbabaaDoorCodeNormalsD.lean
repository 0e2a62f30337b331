/-
  CodeNormals returns true for every input and leaves its arguments as they were: the tied card. No condition.
-/
import Derived.Test.YtkjcmppaapbabaaDoorCodeNormalsC
import Derived.SevenTiedAt
namespace Go.Proofs.YtkjcmppaapbabaaDoor
open Go.ChangeShapes Go.WideShapes Go.ChangeAt Go.WideElems Go.RowKit
set_option maxRecDepth 100000
theorem codeNormals_text : Rows.codeNormalsRow.wfByText (OpenSpec.ofChange Rows.codeNormalsSpec) = true := by kernel_rfl
theorem codeNormals_main : Tryd.pinned.checked.prog.mainIs = some (Rows.codeNormalsCard.stood.harness.1, Rows.codeNormalsCard.stood.harness.2.toList) := by kernel_rfl
theorem codeNormals_looks : true = Tryd.pinned.checked.prog.looks [] := by kernel_rfl
theorem codeNormals_wants : ([24].all fun u => !Tryd.prog.wantsStandIn u) = true := by kernel_rfl
theorem codeNormals_goes : false = Rows.codeNormalsRow.goesBy Tryd.pinned.checked.prog := by kernel_rfl
theorem codeNormals_card : Rows.CodeNormalsCardSaid :=
  Claim7.holds_tied_plain_at .later [] [.data, .data, .data] true _ true
    codeNormals_holds (fun _ h => by cases h) codeNormals_text (fun _ h => by cases h) codeNormals_row_tie rfl ⟨rfl, rfl⟩ codeNormals_main rfl
    (fun f fn hf hfn => by
      obtain rfl : f = 9 := Option.some.inj (codeNormals_named.symm.trans hf) |>.symm
      obtain rfl : fn = Tryd.f9 := (Option.some.inj (Tryd.func9.symm.trans hfn)).symm
      exact ⟨codeNormals_looks, fun j t ht => by
        rw [Tryd.params9] at ht
        have hm : t ∈ [24] := by simpa using Array.mem_of_getElem? ht
        exact (show Tryd.prog.wantsStandIn t = false by simpa using List.all_eq_true.1 codeNormals_wants t hm)⟩)
    codeNormals_goes
end Go.Proofs.YtkjcmppaapbabaaDoor
