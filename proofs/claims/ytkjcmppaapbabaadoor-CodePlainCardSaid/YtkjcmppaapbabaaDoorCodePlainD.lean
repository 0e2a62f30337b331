/-
  CodePlain returns true for every input and leaves its arguments as they were: the tied card. No condition.
-/
import Derived.Test.YtkjcmppaapbabaaDoorCodePlainC
import Derived.SevenTiedAt
namespace Go.Proofs.YtkjcmppaapbabaaDoor
open Go.ChangeShapes Go.WideShapes Go.ChangeAt Go.WideElems Go.RowKit
set_option maxRecDepth 100000
theorem codePlain_text : Rows.codePlainRow.wfByText (OpenSpec.ofChange Rows.codePlainSpec) = true := by kernel_rfl
theorem codePlain_main : Tryd.pinned.checked.prog.mainIs = some (Rows.codePlainCard.stood.harness.1, Rows.codePlainCard.stood.harness.2.toList) := by kernel_rfl
theorem codePlain_looks : true = Tryd.pinned.checked.prog.looks [] := by kernel_rfl
theorem codePlain_wants : ([3, 35, 35].all fun u => !Tryd.prog.wantsStandIn u) = true := by kernel_rfl
theorem codePlain_goes : false = Rows.codePlainRow.goesBy Tryd.pinned.checked.prog := by kernel_rfl
theorem codePlain_card : Rows.CodePlainCardSaid :=
  Claim7.holds_tied_plain_at .later [] [.data, .data, .data] true _ true
    codePlain_holds (fun _ h => by cases h) codePlain_text (fun _ h => by cases h) codePlain_row_tie rfl ⟨rfl, rfl⟩ codePlain_main rfl
    (fun f fn hf hfn => by
      obtain rfl : f = 11 := Option.some.inj (codePlain_named.symm.trans hf) |>.symm
      obtain rfl : fn = Tryd.f11 := (Option.some.inj (Tryd.func11.symm.trans hfn)).symm
      exact ⟨codePlain_looks, fun j t ht => by
        rw [Tryd.params11] at ht
        have hm : t ∈ [3, 35, 35] := by simpa using Array.mem_of_getElem? ht
        exact (show Tryd.prog.wantsStandIn t = false by simpa using List.all_eq_true.1 codePlain_wants t hm)⟩)
    codePlain_goes
end Go.Proofs.YtkjcmppaapbabaaDoor
