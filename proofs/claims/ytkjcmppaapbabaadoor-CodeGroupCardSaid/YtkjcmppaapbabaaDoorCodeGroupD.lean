/-
  CodeGroup returns true for every input and leaves its arguments as they were: the tied card. No condition.
-/
import Derived.Test.YtkjcmppaapbabaaDoorCodeGroupC
import Derived.SevenTiedAt
namespace Go.Proofs.YtkjcmppaapbabaaDoor
open Go.ChangeShapes Go.WideShapes Go.ChangeAt Go.WideElems Go.RowKit
set_option maxRecDepth 100000
theorem codeGroup_text : Rows.codeGroupRow.wfByText (OpenSpec.ofChange Rows.codeGroupSpec) = true := by kernel_rfl
theorem codeGroup_main : Tryd.pinned.checked.prog.mainIs = some (Rows.codeGroupCard.stood.harness.1, Rows.codeGroupCard.stood.harness.2.toList) := by kernel_rfl
theorem codeGroup_looks : true = Tryd.pinned.checked.prog.looks [] := by kernel_rfl
theorem codeGroup_wants : ([24].all fun u => !Tryd.prog.wantsStandIn u) = true := by kernel_rfl
theorem codeGroup_goes : false = Rows.codeGroupRow.goesBy Tryd.pinned.checked.prog := by kernel_rfl
theorem codeGroup_card : Rows.CodeGroupCardSaid :=
  Claim7.holds_tied_plain_at .later [] [.data, .data, .data] true _ true
    codeGroup_holds (fun _ h => by cases h) codeGroup_text (fun _ h => by cases h) codeGroup_row_tie rfl ⟨rfl, rfl⟩ codeGroup_main rfl
    (fun f fn hf hfn => by
      obtain rfl : f = 14 := Option.some.inj (codeGroup_named.symm.trans hf) |>.symm
      obtain rfl : fn = Tryd.f14 := (Option.some.inj (Tryd.func14.symm.trans hfn)).symm
      exact ⟨codeGroup_looks, fun j t ht => by
        rw [Tryd.params14] at ht
        have hm : t ∈ [24] := by simpa using Array.mem_of_getElem? ht
        exact (show Tryd.prog.wantsStandIn t = false by simpa using List.all_eq_true.1 codeGroup_wants t hm)⟩)
    codeGroup_goes
end Go.Proofs.YtkjcmppaapbabaaDoor
