/-
  CodeWords returns true for every input and leaves its arguments as they were: the tied card. No condition.
-/
import Derived.Test.YtkjcmppaapbabaaDoorCodeWordsC
import Derived.SevenTiedAt
namespace Go.Proofs.YtkjcmppaapbabaaDoor
open Go.ChangeShapes Go.WideShapes Go.ChangeAt Go.WideElems Go.RowKit
set_option maxRecDepth 100000
theorem codeWords_text : Rows.codeWordsRow.wfByText (OpenSpec.ofChange Rows.codeWordsSpec) = true := by kernel_rfl
theorem codeWords_main : Tryd.pinned.checked.prog.mainIs = some (Rows.codeWordsCard.stood.harness.1, Rows.codeWordsCard.stood.harness.2.toList) := by kernel_rfl
theorem codeWords_looks : true = Tryd.pinned.checked.prog.looks [] := by kernel_rfl
theorem codeWords_wants : ([24].all fun u => !Tryd.prog.wantsStandIn u) = true := by kernel_rfl
theorem codeWords_goes : false = Rows.codeWordsRow.goesBy Tryd.pinned.checked.prog := by kernel_rfl
theorem codeWords_card : Rows.CodeWordsCardSaid :=
  Claim7.holds_tied_plain_at .later [] [.data, .data, .data] true _ true
    codeWords_holds (fun _ h => by cases h) codeWords_text (fun _ h => by cases h) codeWords_row_tie rfl ⟨rfl, rfl⟩ codeWords_main rfl
    (fun f fn hf hfn => by
      obtain rfl : f = 17 := Option.some.inj (codeWords_named.symm.trans hf) |>.symm
      obtain rfl : fn = Tryd.f17 := (Option.some.inj (Tryd.func17.symm.trans hfn)).symm
      exact ⟨codeWords_looks, fun j t ht => by
        rw [Tryd.params17] at ht
        have hm : t ∈ [24] := by simpa using Array.mem_of_getElem? ht
        exact (show Tryd.prog.wantsStandIn t = false by simpa using List.all_eq_true.1 codeWords_wants t hm)⟩)
    codeWords_goes
end Go.Proofs.YtkjcmppaapbabaaDoor
