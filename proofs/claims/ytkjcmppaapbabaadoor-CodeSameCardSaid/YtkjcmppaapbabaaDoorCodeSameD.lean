/-
  CodeSame returns true for every input and leaves its arguments as they were: the tied card. No condition.
-/
import Derived.Test.YtkjcmppaapbabaaDoorCodeSameC
import Derived.SevenTiedAt
namespace Go.Proofs.YtkjcmppaapbabaaDoor
open Go.ChangeShapes Go.WideShapes Go.ChangeAt Go.WideElems Go.RowKit
set_option maxRecDepth 100000
theorem codeSame_text : Rows.codeSameRow.wfByText (OpenSpec.ofChange Rows.codeSameSpec) = true := by kernel_rfl
theorem codeSame_main : Tryd.pinned.checked.prog.mainIs = some (Rows.codeSameCard.stood.harness.1, Rows.codeSameCard.stood.harness.2.toList) := by kernel_rfl
theorem codeSame_looks : true = Tryd.pinned.checked.prog.looks [] := by kernel_rfl
theorem codeSame_wants : ([24, 24].all fun u => !Tryd.prog.wantsStandIn u) = true := by kernel_rfl
theorem codeSame_goes : false = Rows.codeSameRow.goesBy Tryd.pinned.checked.prog := by kernel_rfl
theorem codeSame_card : Rows.CodeSameCardSaid :=
  Claim7.holds_tied_plain_at .later [] [.data, .data, .data] true _ true
    codeSame_holds (fun _ h => by cases h) codeSame_text (fun _ h => by cases h) codeSame_row_tie rfl ⟨rfl, rfl⟩ codeSame_main rfl
    (fun f fn hf hfn => by
      obtain rfl : f = 10 := Option.some.inj (codeSame_named.symm.trans hf) |>.symm
      obtain rfl : fn = Tryd.f10 := (Option.some.inj (Tryd.func10.symm.trans hfn)).symm
      exact ⟨codeSame_looks, fun j t ht => by
        rw [Tryd.params10] at ht
        have hm : t ∈ [24, 24] := by simpa using Array.mem_of_getElem? ht
        exact (show Tryd.prog.wantsStandIn t = false by simpa using List.all_eq_true.1 codeSame_wants t hm)⟩)
    codeSame_goes
end Go.Proofs.YtkjcmppaapbabaaDoor
