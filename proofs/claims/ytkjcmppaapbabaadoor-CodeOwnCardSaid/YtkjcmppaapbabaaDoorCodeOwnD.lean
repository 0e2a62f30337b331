/-
  CodeOwn returns true for every input and leaves its arguments as they were: the tied card. No condition.
-/
import Derived.Test.YtkjcmppaapbabaaDoorCodeOwnC
import Derived.SevenTiedAt
namespace Go.Proofs.YtkjcmppaapbabaaDoor
open Go.ChangeShapes Go.WideShapes Go.ChangeAt Go.WideElems Go.RowKit
set_option maxRecDepth 100000
theorem codeOwn_text : Rows.codeOwnRow.wfByText (OpenSpec.ofChange Rows.codeOwnSpec) = true := by kernel_rfl
theorem codeOwn_main : Tryd.pinned.checked.prog.mainIs = some (Rows.codeOwnCard.stood.harness.1, Rows.codeOwnCard.stood.harness.2.toList) := by kernel_rfl
theorem codeOwn_looks : true = Tryd.pinned.checked.prog.looks [] := by kernel_rfl
theorem codeOwn_wants : ([24, 3].all fun u => !Tryd.prog.wantsStandIn u) = true := by kernel_rfl
theorem codeOwn_goes : false = Rows.codeOwnRow.goesBy Tryd.pinned.checked.prog := by kernel_rfl
theorem codeOwn_card : Rows.CodeOwnCardSaid :=
  Claim7.holds_tied_plain_at .later [] [.data, .data, .data] true _ true
    codeOwn_holds (fun _ h => by cases h) codeOwn_text (fun _ h => by cases h) codeOwn_row_tie rfl ⟨rfl, rfl⟩ codeOwn_main rfl
    (fun f fn hf hfn => by
      obtain rfl : f = 12 := Option.some.inj (codeOwn_named.symm.trans hf) |>.symm
      obtain rfl : fn = Tryd.f12 := (Option.some.inj (Tryd.func12.symm.trans hfn)).symm
      exact ⟨codeOwn_looks, fun j t ht => by
        rw [Tryd.params12] at ht
        have hm : t ∈ [24, 3] := by simpa using Array.mem_of_getElem? ht
        exact (show Tryd.prog.wantsStandIn t = false by simpa using List.all_eq_true.1 codeOwn_wants t hm)⟩)
    codeOwn_goes
end Go.Proofs.YtkjcmppaapbabaaDoor
