/-
  CodeTurns returns true for every input and leaves its arguments as they were: the tied card. No condition.
-/
import Derived.Test.YtkjcmppaapbabaaDoorCodeTurnsC
import Derived.SevenTiedAt
namespace Go.Proofs.YtkjcmppaapbabaaDoor
open Go.ChangeShapes Go.WideShapes Go.ChangeAt Go.WideElems Go.RowKit
set_option maxRecDepth 100000
theorem codeTurns_text : Rows.codeTurnsRow.wfByText (OpenSpec.ofChange Rows.codeTurnsSpec) = true := by kernel_rfl
theorem codeTurns_main : Tryd.pinned.checked.prog.mainIs = some (Rows.codeTurnsCard.stood.harness.1, Rows.codeTurnsCard.stood.harness.2.toList) := by kernel_rfl
theorem codeTurns_looks : true = Tryd.pinned.checked.prog.looks [] := by kernel_rfl
theorem codeTurns_wants : ([24].all fun u => !Tryd.prog.wantsStandIn u) = true := by kernel_rfl
theorem codeTurns_goes : false = Rows.codeTurnsRow.goesBy Tryd.pinned.checked.prog := by kernel_rfl
theorem codeTurns_card : Rows.CodeTurnsCardSaid :=
  Claim7.holds_tied_plain_at .later [] [.data, .data, .data] true _ true
    codeTurns_holds (fun _ h => by cases h) codeTurns_text (fun _ h => by cases h) codeTurns_row_tie rfl ⟨rfl, rfl⟩ codeTurns_main rfl
    (fun f fn hf hfn => by
      obtain rfl : f = 8 := Option.some.inj (codeTurns_named.symm.trans hf) |>.symm
      obtain rfl : fn = Tryd.f8 := (Option.some.inj (Tryd.func8.symm.trans hfn)).symm
      exact ⟨codeTurns_looks, fun j t ht => by
        rw [Tryd.params8] at ht
        have hm : t ∈ [24] := by simpa using Array.mem_of_getElem? ht
        exact (show Tryd.prog.wantsStandIn t = false by simpa using List.all_eq_true.1 codeTurns_wants t hm)⟩)
    codeTurns_goes
end Go.Proofs.YtkjcmppaapbabaaDoor
