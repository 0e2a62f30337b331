/-
  CodeChecks returns true for every input and leaves its arguments as they were: the tied card. No condition.
-/
import Derived.Test.YtkjcmppaapbabaaDoorCodeChecksC
import Derived.SevenTiedAt
namespace Go.Proofs.YtkjcmppaapbabaaDoor
open Go.ChangeShapes Go.WideShapes Go.ChangeAt Go.WideElems Go.RowKit
set_option maxRecDepth 100000
theorem codeChecks_text : Rows.codeChecksRow.wfByText (OpenSpec.ofChange Rows.codeChecksSpec) = true := by kernel_rfl
theorem codeChecks_main : Tryd.pinned.checked.prog.mainIs = some (Rows.codeChecksCard.stood.harness.1, Rows.codeChecksCard.stood.harness.2.toList) := by kernel_rfl
theorem codeChecks_looks : true = Tryd.pinned.checked.prog.looks [] := by kernel_rfl
theorem codeChecks_wants : ([24].all fun u => !Tryd.prog.wantsStandIn u) = true := by kernel_rfl
theorem codeChecks_goes : false = Rows.codeChecksRow.goesBy Tryd.pinned.checked.prog := by kernel_rfl
theorem codeChecks_card : Rows.CodeChecksCardSaid :=
  Claim7.holds_tied_plain_at .later [] [.data, .data, .data] true _ true
    codeChecks_holds (fun _ h => by cases h) codeChecks_text (fun _ h => by cases h) codeChecks_row_tie rfl ⟨rfl, rfl⟩ codeChecks_main rfl
    (fun f fn hf hfn => by
      obtain rfl : f = 4 := Option.some.inj (codeChecks_named.symm.trans hf) |>.symm
      obtain rfl : fn = Tryd.f4 := (Option.some.inj (Tryd.func4.symm.trans hfn)).symm
      exact ⟨codeChecks_looks, fun j t ht => by
        rw [Tryd.params4] at ht
        have hm : t ∈ [24] := by simpa using Array.mem_of_getElem? ht
        exact (show Tryd.prog.wantsStandIn t = false by simpa using List.all_eq_true.1 codeChecks_wants t hm)⟩)
    codeChecks_goes
end Go.Proofs.YtkjcmppaapbabaaDoor
