/-
  LineAll returns true for every input and leaves its arguments as they were: the tied card. No condition.
-/
import Derived.Test.YtpdkonpnhalecaaDoorLineAllC
import Derived.SevenTiedAt
namespace Go.Proofs.YtpdkonpnhalecaaDoor
open Go.ChangeShapes Go.WideShapes Go.ChangeAt Go.WideElems Go.RowKit
set_option maxRecDepth 100000
theorem lineAll_text : Rows.lineAllRow.wfByText (OpenSpec.ofChange Rows.lineAllSpec) = true := by kernel_rfl
theorem lineAll_main : Tryd.pinned.checked.prog.mainIs = some (Rows.lineAllCard.stood.harness.1, Rows.lineAllCard.stood.harness.2.toList) := by kernel_rfl
theorem lineAll_looks : true = Tryd.pinned.checked.prog.looks [] := by kernel_rfl
theorem lineAll_wants : ([3, 3, 3].all fun u => !Tryd.prog.wantsStandIn u) = true := by kernel_rfl
theorem lineAll_goes : false = Rows.lineAllRow.goesBy Tryd.pinned.checked.prog := by kernel_rfl
theorem lineAll_card : Rows.LineAllCardSaid :=
  Claim7.holds_tied_plain_at .later [] [.data, .data, .data] true _ true
    lineAll_holds (fun _ h => by cases h) lineAll_text (fun _ h => by cases h) lineAll_row_tie rfl ⟨rfl, rfl⟩ lineAll_main rfl
    (fun f fn hf hfn => by
      obtain rfl : f = 3 := Option.some.inj (lineAll_named.symm.trans hf) |>.symm
      obtain rfl : fn = Tryd.f3 := (Option.some.inj (Tryd.func3.symm.trans hfn)).symm
      exact ⟨lineAll_looks, fun j t ht => by
        rw [Tryd.params3] at ht
        have hm : t ∈ [3, 3, 3] := by simpa using Array.mem_of_getElem? ht
        exact (show Tryd.prog.wantsStandIn t = false by simpa using List.all_eq_true.1 lineAll_wants t hm)⟩)
    lineAll_goes
end Go.Proofs.YtpdkonpnhalecaaDoor
