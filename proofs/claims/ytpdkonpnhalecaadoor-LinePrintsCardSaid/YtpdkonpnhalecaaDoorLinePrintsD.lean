/-
  LinePrints returns true for every input and leaves its arguments as they were: the tied card. No condition.
-/
import Derived.Test.YtpdkonpnhalecaaDoorLinePrintsC
import Derived.SevenTiedAt
namespace Go.Proofs.YtpdkonpnhalecaaDoor
open Go.ChangeShapes Go.WideShapes Go.ChangeAt Go.WideElems Go.RowKit
set_option maxRecDepth 100000
theorem linePrints_text : Rows.linePrintsRow.wfByText (OpenSpec.ofChange Rows.linePrintsSpec) = true := by kernel_rfl
theorem linePrints_main : Tryd.pinned.checked.prog.mainIs = some (Rows.linePrintsCard.stood.harness.1, Rows.linePrintsCard.stood.harness.2.toList) := by kernel_rfl
theorem linePrints_looks : true = Tryd.pinned.checked.prog.looks [] := by kernel_rfl
theorem linePrints_wants : ([28].all fun u => !Tryd.prog.wantsStandIn u) = true := by kernel_rfl
theorem linePrints_goes : false = Rows.linePrintsRow.goesBy Tryd.pinned.checked.prog := by kernel_rfl
theorem linePrints_card : Rows.LinePrintsCardSaid :=
  Claim7.holds_tied_plain_at .later [] [.data, .data, .data, .data, .sentinel, .sentinel, .pinned] true _ true
    linePrints_holds (fun _ h => by cases h) linePrints_text (fun _ h => by cases h) linePrints_row_tie rfl ⟨rfl, rfl⟩ linePrints_main rfl
    (fun f fn hf hfn => by
      obtain rfl : f = 4 := Option.some.inj (linePrints_named.symm.trans hf) |>.symm
      obtain rfl : fn = Tryd.f4 := (Option.some.inj (Tryd.func4.symm.trans hfn)).symm
      exact ⟨linePrints_looks, fun j t ht => by
        rw [Tryd.params4] at ht
        have hm : t ∈ [28] := by simpa using Array.mem_of_getElem? ht
        exact (show Tryd.prog.wantsStandIn t = false by simpa using List.all_eq_true.1 linePrints_wants t hm)⟩)
    linePrints_goes
end Go.Proofs.YtpdkonpnhalecaaDoor
