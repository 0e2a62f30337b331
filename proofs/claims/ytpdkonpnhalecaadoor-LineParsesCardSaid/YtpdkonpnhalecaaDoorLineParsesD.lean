/-
  LineParses returns true for every input and leaves its arguments as they were: the tied card. No condition.
-/
import Derived.Test.YtpdkonpnhalecaaDoorLineParsesC
import Derived.SevenTiedAt
namespace Go.Proofs.YtpdkonpnhalecaaDoor
open Go.ChangeShapes Go.WideShapes Go.ChangeAt Go.WideElems Go.RowKit
set_option maxRecDepth 100000
theorem lineParses_text : Rows.lineParsesRow.wfByText (OpenSpec.ofChange Rows.lineParsesSpec) = true := by kernel_rfl
theorem lineParses_main : Tryd.pinned.checked.prog.mainIs = some (Rows.lineParsesCard.stood.harness.1, Rows.lineParsesCard.stood.harness.2.toList) := by kernel_rfl
theorem lineParses_looks : true = Tryd.pinned.checked.prog.looks [] := by kernel_rfl
theorem lineParses_wants : ([9].all fun u => !Tryd.prog.wantsStandIn u) = true := by kernel_rfl
theorem lineParses_goes : false = Rows.lineParsesRow.goesBy Tryd.pinned.checked.prog := by kernel_rfl
theorem lineParses_card : Rows.LineParsesCardSaid :=
  Claim7.holds_tied_plain_at .later [] [.data, .data, .data, .data, .sentinel, .sentinel, .pinned] true _ true
    lineParses_holds (fun _ h => by cases h) lineParses_text (fun _ h => by cases h) lineParses_row_tie rfl ⟨rfl, rfl⟩ lineParses_main rfl
    (fun f fn hf hfn => by
      obtain rfl : f = 5 := Option.some.inj (lineParses_named.symm.trans hf) |>.symm
      obtain rfl : fn = Tryd.f5 := (Option.some.inj (Tryd.func5.symm.trans hfn)).symm
      exact ⟨lineParses_looks, fun j t ht => by
        rw [Tryd.params5] at ht
        have hm : t ∈ [9] := by simpa using Array.mem_of_getElem? ht
        exact (show Tryd.prog.wantsStandIn t = false by simpa using List.all_eq_true.1 lineParses_wants t hm)⟩)
    lineParses_goes
end Go.Proofs.YtpdkonpnhalecaaDoor
