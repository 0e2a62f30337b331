/-
  LinePrints returns true for every input and leaves its arguments as they were: closed facts of the row. No condition.
-/
import Derived.Test.YtpdkonpnhalecaaDoorF7
import Derived.SevenTiedAt
namespace Go.Proofs.YtpdkonpnhalecaaDoor
open Go.ChangeShapes Go.WideShapes Go.ChangeAt Go.WideElems Go.RowKit
set_option maxRecDepth 100000
theorem linePrints_named : Tryd.pinned.checked.prog.funcNamed Rows.linePrintsRow.func = some 4 := by kernel_rfl
theorem linePrints_l0 : (Rows.linePrintsRow.wf (OpenSpec.ofChange Rows.linePrintsSpec)) = true := by kernel_rfl
theorem linePrints_l1 : (laidOutB Tryd.pinned.checked.prog) = true := by kernel_rfl
theorem linePrints_l2 : (mapsRowed Tryd.pinned.checked.prog) = true := by kernel_rfl
theorem linePrints_l3 : (Tryd.f4.params.all (Tryd.pinned.checked.prog.readableRec ·)) = true := by kernel_rfl
theorem linePrints_l4 : (namedTie Tryd.pinned.checked.prog Rows.linePrintsRow.named Rows.linePrintsSpec.vars) = true := by kernel_rfl
theorem linePrints_l5 : ((Rows.linePrintsRow.stops == [])) = true := by kernel_rfl
theorem linePrints_l6 : ((Tryd.pinned.checked.prog.stops == [])) = true := by kernel_rfl
theorem linePrints_l7 : ((Rows.linePrintsRow.knobs == [])) = true := by kernel_rfl
theorem linePrints_l8 : ((Tryd.pinned.checked.prog.stopKnobs == [])) = true := by kernel_rfl
theorem linePrints_l9 : ((Rows.linePrintsRow.inPlace == Tryd.pinned.checked.prog.inPlace 4)) = true := by kernel_rfl
theorem linePrints_l10 : ((Rows.linePrintsRow.unfollowed == Tryd.pinned.checked.prog.unfollowed 4)) = true := by kernel_rfl
theorem linePrints_l11 : ((Rows.linePrintsRow.recurses == Tryd.pinned.checked.prog.recurses 4)) = true := by kernel_rfl
theorem linePrints_l12 : ((Rows.linePrintsRow.named == Tryd.pinned.checked.prog.varsNamed 4)) = true := by kernel_rfl
theorem linePrints_l13 : ((Rows.linePrintsRow.maps == (Tryd.f4.params.toList ++ Rows.linePrintsSpec.plain.varTypes Tryd.pinned.checked.prog).any (Tryd.pinned.checked.prog.mapsRec ·))) = true := by kernel_rfl
theorem linePrints_l14 : ((Rows.linePrintsRow.ifaces == (Tryd.f4.params.toList ++ Rows.linePrintsSpec.plain.varTypes Tryd.pinned.checked.prog).any (Tryd.pinned.checked.prog.ifacesRec ·))) = true := by kernel_rfl
theorem linePrints_l15 : ((Rows.linePrintsRow.mapsOut == Tryd.pinned.checked.prog.mapsAmong Tryd.f4.resultTypes.toList)) = true := by kernel_rfl
theorem linePrints_l16 : ((Rows.linePrintsRow.loops == (Tryd.f4.params.toList ++ Rows.linePrintsSpec.plain.varTypes Tryd.pinned.checked.prog).any (Tryd.pinned.checked.prog.loopsFrom ·))) = true := by kernel_rfl
theorem linePrints_l17 : ((Rows.linePrintsRow.wideKeys == (Tryd.f4.params.toList ++ Rows.linePrintsSpec.plain.varTypes Tryd.pinned.checked.prog ++ Tryd.f4.resultTypes.toList).any (Tryd.pinned.checked.prog.wideKeysFrom ·))) = true := by kernel_rfl
theorem linePrints_l18 : (Rows.linePrintsSpec.vars.all (Tryd.pinned.checked.prog.varReadable ·)) = true := by kernel_rfl
theorem linePrints_l19 : (Tryd.f4.resultTypes.all (fun t => Tryd.pinned.checked.prog.readableRec t && decide (t < Tryd.pinned.checked.prog.types.size))) = true := by kernel_rfl
theorem linePrints_l20 : ((Rows.linePrintsRow.ifacesOut == Tryd.f4.resultTypes.toList.any (Tryd.pinned.checked.prog.ifacesRec ·))) = true := by kernel_rfl
theorem linePrints_l21 : ((Rows.linePrintsRow.loopsOut == Tryd.f4.resultTypes.toList.any (Tryd.pinned.checked.prog.loopsFrom ·))) = true := by kernel_rfl
theorem linePrints_l22 : ((Rows.linePrintsRow.plainKeys == Tryd.pinned.checked.prog.plainKeys)) = true := by kernel_rfl
theorem linePrints_l23 : (Rows.linePrintsRow.shortTexts.isNone) = true := by kernel_rfl
theorem linePrints_l24 : (Tryd.pinned.checked.prog.stopsHeard) = true := by kernel_rfl
theorem linePrints_l25 : (Tryd.pinned.checked.prog.mayEnter) = true := by kernel_rfl
theorem linePrints_l26 : ((Rows.linePrintsRow.lifted == Tryd.pinned.checked.prog.liftsFinal)) = true := by kernel_rfl
theorem linePrints_l27 : ((Tryd.pinned.checked.prog.make == some Rows.linePrintsRow.make)) = true := by kernel_rfl
theorem linePrints_l28 : ((Rows.linePrintsRow.kinds == (if Rows.linePrintsRow.domain.isEmpty then [] else Tryd.f4.params.toList.map fun t => match Tryd.pinned.checked.prog.underlying t with | some (.int k) => some k | _ => none))) = true := by kernel_rfl
theorem linePrints_l29 : ((Rows.linePrintsRow.pinned == Rows.linePrintsRow.pinnedBy)) = true := by kernel_rfl
theorem linePrints_l30 : ((Rows.linePrintsRow.veiled == (Tryd.f4.params.toList ++ Rows.linePrintsSpec.plain.varTypes Tryd.pinned.checked.prog ++ Tryd.f4.resultTypes.toList).any (Tryd.pinned.checked.prog.veiledRec ·))) = true := by kernel_rfl
theorem linePrints_l31 : (Rows.linePrintsRow.veiledFits Tryd.pinned.checked.prog Tryd.f4.params.toList (Tryd.f4.params.toList ++ Rows.linePrintsSpec.plain.varTypes Tryd.pinned.checked.prog ++ Tryd.f4.resultTypes.toList)) = true := by kernel_rfl
theorem linePrints_closed : joinedFacts Tryd.pinned.checked.prog 4 Tryd.f4 Rows.linePrintsSpec Rows.linePrintsRow = true := by
  unfold joinedFacts
  simp only [Bool.and_eq_true]
  exact ⟨⟨⟨⟨⟨⟨⟨⟨⟨⟨⟨⟨⟨⟨⟨⟨⟨⟨⟨⟨⟨⟨⟨⟨⟨⟨⟨⟨⟨⟨⟨linePrints_l0, linePrints_l1⟩, linePrints_l2⟩, linePrints_l3⟩, linePrints_l4⟩, linePrints_l5⟩, linePrints_l6⟩, linePrints_l7⟩, linePrints_l8⟩, linePrints_l9⟩, linePrints_l10⟩, linePrints_l11⟩, linePrints_l12⟩, linePrints_l13⟩, linePrints_l14⟩, linePrints_l15⟩, linePrints_l16⟩, linePrints_l17⟩, linePrints_l18⟩, linePrints_l19⟩, linePrints_l20⟩, linePrints_l21⟩, linePrints_l22⟩, linePrints_l23⟩, linePrints_l24⟩, linePrints_l25⟩, linePrints_l26⟩, linePrints_l27⟩, linePrints_l28⟩, linePrints_l29⟩, linePrints_l30⟩, linePrints_l31⟩
end Go.Proofs.YtpdkonpnhalecaaDoor
