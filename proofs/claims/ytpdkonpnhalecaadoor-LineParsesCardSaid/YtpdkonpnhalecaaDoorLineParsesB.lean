/-
  LineParses returns true for every input and leaves its arguments as they were: closed facts of the row. No condition.
-/
import Derived.Test.YtpdkonpnhalecaaDoorF7
import Derived.SevenTiedAt
namespace Go.Proofs.YtpdkonpnhalecaaDoor
open Go.ChangeShapes Go.WideShapes Go.ChangeAt Go.WideElems Go.RowKit
set_option maxRecDepth 100000
theorem lineParses_named : Tryd.pinned.checked.prog.funcNamed Rows.lineParsesRow.func = some 5 := by kernel_rfl
theorem lineParses_l0 : (Rows.lineParsesRow.wf (OpenSpec.ofChange Rows.lineParsesSpec)) = true := by kernel_rfl
theorem lineParses_l1 : (laidOutB Tryd.pinned.checked.prog) = true := by kernel_rfl
theorem lineParses_l2 : (mapsRowed Tryd.pinned.checked.prog) = true := by kernel_rfl
theorem lineParses_l3 : (Tryd.f5.params.all (Tryd.pinned.checked.prog.readableRec ·)) = true := by kernel_rfl
theorem lineParses_l4 : (namedTie Tryd.pinned.checked.prog Rows.lineParsesRow.named Rows.lineParsesSpec.vars) = true := by kernel_rfl
theorem lineParses_l5 : ((Rows.lineParsesRow.stops == [])) = true := by kernel_rfl
theorem lineParses_l6 : ((Tryd.pinned.checked.prog.stops == [])) = true := by kernel_rfl
theorem lineParses_l7 : ((Rows.lineParsesRow.knobs == [])) = true := by kernel_rfl
theorem lineParses_l8 : ((Tryd.pinned.checked.prog.stopKnobs == [])) = true := by kernel_rfl
theorem lineParses_l9 : ((Rows.lineParsesRow.inPlace == Tryd.pinned.checked.prog.inPlace 5)) = true := by kernel_rfl
theorem lineParses_l10 : ((Rows.lineParsesRow.unfollowed == Tryd.pinned.checked.prog.unfollowed 5)) = true := by kernel_rfl
theorem lineParses_l11 : ((Rows.lineParsesRow.recurses == Tryd.pinned.checked.prog.recurses 5)) = true := by kernel_rfl
theorem lineParses_l12 : ((Rows.lineParsesRow.named == Tryd.pinned.checked.prog.varsNamed 5)) = true := by kernel_rfl
theorem lineParses_l13 : ((Rows.lineParsesRow.maps == (Tryd.f5.params.toList ++ Rows.lineParsesSpec.plain.varTypes Tryd.pinned.checked.prog).any (Tryd.pinned.checked.prog.mapsRec ·))) = true := by kernel_rfl
theorem lineParses_l14 : ((Rows.lineParsesRow.ifaces == (Tryd.f5.params.toList ++ Rows.lineParsesSpec.plain.varTypes Tryd.pinned.checked.prog).any (Tryd.pinned.checked.prog.ifacesRec ·))) = true := by kernel_rfl
theorem lineParses_l15 : ((Rows.lineParsesRow.mapsOut == Tryd.pinned.checked.prog.mapsAmong Tryd.f5.resultTypes.toList)) = true := by kernel_rfl
theorem lineParses_l16 : ((Rows.lineParsesRow.loops == (Tryd.f5.params.toList ++ Rows.lineParsesSpec.plain.varTypes Tryd.pinned.checked.prog).any (Tryd.pinned.checked.prog.loopsFrom ·))) = true := by kernel_rfl
theorem lineParses_l17 : ((Rows.lineParsesRow.wideKeys == (Tryd.f5.params.toList ++ Rows.lineParsesSpec.plain.varTypes Tryd.pinned.checked.prog ++ Tryd.f5.resultTypes.toList).any (Tryd.pinned.checked.prog.wideKeysFrom ·))) = true := by kernel_rfl
theorem lineParses_l18 : (Rows.lineParsesSpec.vars.all (Tryd.pinned.checked.prog.varReadable ·)) = true := by kernel_rfl
theorem lineParses_l19 : (Tryd.f5.resultTypes.all (fun t => Tryd.pinned.checked.prog.readableRec t && decide (t < Tryd.pinned.checked.prog.types.size))) = true := by kernel_rfl
theorem lineParses_l20 : ((Rows.lineParsesRow.ifacesOut == Tryd.f5.resultTypes.toList.any (Tryd.pinned.checked.prog.ifacesRec ·))) = true := by kernel_rfl
theorem lineParses_l21 : ((Rows.lineParsesRow.loopsOut == Tryd.f5.resultTypes.toList.any (Tryd.pinned.checked.prog.loopsFrom ·))) = true := by kernel_rfl
theorem lineParses_l22 : ((Rows.lineParsesRow.plainKeys == Tryd.pinned.checked.prog.plainKeys)) = true := by kernel_rfl
theorem lineParses_l23 : (Rows.lineParsesRow.shortTexts.isNone) = true := by kernel_rfl
theorem lineParses_l24 : (Tryd.pinned.checked.prog.stopsHeard) = true := by kernel_rfl
theorem lineParses_l25 : (Tryd.pinned.checked.prog.mayEnter) = true := by kernel_rfl
theorem lineParses_l26 : ((Rows.lineParsesRow.lifted == Tryd.pinned.checked.prog.liftsFinal)) = true := by kernel_rfl
theorem lineParses_l27 : ((Tryd.pinned.checked.prog.make == some Rows.lineParsesRow.make)) = true := by kernel_rfl
theorem lineParses_l28 : ((Rows.lineParsesRow.kinds == (if Rows.lineParsesRow.domain.isEmpty then [] else Tryd.f5.params.toList.map fun t => match Tryd.pinned.checked.prog.underlying t with | some (.int k) => some k | _ => none))) = true := by kernel_rfl
theorem lineParses_l29 : ((Rows.lineParsesRow.pinned == Rows.lineParsesRow.pinnedBy)) = true := by kernel_rfl
theorem lineParses_l30 : ((Rows.lineParsesRow.veiled == (Tryd.f5.params.toList ++ Rows.lineParsesSpec.plain.varTypes Tryd.pinned.checked.prog ++ Tryd.f5.resultTypes.toList).any (Tryd.pinned.checked.prog.veiledRec ·))) = true := by kernel_rfl
theorem lineParses_l31 : (Rows.lineParsesRow.veiledFits Tryd.pinned.checked.prog Tryd.f5.params.toList (Tryd.f5.params.toList ++ Rows.lineParsesSpec.plain.varTypes Tryd.pinned.checked.prog ++ Tryd.f5.resultTypes.toList)) = true := by kernel_rfl
theorem lineParses_closed : joinedFacts Tryd.pinned.checked.prog 5 Tryd.f5 Rows.lineParsesSpec Rows.lineParsesRow = true := by
  unfold joinedFacts
  simp only [Bool.and_eq_true]
  exact ⟨⟨⟨⟨⟨⟨⟨⟨⟨⟨⟨⟨⟨⟨⟨⟨⟨⟨⟨⟨⟨⟨⟨⟨⟨⟨⟨⟨⟨⟨⟨lineParses_l0, lineParses_l1⟩, lineParses_l2⟩, lineParses_l3⟩, lineParses_l4⟩, lineParses_l5⟩, lineParses_l6⟩, lineParses_l7⟩, lineParses_l8⟩, lineParses_l9⟩, lineParses_l10⟩, lineParses_l11⟩, lineParses_l12⟩, lineParses_l13⟩, lineParses_l14⟩, lineParses_l15⟩, lineParses_l16⟩, lineParses_l17⟩, lineParses_l18⟩, lineParses_l19⟩, lineParses_l20⟩, lineParses_l21⟩, lineParses_l22⟩, lineParses_l23⟩, lineParses_l24⟩, lineParses_l25⟩, lineParses_l26⟩, lineParses_l27⟩, lineParses_l28⟩, lineParses_l29⟩, lineParses_l30⟩, lineParses_l31⟩
end Go.Proofs.YtpdkonpnhalecaaDoor
