/-
  CodeParses returns true for every input and leaves its arguments as they were: closed facts of the row. No condition.
-/
import Derived.Test.YtkjcmppaapbabaaDoorJV
import Derived.SevenTiedAt
namespace Go.Proofs.YtkjcmppaapbabaaDoor
open Go.ChangeShapes Go.WideShapes Go.ChangeAt Go.WideElems Go.RowKit
set_option maxRecDepth 100000
theorem codeParses_named : Tryd.pinned.checked.prog.funcNamed Rows.codeParsesRow.func = some 19 := by kernel_rfl
theorem codeParses_l0 : (Rows.codeParsesRow.wf (OpenSpec.ofChange Rows.codeParsesSpec)) = true := by kernel_rfl
theorem codeParses_l1 : (laidOutB Tryd.pinned.checked.prog) = true := by kernel_rfl
theorem codeParses_l2 : (mapsRowed Tryd.pinned.checked.prog) = true := by kernel_rfl
theorem codeParses_l3 : (Tryd.f19.params.all (Tryd.pinned.checked.prog.readableRec ·)) = true := by kernel_rfl
theorem codeParses_l4 : (namedTie Tryd.pinned.checked.prog Rows.codeParsesRow.named Rows.codeParsesSpec.vars) = true := by kernel_rfl
theorem codeParses_l5 : ((Rows.codeParsesRow.stops == [])) = true := by kernel_rfl
theorem codeParses_l6 : ((Tryd.pinned.checked.prog.stops == [])) = true := by kernel_rfl
theorem codeParses_l7 : ((Rows.codeParsesRow.knobs == [])) = true := by kernel_rfl
theorem codeParses_l8 : ((Tryd.pinned.checked.prog.stopKnobs == [])) = true := by kernel_rfl
theorem codeParses_l9 : ((Rows.codeParsesRow.inPlace == Tryd.pinned.checked.prog.inPlace 19)) = true := by kernel_rfl
theorem codeParses_l10 : ((Rows.codeParsesRow.unfollowed == Tryd.pinned.checked.prog.unfollowed 19)) = true := by kernel_rfl
theorem codeParses_l11 : ((Rows.codeParsesRow.recurses == Tryd.pinned.checked.prog.recurses 19)) = true := by kernel_rfl
theorem codeParses_l12 : ((Rows.codeParsesRow.named == Tryd.pinned.checked.prog.varsNamed 19)) = true := by kernel_rfl
theorem codeParses_l13 : ((Rows.codeParsesRow.maps == (Tryd.f19.params.toList ++ Rows.codeParsesSpec.plain.varTypes Tryd.pinned.checked.prog).any (Tryd.pinned.checked.prog.mapsRec ·))) = true := by kernel_rfl
theorem codeParses_l14 : ((Rows.codeParsesRow.ifaces == (Tryd.f19.params.toList ++ Rows.codeParsesSpec.plain.varTypes Tryd.pinned.checked.prog).any (Tryd.pinned.checked.prog.ifacesRec ·))) = true := by kernel_rfl
theorem codeParses_l15 : ((Rows.codeParsesRow.mapsOut == Tryd.pinned.checked.prog.mapsAmong Tryd.f19.resultTypes.toList)) = true := by kernel_rfl
theorem codeParses_l16 : ((Rows.codeParsesRow.loops == (Tryd.f19.params.toList ++ Rows.codeParsesSpec.plain.varTypes Tryd.pinned.checked.prog).any (Tryd.pinned.checked.prog.loopsFrom ·))) = true := by kernel_rfl
theorem codeParses_l17 : ((Rows.codeParsesRow.wideKeys == (Tryd.f19.params.toList ++ Rows.codeParsesSpec.plain.varTypes Tryd.pinned.checked.prog ++ Tryd.f19.resultTypes.toList).any (Tryd.pinned.checked.prog.wideKeysFrom ·))) = true := by kernel_rfl
theorem codeParses_l18 : (Rows.codeParsesSpec.vars.all (Tryd.pinned.checked.prog.varReadable ·)) = true := by kernel_rfl
theorem codeParses_l19 : (Tryd.f19.resultTypes.all (fun t => Tryd.pinned.checked.prog.readableRec t && decide (t < Tryd.pinned.checked.prog.types.size))) = true := by kernel_rfl
theorem codeParses_l20 : ((Rows.codeParsesRow.ifacesOut == Tryd.f19.resultTypes.toList.any (Tryd.pinned.checked.prog.ifacesRec ·))) = true := by kernel_rfl
theorem codeParses_l21 : ((Rows.codeParsesRow.loopsOut == Tryd.f19.resultTypes.toList.any (Tryd.pinned.checked.prog.loopsFrom ·))) = true := by kernel_rfl
theorem codeParses_l22 : ((Rows.codeParsesRow.plainKeys == Tryd.pinned.checked.prog.plainKeys)) = true := by kernel_rfl
theorem codeParses_l23 : (Rows.codeParsesRow.shortTexts.isNone) = true := by kernel_rfl
theorem codeParses_l24 : (Tryd.pinned.checked.prog.stopsHeard) = true := by kernel_rfl
theorem codeParses_l25 : (Tryd.pinned.checked.prog.mayEnter) = true := by kernel_rfl
theorem codeParses_l26 : ((Rows.codeParsesRow.lifted == Tryd.pinned.checked.prog.liftsFinal)) = true := by kernel_rfl
theorem codeParses_l27 : ((Tryd.pinned.checked.prog.make == some Rows.codeParsesRow.make)) = true := by kernel_rfl
theorem codeParses_l28 : ((Rows.codeParsesRow.kinds == (if Rows.codeParsesRow.domain.isEmpty then [] else Tryd.f19.params.toList.map fun t => match Tryd.pinned.checked.prog.underlying t with | some (.int k) => some k | _ => none))) = true := by kernel_rfl
theorem codeParses_l29 : ((Rows.codeParsesRow.pinned == Rows.codeParsesRow.pinnedBy)) = true := by kernel_rfl
theorem codeParses_l30 : ((Rows.codeParsesRow.veiled == (Tryd.f19.params.toList ++ Rows.codeParsesSpec.plain.varTypes Tryd.pinned.checked.prog ++ Tryd.f19.resultTypes.toList).any (Tryd.pinned.checked.prog.veiledRec ·))) = true := by kernel_rfl
theorem codeParses_l31 : (Rows.codeParsesRow.veiledFits Tryd.pinned.checked.prog Tryd.f19.params.toList (Tryd.f19.params.toList ++ Rows.codeParsesSpec.plain.varTypes Tryd.pinned.checked.prog ++ Tryd.f19.resultTypes.toList)) = true := by kernel_rfl
theorem codeParses_closed : joinedFacts Tryd.pinned.checked.prog 19 Tryd.f19 Rows.codeParsesSpec Rows.codeParsesRow = true := by
  unfold joinedFacts
  simp only [Bool.and_eq_true]
  exact ⟨⟨⟨⟨⟨⟨⟨⟨⟨⟨⟨⟨⟨⟨⟨⟨⟨⟨⟨⟨⟨⟨⟨⟨⟨⟨⟨⟨⟨⟨⟨codeParses_l0, codeParses_l1⟩, codeParses_l2⟩, codeParses_l3⟩, codeParses_l4⟩, codeParses_l5⟩, codeParses_l6⟩, codeParses_l7⟩, codeParses_l8⟩, codeParses_l9⟩, codeParses_l10⟩, codeParses_l11⟩, codeParses_l12⟩, codeParses_l13⟩, codeParses_l14⟩, codeParses_l15⟩, codeParses_l16⟩, codeParses_l17⟩, codeParses_l18⟩, codeParses_l19⟩, codeParses_l20⟩, codeParses_l21⟩, codeParses_l22⟩, codeParses_l23⟩, codeParses_l24⟩, codeParses_l25⟩, codeParses_l26⟩, codeParses_l27⟩, codeParses_l28⟩, codeParses_l29⟩, codeParses_l30⟩, codeParses_l31⟩
end Go.Proofs.YtkjcmppaapbabaaDoor
