/-
  CodeErrors returns true for every input and leaves its arguments as they were: closed facts of the row. No condition.
-/
import Derived.Test.YtkjcmppaapbabaaDoorJV
import Derived.SevenTiedAt
namespace Go.Proofs.YtkjcmppaapbabaaDoor
open Go.ChangeShapes Go.WideShapes Go.ChangeAt Go.WideElems Go.RowKit
set_option maxRecDepth 100000
theorem codeErrors_named : Tryd.pinned.checked.prog.funcNamed Rows.codeErrorsRow.func = some 16 := by kernel_rfl
theorem codeErrors_l0 : (Rows.codeErrorsRow.wf (OpenSpec.ofChange Rows.codeErrorsSpec)) = true := by kernel_rfl
theorem codeErrors_l1 : (laidOutB Tryd.pinned.checked.prog) = true := by kernel_rfl
theorem codeErrors_l2 : (mapsRowed Tryd.pinned.checked.prog) = true := by kernel_rfl
theorem codeErrors_l3 : (Tryd.f16.params.all (Tryd.pinned.checked.prog.readableRec ·)) = true := by kernel_rfl
theorem codeErrors_l4 : (namedTie Tryd.pinned.checked.prog Rows.codeErrorsRow.named Rows.codeErrorsSpec.vars) = true := by kernel_rfl
theorem codeErrors_l5 : ((Rows.codeErrorsRow.stops == [])) = true := by kernel_rfl
theorem codeErrors_l6 : ((Tryd.pinned.checked.prog.stops == [])) = true := by kernel_rfl
theorem codeErrors_l7 : ((Rows.codeErrorsRow.knobs == [])) = true := by kernel_rfl
theorem codeErrors_l8 : ((Tryd.pinned.checked.prog.stopKnobs == [])) = true := by kernel_rfl
theorem codeErrors_l9 : ((Rows.codeErrorsRow.inPlace == Tryd.pinned.checked.prog.inPlace 16)) = true := by kernel_rfl
theorem codeErrors_l10 : ((Rows.codeErrorsRow.unfollowed == Tryd.pinned.checked.prog.unfollowed 16)) = true := by kernel_rfl
theorem codeErrors_l11 : ((Rows.codeErrorsRow.recurses == Tryd.pinned.checked.prog.recurses 16)) = true := by kernel_rfl
theorem codeErrors_l12 : ((Rows.codeErrorsRow.named == Tryd.pinned.checked.prog.varsNamed 16)) = true := by kernel_rfl
theorem codeErrors_l13 : ((Rows.codeErrorsRow.maps == (Tryd.f16.params.toList ++ Rows.codeErrorsSpec.plain.varTypes Tryd.pinned.checked.prog).any (Tryd.pinned.checked.prog.mapsRec ·))) = true := by kernel_rfl
theorem codeErrors_l14 : ((Rows.codeErrorsRow.ifaces == (Tryd.f16.params.toList ++ Rows.codeErrorsSpec.plain.varTypes Tryd.pinned.checked.prog).any (Tryd.pinned.checked.prog.ifacesRec ·))) = true := by kernel_rfl
theorem codeErrors_l15 : ((Rows.codeErrorsRow.mapsOut == Tryd.pinned.checked.prog.mapsAmong Tryd.f16.resultTypes.toList)) = true := by kernel_rfl
theorem codeErrors_l16 : ((Rows.codeErrorsRow.loops == (Tryd.f16.params.toList ++ Rows.codeErrorsSpec.plain.varTypes Tryd.pinned.checked.prog).any (Tryd.pinned.checked.prog.loopsFrom ·))) = true := by kernel_rfl
theorem codeErrors_l17 : ((Rows.codeErrorsRow.wideKeys == (Tryd.f16.params.toList ++ Rows.codeErrorsSpec.plain.varTypes Tryd.pinned.checked.prog ++ Tryd.f16.resultTypes.toList).any (Tryd.pinned.checked.prog.wideKeysFrom ·))) = true := by kernel_rfl
theorem codeErrors_l18 : (Rows.codeErrorsSpec.vars.all (Tryd.pinned.checked.prog.varReadable ·)) = true := by kernel_rfl
theorem codeErrors_l19 : (Tryd.f16.resultTypes.all (fun t => Tryd.pinned.checked.prog.readableRec t && decide (t < Tryd.pinned.checked.prog.types.size))) = true := by kernel_rfl
theorem codeErrors_l20 : ((Rows.codeErrorsRow.ifacesOut == Tryd.f16.resultTypes.toList.any (Tryd.pinned.checked.prog.ifacesRec ·))) = true := by kernel_rfl
theorem codeErrors_l21 : ((Rows.codeErrorsRow.loopsOut == Tryd.f16.resultTypes.toList.any (Tryd.pinned.checked.prog.loopsFrom ·))) = true := by kernel_rfl
theorem codeErrors_l22 : ((Rows.codeErrorsRow.plainKeys == Tryd.pinned.checked.prog.plainKeys)) = true := by kernel_rfl
theorem codeErrors_l23 : (Rows.codeErrorsRow.shortTexts.isNone) = true := by kernel_rfl
theorem codeErrors_l24 : (Tryd.pinned.checked.prog.stopsHeard) = true := by kernel_rfl
theorem codeErrors_l25 : (Tryd.pinned.checked.prog.mayEnter) = true := by kernel_rfl
theorem codeErrors_l26 : ((Rows.codeErrorsRow.lifted == Tryd.pinned.checked.prog.liftsFinal)) = true := by kernel_rfl
theorem codeErrors_l27 : ((Tryd.pinned.checked.prog.make == some Rows.codeErrorsRow.make)) = true := by kernel_rfl
theorem codeErrors_l28 : ((Rows.codeErrorsRow.kinds == (if Rows.codeErrorsRow.domain.isEmpty then [] else Tryd.f16.params.toList.map fun t => match Tryd.pinned.checked.prog.underlying t with | some (.int k) => some k | _ => none))) = true := by kernel_rfl
theorem codeErrors_l29 : ((Rows.codeErrorsRow.pinned == Rows.codeErrorsRow.pinnedBy)) = true := by kernel_rfl
theorem codeErrors_l30 : ((Rows.codeErrorsRow.veiled == (Tryd.f16.params.toList ++ Rows.codeErrorsSpec.plain.varTypes Tryd.pinned.checked.prog ++ Tryd.f16.resultTypes.toList).any (Tryd.pinned.checked.prog.veiledRec ·))) = true := by kernel_rfl
theorem codeErrors_l31 : (Rows.codeErrorsRow.veiledFits Tryd.pinned.checked.prog Tryd.f16.params.toList (Tryd.f16.params.toList ++ Rows.codeErrorsSpec.plain.varTypes Tryd.pinned.checked.prog ++ Tryd.f16.resultTypes.toList)) = true := by kernel_rfl
theorem codeErrors_closed : joinedFacts Tryd.pinned.checked.prog 16 Tryd.f16 Rows.codeErrorsSpec Rows.codeErrorsRow = true := by
  unfold joinedFacts
  simp only [Bool.and_eq_true]
  exact ⟨⟨⟨⟨⟨⟨⟨⟨⟨⟨⟨⟨⟨⟨⟨⟨⟨⟨⟨⟨⟨⟨⟨⟨⟨⟨⟨⟨⟨⟨⟨codeErrors_l0, codeErrors_l1⟩, codeErrors_l2⟩, codeErrors_l3⟩, codeErrors_l4⟩, codeErrors_l5⟩, codeErrors_l6⟩, codeErrors_l7⟩, codeErrors_l8⟩, codeErrors_l9⟩, codeErrors_l10⟩, codeErrors_l11⟩, codeErrors_l12⟩, codeErrors_l13⟩, codeErrors_l14⟩, codeErrors_l15⟩, codeErrors_l16⟩, codeErrors_l17⟩, codeErrors_l18⟩, codeErrors_l19⟩, codeErrors_l20⟩, codeErrors_l21⟩, codeErrors_l22⟩, codeErrors_l23⟩, codeErrors_l24⟩, codeErrors_l25⟩, codeErrors_l26⟩, codeErrors_l27⟩, codeErrors_l28⟩, codeErrors_l29⟩, codeErrors_l30⟩, codeErrors_l31⟩
end Go.Proofs.YtkjcmppaapbabaaDoor
