/-
  CodeStarts returns true for every input and leaves its arguments as they were: closed facts of the row. No condition.
-/
import Derived.Test.YtkjcmppaapbabaaDoorJV
import Derived.SevenTiedAt
namespace Go.Proofs.YtkjcmppaapbabaaDoor
open Go.ChangeShapes Go.WideShapes Go.ChangeAt Go.WideElems Go.RowKit
set_option maxRecDepth 100000
theorem codeStarts_named : Tryd.pinned.checked.prog.funcNamed Rows.codeStartsRow.func = some 13 := by kernel_rfl
theorem codeStarts_l0 : (Rows.codeStartsRow.wf (OpenSpec.ofChange Rows.codeStartsSpec)) = true := by kernel_rfl
theorem codeStarts_l1 : (laidOutB Tryd.pinned.checked.prog) = true := by kernel_rfl
theorem codeStarts_l2 : (mapsRowed Tryd.pinned.checked.prog) = true := by kernel_rfl
theorem codeStarts_l3 : (Tryd.f13.params.all (Tryd.pinned.checked.prog.readableRec ·)) = true := by kernel_rfl
theorem codeStarts_l4 : (namedTie Tryd.pinned.checked.prog Rows.codeStartsRow.named Rows.codeStartsSpec.vars) = true := by kernel_rfl
theorem codeStarts_l5 : ((Rows.codeStartsRow.stops == [])) = true := by kernel_rfl
theorem codeStarts_l6 : ((Tryd.pinned.checked.prog.stops == [])) = true := by kernel_rfl
theorem codeStarts_l7 : ((Rows.codeStartsRow.knobs == [])) = true := by kernel_rfl
theorem codeStarts_l8 : ((Tryd.pinned.checked.prog.stopKnobs == [])) = true := by kernel_rfl
theorem codeStarts_l9 : ((Rows.codeStartsRow.inPlace == Tryd.pinned.checked.prog.inPlace 13)) = true := by kernel_rfl
theorem codeStarts_l10 : ((Rows.codeStartsRow.unfollowed == Tryd.pinned.checked.prog.unfollowed 13)) = true := by kernel_rfl
theorem codeStarts_l11 : ((Rows.codeStartsRow.recurses == Tryd.pinned.checked.prog.recurses 13)) = true := by kernel_rfl
theorem codeStarts_l12 : ((Rows.codeStartsRow.named == Tryd.pinned.checked.prog.varsNamed 13)) = true := by kernel_rfl
theorem codeStarts_l13 : ((Rows.codeStartsRow.maps == (Tryd.f13.params.toList ++ Rows.codeStartsSpec.plain.varTypes Tryd.pinned.checked.prog).any (Tryd.pinned.checked.prog.mapsRec ·))) = true := by kernel_rfl
theorem codeStarts_l14 : ((Rows.codeStartsRow.ifaces == (Tryd.f13.params.toList ++ Rows.codeStartsSpec.plain.varTypes Tryd.pinned.checked.prog).any (Tryd.pinned.checked.prog.ifacesRec ·))) = true := by kernel_rfl
theorem codeStarts_l15 : ((Rows.codeStartsRow.mapsOut == Tryd.pinned.checked.prog.mapsAmong Tryd.f13.resultTypes.toList)) = true := by kernel_rfl
theorem codeStarts_l16 : ((Rows.codeStartsRow.loops == (Tryd.f13.params.toList ++ Rows.codeStartsSpec.plain.varTypes Tryd.pinned.checked.prog).any (Tryd.pinned.checked.prog.loopsFrom ·))) = true := by kernel_rfl
theorem codeStarts_l17 : ((Rows.codeStartsRow.wideKeys == (Tryd.f13.params.toList ++ Rows.codeStartsSpec.plain.varTypes Tryd.pinned.checked.prog ++ Tryd.f13.resultTypes.toList).any (Tryd.pinned.checked.prog.wideKeysFrom ·))) = true := by kernel_rfl
theorem codeStarts_l18 : (Rows.codeStartsSpec.vars.all (Tryd.pinned.checked.prog.varReadable ·)) = true := by kernel_rfl
theorem codeStarts_l19 : (Tryd.f13.resultTypes.all (fun t => Tryd.pinned.checked.prog.readableRec t && decide (t < Tryd.pinned.checked.prog.types.size))) = true := by kernel_rfl
theorem codeStarts_l20 : ((Rows.codeStartsRow.ifacesOut == Tryd.f13.resultTypes.toList.any (Tryd.pinned.checked.prog.ifacesRec ·))) = true := by kernel_rfl
theorem codeStarts_l21 : ((Rows.codeStartsRow.loopsOut == Tryd.f13.resultTypes.toList.any (Tryd.pinned.checked.prog.loopsFrom ·))) = true := by kernel_rfl
theorem codeStarts_l22 : ((Rows.codeStartsRow.plainKeys == Tryd.pinned.checked.prog.plainKeys)) = true := by kernel_rfl
theorem codeStarts_l23 : (Rows.codeStartsRow.shortTexts.isNone) = true := by kernel_rfl
theorem codeStarts_l24 : (Tryd.pinned.checked.prog.stopsHeard) = true := by kernel_rfl
theorem codeStarts_l25 : (Tryd.pinned.checked.prog.mayEnter) = true := by kernel_rfl
theorem codeStarts_l26 : ((Rows.codeStartsRow.lifted == Tryd.pinned.checked.prog.liftsFinal)) = true := by kernel_rfl
theorem codeStarts_l27 : ((Tryd.pinned.checked.prog.make == some Rows.codeStartsRow.make)) = true := by kernel_rfl
theorem codeStarts_l28 : ((Rows.codeStartsRow.kinds == (if Rows.codeStartsRow.domain.isEmpty then [] else Tryd.f13.params.toList.map fun t => match Tryd.pinned.checked.prog.underlying t with | some (.int k) => some k | _ => none))) = true := by kernel_rfl
theorem codeStarts_l29 : ((Rows.codeStartsRow.pinned == Rows.codeStartsRow.pinnedBy)) = true := by kernel_rfl
theorem codeStarts_l30 : ((Rows.codeStartsRow.veiled == (Tryd.f13.params.toList ++ Rows.codeStartsSpec.plain.varTypes Tryd.pinned.checked.prog ++ Tryd.f13.resultTypes.toList).any (Tryd.pinned.checked.prog.veiledRec ·))) = true := by kernel_rfl
theorem codeStarts_l31 : (Rows.codeStartsRow.veiledFits Tryd.pinned.checked.prog Tryd.f13.params.toList (Tryd.f13.params.toList ++ Rows.codeStartsSpec.plain.varTypes Tryd.pinned.checked.prog ++ Tryd.f13.resultTypes.toList)) = true := by kernel_rfl
theorem codeStarts_closed : joinedFacts Tryd.pinned.checked.prog 13 Tryd.f13 Rows.codeStartsSpec Rows.codeStartsRow = true := by
  unfold joinedFacts
  simp only [Bool.and_eq_true]
  exact ⟨⟨⟨⟨⟨⟨⟨⟨⟨⟨⟨⟨⟨⟨⟨⟨⟨⟨⟨⟨⟨⟨⟨⟨⟨⟨⟨⟨⟨⟨⟨codeStarts_l0, codeStarts_l1⟩, codeStarts_l2⟩, codeStarts_l3⟩, codeStarts_l4⟩, codeStarts_l5⟩, codeStarts_l6⟩, codeStarts_l7⟩, codeStarts_l8⟩, codeStarts_l9⟩, codeStarts_l10⟩, codeStarts_l11⟩, codeStarts_l12⟩, codeStarts_l13⟩, codeStarts_l14⟩, codeStarts_l15⟩, codeStarts_l16⟩, codeStarts_l17⟩, codeStarts_l18⟩, codeStarts_l19⟩, codeStarts_l20⟩, codeStarts_l21⟩, codeStarts_l22⟩, codeStarts_l23⟩, codeStarts_l24⟩, codeStarts_l25⟩, codeStarts_l26⟩, codeStarts_l27⟩, codeStarts_l28⟩, codeStarts_l29⟩, codeStarts_l30⟩, codeStarts_l31⟩
end Go.Proofs.YtkjcmppaapbabaaDoor
