/-
  CodeWords returns true for every input and leaves its arguments as they were: closed facts of the row. No condition.
-/
import Derived.Test.YtkjcmppaapbabaaDoorJV
import Derived.SevenTiedAt
namespace Go.Proofs.YtkjcmppaapbabaaDoor
open Go.ChangeShapes Go.WideShapes Go.ChangeAt Go.WideElems Go.RowKit
set_option maxRecDepth 100000
theorem codeWords_named : Tryd.pinned.checked.prog.funcNamed Rows.codeWordsRow.func = some 17 := by kernel_rfl
theorem codeWords_l0 : (Rows.codeWordsRow.wf (OpenSpec.ofChange Rows.codeWordsSpec)) = true := by kernel_rfl
theorem codeWords_l1 : (laidOutB Tryd.pinned.checked.prog) = true := by kernel_rfl
theorem codeWords_l2 : (mapsRowed Tryd.pinned.checked.prog) = true := by kernel_rfl
theorem codeWords_l3 : (Tryd.f17.params.all (Tryd.pinned.checked.prog.readableRec ·)) = true := by kernel_rfl
theorem codeWords_l4 : (namedTie Tryd.pinned.checked.prog Rows.codeWordsRow.named Rows.codeWordsSpec.vars) = true := by kernel_rfl
theorem codeWords_l5 : ((Rows.codeWordsRow.stops == [])) = true := by kernel_rfl
theorem codeWords_l6 : ((Tryd.pinned.checked.prog.stops == [])) = true := by kernel_rfl
theorem codeWords_l7 : ((Rows.codeWordsRow.knobs == [])) = true := by kernel_rfl
theorem codeWords_l8 : ((Tryd.pinned.checked.prog.stopKnobs == [])) = true := by kernel_rfl
theorem codeWords_l9 : ((Rows.codeWordsRow.inPlace == Tryd.pinned.checked.prog.inPlace 17)) = true := by kernel_rfl
theorem codeWords_l10 : ((Rows.codeWordsRow.unfollowed == Tryd.pinned.checked.prog.unfollowed 17)) = true := by kernel_rfl
theorem codeWords_l11 : ((Rows.codeWordsRow.recurses == Tryd.pinned.checked.prog.recurses 17)) = true := by kernel_rfl
theorem codeWords_l12 : ((Rows.codeWordsRow.named == Tryd.pinned.checked.prog.varsNamed 17)) = true := by kernel_rfl
theorem codeWords_l13 : ((Rows.codeWordsRow.maps == (Tryd.f17.params.toList ++ Rows.codeWordsSpec.plain.varTypes Tryd.pinned.checked.prog).any (Tryd.pinned.checked.prog.mapsRec ·))) = true := by kernel_rfl
theorem codeWords_l14 : ((Rows.codeWordsRow.ifaces == (Tryd.f17.params.toList ++ Rows.codeWordsSpec.plain.varTypes Tryd.pinned.checked.prog).any (Tryd.pinned.checked.prog.ifacesRec ·))) = true := by kernel_rfl
theorem codeWords_l15 : ((Rows.codeWordsRow.mapsOut == Tryd.pinned.checked.prog.mapsAmong Tryd.f17.resultTypes.toList)) = true := by kernel_rfl
theorem codeWords_l16 : ((Rows.codeWordsRow.loops == (Tryd.f17.params.toList ++ Rows.codeWordsSpec.plain.varTypes Tryd.pinned.checked.prog).any (Tryd.pinned.checked.prog.loopsFrom ·))) = true := by kernel_rfl
theorem codeWords_l17 : ((Rows.codeWordsRow.wideKeys == (Tryd.f17.params.toList ++ Rows.codeWordsSpec.plain.varTypes Tryd.pinned.checked.prog ++ Tryd.f17.resultTypes.toList).any (Tryd.pinned.checked.prog.wideKeysFrom ·))) = true := by kernel_rfl
theorem codeWords_l18 : (Rows.codeWordsSpec.vars.all (Tryd.pinned.checked.prog.varReadable ·)) = true := by kernel_rfl
theorem codeWords_l19 : (Tryd.f17.resultTypes.all (fun t => Tryd.pinned.checked.prog.readableRec t && decide (t < Tryd.pinned.checked.prog.types.size))) = true := by kernel_rfl
theorem codeWords_l20 : ((Rows.codeWordsRow.ifacesOut == Tryd.f17.resultTypes.toList.any (Tryd.pinned.checked.prog.ifacesRec ·))) = true := by kernel_rfl
theorem codeWords_l21 : ((Rows.codeWordsRow.loopsOut == Tryd.f17.resultTypes.toList.any (Tryd.pinned.checked.prog.loopsFrom ·))) = true := by kernel_rfl
theorem codeWords_l22 : ((Rows.codeWordsRow.plainKeys == Tryd.pinned.checked.prog.plainKeys)) = true := by kernel_rfl
theorem codeWords_l23 : (Rows.codeWordsRow.shortTexts.isNone) = true := by kernel_rfl
theorem codeWords_l24 : (Tryd.pinned.checked.prog.stopsHeard) = true := by kernel_rfl
theorem codeWords_l25 : (Tryd.pinned.checked.prog.mayEnter) = true := by kernel_rfl
theorem codeWords_l26 : ((Rows.codeWordsRow.lifted == Tryd.pinned.checked.prog.liftsFinal)) = true := by kernel_rfl
theorem codeWords_l27 : ((Tryd.pinned.checked.prog.make == some Rows.codeWordsRow.make)) = true := by kernel_rfl
theorem codeWords_l28 : ((Rows.codeWordsRow.kinds == (if Rows.codeWordsRow.domain.isEmpty then [] else Tryd.f17.params.toList.map fun t => match Tryd.pinned.checked.prog.underlying t with | some (.int k) => some k | _ => none))) = true := by kernel_rfl
theorem codeWords_l29 : ((Rows.codeWordsRow.pinned == Rows.codeWordsRow.pinnedBy)) = true := by kernel_rfl
theorem codeWords_l30 : ((Rows.codeWordsRow.veiled == (Tryd.f17.params.toList ++ Rows.codeWordsSpec.plain.varTypes Tryd.pinned.checked.prog ++ Tryd.f17.resultTypes.toList).any (Tryd.pinned.checked.prog.veiledRec ·))) = true := by kernel_rfl
theorem codeWords_l31 : (Rows.codeWordsRow.veiledFits Tryd.pinned.checked.prog Tryd.f17.params.toList (Tryd.f17.params.toList ++ Rows.codeWordsSpec.plain.varTypes Tryd.pinned.checked.prog ++ Tryd.f17.resultTypes.toList)) = true := by kernel_rfl
theorem codeWords_closed : joinedFacts Tryd.pinned.checked.prog 17 Tryd.f17 Rows.codeWordsSpec Rows.codeWordsRow = true := by
  unfold joinedFacts
  simp only [Bool.and_eq_true]
  exact ⟨⟨⟨⟨⟨⟨⟨⟨⟨⟨⟨⟨⟨⟨⟨⟨⟨⟨⟨⟨⟨⟨⟨⟨⟨⟨⟨⟨⟨⟨⟨codeWords_l0, codeWords_l1⟩, codeWords_l2⟩, codeWords_l3⟩, codeWords_l4⟩, codeWords_l5⟩, codeWords_l6⟩, codeWords_l7⟩, codeWords_l8⟩, codeWords_l9⟩, codeWords_l10⟩, codeWords_l11⟩, codeWords_l12⟩, codeWords_l13⟩, codeWords_l14⟩, codeWords_l15⟩, codeWords_l16⟩, codeWords_l17⟩, codeWords_l18⟩, codeWords_l19⟩, codeWords_l20⟩, codeWords_l21⟩, codeWords_l22⟩, codeWords_l23⟩, codeWords_l24⟩, codeWords_l25⟩, codeWords_l26⟩, codeWords_l27⟩, codeWords_l28⟩, codeWords_l29⟩, codeWords_l30⟩, codeWords_l31⟩
end Go.Proofs.YtkjcmppaapbabaaDoor
