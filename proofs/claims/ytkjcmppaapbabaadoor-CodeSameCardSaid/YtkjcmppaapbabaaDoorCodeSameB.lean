/-
  CodeSame returns true for every input and leaves its arguments as they were: closed facts of the row. No condition.
-/
import Derived.Test.YtkjcmppaapbabaaDoorJV
import Derived.SevenTiedAt
namespace Go.Proofs.YtkjcmppaapbabaaDoor
open Go.ChangeShapes Go.WideShapes Go.ChangeAt Go.WideElems Go.RowKit
set_option maxRecDepth 100000
theorem codeSame_named : Tryd.pinned.checked.prog.funcNamed Rows.codeSameRow.func = some 10 := by kernel_rfl
theorem codeSame_l0 : (Rows.codeSameRow.wf (OpenSpec.ofChange Rows.codeSameSpec)) = true := by kernel_rfl
theorem codeSame_l1 : (laidOutB Tryd.pinned.checked.prog) = true := by kernel_rfl
theorem codeSame_l2 : (mapsRowed Tryd.pinned.checked.prog) = true := by kernel_rfl
theorem codeSame_l3 : (Tryd.f10.params.all (Tryd.pinned.checked.prog.readableRec ·)) = true := by kernel_rfl
theorem codeSame_l4 : (namedTie Tryd.pinned.checked.prog Rows.codeSameRow.named Rows.codeSameSpec.vars) = true := by kernel_rfl
theorem codeSame_l5 : ((Rows.codeSameRow.stops == [])) = true := by kernel_rfl
theorem codeSame_l6 : ((Tryd.pinned.checked.prog.stops == [])) = true := by kernel_rfl
theorem codeSame_l7 : ((Rows.codeSameRow.knobs == [])) = true := by kernel_rfl
theorem codeSame_l8 : ((Tryd.pinned.checked.prog.stopKnobs == [])) = true := by kernel_rfl
theorem codeSame_l9 : ((Rows.codeSameRow.inPlace == Tryd.pinned.checked.prog.inPlace 10)) = true := by kernel_rfl
theorem codeSame_l10 : ((Rows.codeSameRow.unfollowed == Tryd.pinned.checked.prog.unfollowed 10)) = true := by kernel_rfl
theorem codeSame_l11 : ((Rows.codeSameRow.recurses == Tryd.pinned.checked.prog.recurses 10)) = true := by kernel_rfl
theorem codeSame_l12 : ((Rows.codeSameRow.named == Tryd.pinned.checked.prog.varsNamed 10)) = true := by kernel_rfl
theorem codeSame_l13 : ((Rows.codeSameRow.maps == (Tryd.f10.params.toList ++ Rows.codeSameSpec.plain.varTypes Tryd.pinned.checked.prog).any (Tryd.pinned.checked.prog.mapsRec ·))) = true := by kernel_rfl
theorem codeSame_l14 : ((Rows.codeSameRow.ifaces == (Tryd.f10.params.toList ++ Rows.codeSameSpec.plain.varTypes Tryd.pinned.checked.prog).any (Tryd.pinned.checked.prog.ifacesRec ·))) = true := by kernel_rfl
theorem codeSame_l15 : ((Rows.codeSameRow.mapsOut == Tryd.pinned.checked.prog.mapsAmong Tryd.f10.resultTypes.toList)) = true := by kernel_rfl
theorem codeSame_l16 : ((Rows.codeSameRow.loops == (Tryd.f10.params.toList ++ Rows.codeSameSpec.plain.varTypes Tryd.pinned.checked.prog).any (Tryd.pinned.checked.prog.loopsFrom ·))) = true := by kernel_rfl
theorem codeSame_l17 : ((Rows.codeSameRow.wideKeys == (Tryd.f10.params.toList ++ Rows.codeSameSpec.plain.varTypes Tryd.pinned.checked.prog ++ Tryd.f10.resultTypes.toList).any (Tryd.pinned.checked.prog.wideKeysFrom ·))) = true := by kernel_rfl
theorem codeSame_l18 : (Rows.codeSameSpec.vars.all (Tryd.pinned.checked.prog.varReadable ·)) = true := by kernel_rfl
theorem codeSame_l19 : (Tryd.f10.resultTypes.all (fun t => Tryd.pinned.checked.prog.readableRec t && decide (t < Tryd.pinned.checked.prog.types.size))) = true := by kernel_rfl
theorem codeSame_l20 : ((Rows.codeSameRow.ifacesOut == Tryd.f10.resultTypes.toList.any (Tryd.pinned.checked.prog.ifacesRec ·))) = true := by kernel_rfl
theorem codeSame_l21 : ((Rows.codeSameRow.loopsOut == Tryd.f10.resultTypes.toList.any (Tryd.pinned.checked.prog.loopsFrom ·))) = true := by kernel_rfl
theorem codeSame_l22 : ((Rows.codeSameRow.plainKeys == Tryd.pinned.checked.prog.plainKeys)) = true := by kernel_rfl
theorem codeSame_l23 : (Rows.codeSameRow.shortTexts.isNone) = true := by kernel_rfl
theorem codeSame_l24 : (Tryd.pinned.checked.prog.stopsHeard) = true := by kernel_rfl
theorem codeSame_l25 : (Tryd.pinned.checked.prog.mayEnter) = true := by kernel_rfl
theorem codeSame_l26 : ((Rows.codeSameRow.lifted == Tryd.pinned.checked.prog.liftsFinal)) = true := by kernel_rfl
theorem codeSame_l27 : ((Tryd.pinned.checked.prog.make == some Rows.codeSameRow.make)) = true := by kernel_rfl
theorem codeSame_l28 : ((Rows.codeSameRow.kinds == (if Rows.codeSameRow.domain.isEmpty then [] else Tryd.f10.params.toList.map fun t => match Tryd.pinned.checked.prog.underlying t with | some (.int k) => some k | _ => none))) = true := by kernel_rfl
theorem codeSame_l29 : ((Rows.codeSameRow.pinned == Rows.codeSameRow.pinnedBy)) = true := by kernel_rfl
theorem codeSame_l30 : ((Rows.codeSameRow.veiled == (Tryd.f10.params.toList ++ Rows.codeSameSpec.plain.varTypes Tryd.pinned.checked.prog ++ Tryd.f10.resultTypes.toList).any (Tryd.pinned.checked.prog.veiledRec ·))) = true := by kernel_rfl
theorem codeSame_l31 : (Rows.codeSameRow.veiledFits Tryd.pinned.checked.prog Tryd.f10.params.toList (Tryd.f10.params.toList ++ Rows.codeSameSpec.plain.varTypes Tryd.pinned.checked.prog ++ Tryd.f10.resultTypes.toList)) = true := by kernel_rfl
theorem codeSame_closed : joinedFacts Tryd.pinned.checked.prog 10 Tryd.f10 Rows.codeSameSpec Rows.codeSameRow = true := by
  unfold joinedFacts
  simp only [Bool.and_eq_true]
  exact ⟨⟨⟨⟨⟨⟨⟨⟨⟨⟨⟨⟨⟨⟨⟨⟨⟨⟨⟨⟨⟨⟨⟨⟨⟨⟨⟨⟨⟨⟨⟨codeSame_l0, codeSame_l1⟩, codeSame_l2⟩, codeSame_l3⟩, codeSame_l4⟩, codeSame_l5⟩, codeSame_l6⟩, codeSame_l7⟩, codeSame_l8⟩, codeSame_l9⟩, codeSame_l10⟩, codeSame_l11⟩, codeSame_l12⟩, codeSame_l13⟩, codeSame_l14⟩, codeSame_l15⟩, codeSame_l16⟩, codeSame_l17⟩, codeSame_l18⟩, codeSame_l19⟩, codeSame_l20⟩, codeSame_l21⟩, codeSame_l22⟩, codeSame_l23⟩, codeSame_l24⟩, codeSame_l25⟩, codeSame_l26⟩, codeSame_l27⟩, codeSame_l28⟩, codeSame_l29⟩, codeSame_l30⟩, codeSame_l31⟩
end Go.Proofs.YtkjcmppaapbabaaDoor
