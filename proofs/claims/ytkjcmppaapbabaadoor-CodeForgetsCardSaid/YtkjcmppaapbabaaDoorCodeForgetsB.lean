/-
  CodeForgets returns true for every input and leaves its arguments as they were: closed facts of the row. No condition.
-/
import Derived.Test.YtkjcmppaapbabaaDoorJV
import Derived.SevenTiedAt
namespace Go.Proofs.YtkjcmppaapbabaaDoor
open Go.ChangeShapes Go.WideShapes Go.ChangeAt Go.WideElems Go.RowKit
set_option maxRecDepth 100000
theorem codeForgets_named : Tryd.pinned.checked.prog.funcNamed Rows.codeForgetsRow.func = some 15 := by kernel_rfl
theorem codeForgets_l0 : (Rows.codeForgetsRow.wf (OpenSpec.ofChange Rows.codeForgetsSpec)) = true := by kernel_rfl
theorem codeForgets_l1 : (laidOutB Tryd.pinned.checked.prog) = true := by kernel_rfl
theorem codeForgets_l2 : (mapsRowed Tryd.pinned.checked.prog) = true := by kernel_rfl
theorem codeForgets_l3 : (Tryd.f15.params.all (Tryd.pinned.checked.prog.readableRec ·)) = true := by kernel_rfl
theorem codeForgets_l4 : (namedTie Tryd.pinned.checked.prog Rows.codeForgetsRow.named Rows.codeForgetsSpec.vars) = true := by kernel_rfl
theorem codeForgets_l5 : ((Rows.codeForgetsRow.stops == [])) = true := by kernel_rfl
theorem codeForgets_l6 : ((Tryd.pinned.checked.prog.stops == [])) = true := by kernel_rfl
theorem codeForgets_l7 : ((Rows.codeForgetsRow.knobs == [])) = true := by kernel_rfl
theorem codeForgets_l8 : ((Tryd.pinned.checked.prog.stopKnobs == [])) = true := by kernel_rfl
theorem codeForgets_l9 : ((Rows.codeForgetsRow.inPlace == Tryd.pinned.checked.prog.inPlace 15)) = true := by kernel_rfl
theorem codeForgets_l10 : ((Rows.codeForgetsRow.unfollowed == Tryd.pinned.checked.prog.unfollowed 15)) = true := by kernel_rfl
theorem codeForgets_l11 : ((Rows.codeForgetsRow.recurses == Tryd.pinned.checked.prog.recurses 15)) = true := by kernel_rfl
theorem codeForgets_l12 : ((Rows.codeForgetsRow.named == Tryd.pinned.checked.prog.varsNamed 15)) = true := by kernel_rfl
theorem codeForgets_l13 : ((Rows.codeForgetsRow.maps == (Tryd.f15.params.toList ++ Rows.codeForgetsSpec.plain.varTypes Tryd.pinned.checked.prog).any (Tryd.pinned.checked.prog.mapsRec ·))) = true := by kernel_rfl
theorem codeForgets_l14 : ((Rows.codeForgetsRow.ifaces == (Tryd.f15.params.toList ++ Rows.codeForgetsSpec.plain.varTypes Tryd.pinned.checked.prog).any (Tryd.pinned.checked.prog.ifacesRec ·))) = true := by kernel_rfl
theorem codeForgets_l15 : ((Rows.codeForgetsRow.mapsOut == Tryd.pinned.checked.prog.mapsAmong Tryd.f15.resultTypes.toList)) = true := by kernel_rfl
theorem codeForgets_l16 : ((Rows.codeForgetsRow.loops == (Tryd.f15.params.toList ++ Rows.codeForgetsSpec.plain.varTypes Tryd.pinned.checked.prog).any (Tryd.pinned.checked.prog.loopsFrom ·))) = true := by kernel_rfl
theorem codeForgets_l17 : ((Rows.codeForgetsRow.wideKeys == (Tryd.f15.params.toList ++ Rows.codeForgetsSpec.plain.varTypes Tryd.pinned.checked.prog ++ Tryd.f15.resultTypes.toList).any (Tryd.pinned.checked.prog.wideKeysFrom ·))) = true := by kernel_rfl
theorem codeForgets_l18 : (Rows.codeForgetsSpec.vars.all (Tryd.pinned.checked.prog.varReadable ·)) = true := by kernel_rfl
theorem codeForgets_l19 : (Tryd.f15.resultTypes.all (fun t => Tryd.pinned.checked.prog.readableRec t && decide (t < Tryd.pinned.checked.prog.types.size))) = true := by kernel_rfl
theorem codeForgets_l20 : ((Rows.codeForgetsRow.ifacesOut == Tryd.f15.resultTypes.toList.any (Tryd.pinned.checked.prog.ifacesRec ·))) = true := by kernel_rfl
theorem codeForgets_l21 : ((Rows.codeForgetsRow.loopsOut == Tryd.f15.resultTypes.toList.any (Tryd.pinned.checked.prog.loopsFrom ·))) = true := by kernel_rfl
theorem codeForgets_l22 : ((Rows.codeForgetsRow.plainKeys == Tryd.pinned.checked.prog.plainKeys)) = true := by kernel_rfl
theorem codeForgets_l23 : (Rows.codeForgetsRow.shortTexts.isNone) = true := by kernel_rfl
theorem codeForgets_l24 : (Tryd.pinned.checked.prog.stopsHeard) = true := by kernel_rfl
theorem codeForgets_l25 : (Tryd.pinned.checked.prog.mayEnter) = true := by kernel_rfl
theorem codeForgets_l26 : ((Rows.codeForgetsRow.lifted == Tryd.pinned.checked.prog.liftsFinal)) = true := by kernel_rfl
theorem codeForgets_l27 : ((Tryd.pinned.checked.prog.make == some Rows.codeForgetsRow.make)) = true := by kernel_rfl
theorem codeForgets_l28 : ((Rows.codeForgetsRow.kinds == (if Rows.codeForgetsRow.domain.isEmpty then [] else Tryd.f15.params.toList.map fun t => match Tryd.pinned.checked.prog.underlying t with | some (.int k) => some k | _ => none))) = true := by kernel_rfl
theorem codeForgets_l29 : ((Rows.codeForgetsRow.pinned == Rows.codeForgetsRow.pinnedBy)) = true := by kernel_rfl
theorem codeForgets_l30 : ((Rows.codeForgetsRow.veiled == (Tryd.f15.params.toList ++ Rows.codeForgetsSpec.plain.varTypes Tryd.pinned.checked.prog ++ Tryd.f15.resultTypes.toList).any (Tryd.pinned.checked.prog.veiledRec ·))) = true := by kernel_rfl
theorem codeForgets_l31 : (Rows.codeForgetsRow.veiledFits Tryd.pinned.checked.prog Tryd.f15.params.toList (Tryd.f15.params.toList ++ Rows.codeForgetsSpec.plain.varTypes Tryd.pinned.checked.prog ++ Tryd.f15.resultTypes.toList)) = true := by kernel_rfl
theorem codeForgets_closed : joinedFacts Tryd.pinned.checked.prog 15 Tryd.f15 Rows.codeForgetsSpec Rows.codeForgetsRow = true := by
  unfold joinedFacts
  simp only [Bool.and_eq_true]
  exact ⟨⟨⟨⟨⟨⟨⟨⟨⟨⟨⟨⟨⟨⟨⟨⟨⟨⟨⟨⟨⟨⟨⟨⟨⟨⟨⟨⟨⟨⟨⟨codeForgets_l0, codeForgets_l1⟩, codeForgets_l2⟩, codeForgets_l3⟩, codeForgets_l4⟩, codeForgets_l5⟩, codeForgets_l6⟩, codeForgets_l7⟩, codeForgets_l8⟩, codeForgets_l9⟩, codeForgets_l10⟩, codeForgets_l11⟩, codeForgets_l12⟩, codeForgets_l13⟩, codeForgets_l14⟩, codeForgets_l15⟩, codeForgets_l16⟩, codeForgets_l17⟩, codeForgets_l18⟩, codeForgets_l19⟩, codeForgets_l20⟩, codeForgets_l21⟩, codeForgets_l22⟩, codeForgets_l23⟩, codeForgets_l24⟩, codeForgets_l25⟩, codeForgets_l26⟩, codeForgets_l27⟩, codeForgets_l28⟩, codeForgets_l29⟩, codeForgets_l30⟩, codeForgets_l31⟩
end Go.Proofs.YtkjcmppaapbabaaDoor
