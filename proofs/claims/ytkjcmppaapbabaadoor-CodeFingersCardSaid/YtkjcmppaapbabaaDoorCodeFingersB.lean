/-
  CodeFingers returns true for every input and leaves its arguments as they were: closed facts of the row. No condition.
-/
import Derived.Test.YtkjcmppaapbabaaDoorF2C
import Derived.SevenTiedAt
namespace Go.Proofs.YtkjcmppaapbabaaDoor
open Go.ChangeShapes Go.WideShapes Go.ChangeAt Go.WideElems Go.RowKit
set_option maxRecDepth 100000
theorem codeFingers_named : Tryd.pinned.checked.prog.funcNamed Rows.codeFingersRow.func = some 7 := by kernel_rfl
theorem codeFingers_l0 : (Rows.codeFingersRow.wf (OpenSpec.ofChange Rows.codeFingersSpec)) = true := by kernel_rfl
theorem codeFingers_l1 : (laidOutB Tryd.pinned.checked.prog) = true := by kernel_rfl
theorem codeFingers_l2 : (mapsRowed Tryd.pinned.checked.prog) = true := by kernel_rfl
theorem codeFingers_l3 : (Tryd.f7.params.all (Tryd.pinned.checked.prog.readableRec ·)) = true := by kernel_rfl
theorem codeFingers_l4 : (namedTie Tryd.pinned.checked.prog Rows.codeFingersRow.named Rows.codeFingersSpec.vars) = true := by kernel_rfl
theorem codeFingers_l5 : ((Rows.codeFingersRow.stops == [])) = true := by kernel_rfl
theorem codeFingers_l6 : ((Tryd.pinned.checked.prog.stops == [])) = true := by kernel_rfl
theorem codeFingers_l7 : ((Rows.codeFingersRow.knobs == [])) = true := by kernel_rfl
theorem codeFingers_l8 : ((Tryd.pinned.checked.prog.stopKnobs == [])) = true := by kernel_rfl
theorem codeFingers_l9 : ((Rows.codeFingersRow.inPlace == Tryd.pinned.checked.prog.inPlace 7)) = true := by kernel_rfl
theorem codeFingers_l10 : ((Rows.codeFingersRow.unfollowed == Tryd.pinned.checked.prog.unfollowed 7)) = true := by kernel_rfl
theorem codeFingers_l11 : ((Rows.codeFingersRow.recurses == Tryd.pinned.checked.prog.recurses 7)) = true := by kernel_rfl
theorem codeFingers_l12 : ((Rows.codeFingersRow.named == Tryd.pinned.checked.prog.varsNamed 7)) = true := by kernel_rfl
theorem codeFingers_l13 : ((Rows.codeFingersRow.maps == (Tryd.f7.params.toList ++ Rows.codeFingersSpec.plain.varTypes Tryd.pinned.checked.prog).any (Tryd.pinned.checked.prog.mapsRec ·))) = true := by kernel_rfl
theorem codeFingers_l14 : ((Rows.codeFingersRow.ifaces == (Tryd.f7.params.toList ++ Rows.codeFingersSpec.plain.varTypes Tryd.pinned.checked.prog).any (Tryd.pinned.checked.prog.ifacesRec ·))) = true := by kernel_rfl
theorem codeFingers_l15 : ((Rows.codeFingersRow.mapsOut == Tryd.pinned.checked.prog.mapsAmong Tryd.f7.resultTypes.toList)) = true := by kernel_rfl
theorem codeFingers_l16 : ((Rows.codeFingersRow.loops == (Tryd.f7.params.toList ++ Rows.codeFingersSpec.plain.varTypes Tryd.pinned.checked.prog).any (Tryd.pinned.checked.prog.loopsFrom ·))) = true := by kernel_rfl
theorem codeFingers_l17 : ((Rows.codeFingersRow.wideKeys == (Tryd.f7.params.toList ++ Rows.codeFingersSpec.plain.varTypes Tryd.pinned.checked.prog ++ Tryd.f7.resultTypes.toList).any (Tryd.pinned.checked.prog.wideKeysFrom ·))) = true := by kernel_rfl
theorem codeFingers_l18 : (Rows.codeFingersSpec.vars.all (Tryd.pinned.checked.prog.varReadable ·)) = true := by kernel_rfl
theorem codeFingers_l19 : (Tryd.f7.resultTypes.all (fun t => Tryd.pinned.checked.prog.readableRec t && decide (t < Tryd.pinned.checked.prog.types.size))) = true := by kernel_rfl
theorem codeFingers_l20 : ((Rows.codeFingersRow.ifacesOut == Tryd.f7.resultTypes.toList.any (Tryd.pinned.checked.prog.ifacesRec ·))) = true := by kernel_rfl
theorem codeFingers_l21 : ((Rows.codeFingersRow.loopsOut == Tryd.f7.resultTypes.toList.any (Tryd.pinned.checked.prog.loopsFrom ·))) = true := by kernel_rfl
theorem codeFingers_l22 : ((Rows.codeFingersRow.plainKeys == Tryd.pinned.checked.prog.plainKeys)) = true := by kernel_rfl
theorem codeFingers_l23 : (Rows.codeFingersRow.shortTexts.isNone) = true := by kernel_rfl
theorem codeFingers_l24 : (Tryd.pinned.checked.prog.stopsHeard) = true := by kernel_rfl
theorem codeFingers_l25 : (Tryd.pinned.checked.prog.mayEnter) = true := by kernel_rfl
theorem codeFingers_l26 : ((Rows.codeFingersRow.lifted == Tryd.pinned.checked.prog.liftsFinal)) = true := by kernel_rfl
theorem codeFingers_l27 : ((Tryd.pinned.checked.prog.make == some Rows.codeFingersRow.make)) = true := by kernel_rfl
theorem codeFingers_l28 : ((Rows.codeFingersRow.kinds == (if Rows.codeFingersRow.domain.isEmpty then [] else Tryd.f7.params.toList.map fun t => match Tryd.pinned.checked.prog.underlying t with | some (.int k) => some k | _ => none))) = true := by kernel_rfl
theorem codeFingers_l29 : ((Rows.codeFingersRow.pinned == Rows.codeFingersRow.pinnedBy)) = true := by kernel_rfl
theorem codeFingers_l30 : ((Rows.codeFingersRow.veiled == (Tryd.f7.params.toList ++ Rows.codeFingersSpec.plain.varTypes Tryd.pinned.checked.prog ++ Tryd.f7.resultTypes.toList).any (Tryd.pinned.checked.prog.veiledRec ·))) = true := by kernel_rfl
theorem codeFingers_l31 : (Rows.codeFingersRow.veiledFits Tryd.pinned.checked.prog Tryd.f7.params.toList (Tryd.f7.params.toList ++ Rows.codeFingersSpec.plain.varTypes Tryd.pinned.checked.prog ++ Tryd.f7.resultTypes.toList)) = true := by kernel_rfl
theorem codeFingers_closed : joinedFacts Tryd.pinned.checked.prog 7 Tryd.f7 Rows.codeFingersSpec Rows.codeFingersRow = true := by
  unfold joinedFacts
  simp only [Bool.and_eq_true]
  exact ⟨⟨⟨⟨⟨⟨⟨⟨⟨⟨⟨⟨⟨⟨⟨⟨⟨⟨⟨⟨⟨⟨⟨⟨⟨⟨⟨⟨⟨⟨⟨codeFingers_l0, codeFingers_l1⟩, codeFingers_l2⟩, codeFingers_l3⟩, codeFingers_l4⟩, codeFingers_l5⟩, codeFingers_l6⟩, codeFingers_l7⟩, codeFingers_l8⟩, codeFingers_l9⟩, codeFingers_l10⟩, codeFingers_l11⟩, codeFingers_l12⟩, codeFingers_l13⟩, codeFingers_l14⟩, codeFingers_l15⟩, codeFingers_l16⟩, codeFingers_l17⟩, codeFingers_l18⟩, codeFingers_l19⟩, codeFingers_l20⟩, codeFingers_l21⟩, codeFingers_l22⟩, codeFingers_l23⟩, codeFingers_l24⟩, codeFingers_l25⟩, codeFingers_l26⟩, codeFingers_l27⟩, codeFingers_l28⟩, codeFingers_l29⟩, codeFingers_l30⟩, codeFingers_l31⟩
end Go.Proofs.YtkjcmppaapbabaaDoor
