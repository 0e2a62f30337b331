/-
  CodeCircles returns true for every input and leaves its arguments as they were: closed facts of the row. No condition.
-/
import Derived.Test.YtkjcmppaapbabaaDoorF2C
import Derived.SevenTiedAt
namespace Go.Proofs.YtkjcmppaapbabaaDoor
open Go.ChangeShapes Go.WideShapes Go.ChangeAt Go.WideElems Go.RowKit
set_option maxRecDepth 100000
theorem codeCircles_named : Tryd.pinned.checked.prog.funcNamed Rows.codeCirclesRow.func = some 6 := by kernel_rfl
theorem codeCircles_l0 : (Rows.codeCirclesRow.wf (OpenSpec.ofChange Rows.codeCirclesSpec)) = true := by kernel_rfl
theorem codeCircles_l1 : (laidOutB Tryd.pinned.checked.prog) = true := by kernel_rfl
theorem codeCircles_l2 : (mapsRowed Tryd.pinned.checked.prog) = true := by kernel_rfl
theorem codeCircles_l3 : (Tryd.f6.params.all (Tryd.pinned.checked.prog.readableRec ·)) = true := by kernel_rfl
theorem codeCircles_l4 : (namedTie Tryd.pinned.checked.prog Rows.codeCirclesRow.named Rows.codeCirclesSpec.vars) = true := by kernel_rfl
theorem codeCircles_l5 : ((Rows.codeCirclesRow.stops == [])) = true := by kernel_rfl
theorem codeCircles_l6 : ((Tryd.pinned.checked.prog.stops == [])) = true := by kernel_rfl
theorem codeCircles_l7 : ((Rows.codeCirclesRow.knobs == [])) = true := by kernel_rfl
theorem codeCircles_l8 : ((Tryd.pinned.checked.prog.stopKnobs == [])) = true := by kernel_rfl
theorem codeCircles_l9 : ((Rows.codeCirclesRow.inPlace == Tryd.pinned.checked.prog.inPlace 6)) = true := by kernel_rfl
theorem codeCircles_l10 : ((Rows.codeCirclesRow.unfollowed == Tryd.pinned.checked.prog.unfollowed 6)) = true := by kernel_rfl
theorem codeCircles_l11 : ((Rows.codeCirclesRow.recurses == Tryd.pinned.checked.prog.recurses 6)) = true := by kernel_rfl
theorem codeCircles_l12 : ((Rows.codeCirclesRow.named == Tryd.pinned.checked.prog.varsNamed 6)) = true := by kernel_rfl
theorem codeCircles_l13 : ((Rows.codeCirclesRow.maps == (Tryd.f6.params.toList ++ Rows.codeCirclesSpec.plain.varTypes Tryd.pinned.checked.prog).any (Tryd.pinned.checked.prog.mapsRec ·))) = true := by kernel_rfl
theorem codeCircles_l14 : ((Rows.codeCirclesRow.ifaces == (Tryd.f6.params.toList ++ Rows.codeCirclesSpec.plain.varTypes Tryd.pinned.checked.prog).any (Tryd.pinned.checked.prog.ifacesRec ·))) = true := by kernel_rfl
theorem codeCircles_l15 : ((Rows.codeCirclesRow.mapsOut == Tryd.pinned.checked.prog.mapsAmong Tryd.f6.resultTypes.toList)) = true := by kernel_rfl
theorem codeCircles_l16 : ((Rows.codeCirclesRow.loops == (Tryd.f6.params.toList ++ Rows.codeCirclesSpec.plain.varTypes Tryd.pinned.checked.prog).any (Tryd.pinned.checked.prog.loopsFrom ·))) = true := by kernel_rfl
theorem codeCircles_l17 : ((Rows.codeCirclesRow.wideKeys == (Tryd.f6.params.toList ++ Rows.codeCirclesSpec.plain.varTypes Tryd.pinned.checked.prog ++ Tryd.f6.resultTypes.toList).any (Tryd.pinned.checked.prog.wideKeysFrom ·))) = true := by kernel_rfl
theorem codeCircles_l18 : (Rows.codeCirclesSpec.vars.all (Tryd.pinned.checked.prog.varReadable ·)) = true := by kernel_rfl
theorem codeCircles_l19 : (Tryd.f6.resultTypes.all (fun t => Tryd.pinned.checked.prog.readableRec t && decide (t < Tryd.pinned.checked.prog.types.size))) = true := by kernel_rfl
theorem codeCircles_l20 : ((Rows.codeCirclesRow.ifacesOut == Tryd.f6.resultTypes.toList.any (Tryd.pinned.checked.prog.ifacesRec ·))) = true := by kernel_rfl
theorem codeCircles_l21 : ((Rows.codeCirclesRow.loopsOut == Tryd.f6.resultTypes.toList.any (Tryd.pinned.checked.prog.loopsFrom ·))) = true := by kernel_rfl
theorem codeCircles_l22 : ((Rows.codeCirclesRow.plainKeys == Tryd.pinned.checked.prog.plainKeys)) = true := by kernel_rfl
theorem codeCircles_l23 : (Rows.codeCirclesRow.shortTexts.isNone) = true := by kernel_rfl
theorem codeCircles_l24 : (Tryd.pinned.checked.prog.stopsHeard) = true := by kernel_rfl
theorem codeCircles_l25 : (Tryd.pinned.checked.prog.mayEnter) = true := by kernel_rfl
theorem codeCircles_l26 : ((Rows.codeCirclesRow.lifted == Tryd.pinned.checked.prog.liftsFinal)) = true := by kernel_rfl
theorem codeCircles_l27 : ((Tryd.pinned.checked.prog.make == some Rows.codeCirclesRow.make)) = true := by kernel_rfl
theorem codeCircles_l28 : ((Rows.codeCirclesRow.kinds == (if Rows.codeCirclesRow.domain.isEmpty then [] else Tryd.f6.params.toList.map fun t => match Tryd.pinned.checked.prog.underlying t with | some (.int k) => some k | _ => none))) = true := by kernel_rfl
theorem codeCircles_l29 : ((Rows.codeCirclesRow.pinned == Rows.codeCirclesRow.pinnedBy)) = true := by kernel_rfl
theorem codeCircles_l30 : ((Rows.codeCirclesRow.veiled == (Tryd.f6.params.toList ++ Rows.codeCirclesSpec.plain.varTypes Tryd.pinned.checked.prog ++ Tryd.f6.resultTypes.toList).any (Tryd.pinned.checked.prog.veiledRec ·))) = true := by kernel_rfl
theorem codeCircles_l31 : (Rows.codeCirclesRow.veiledFits Tryd.pinned.checked.prog Tryd.f6.params.toList (Tryd.f6.params.toList ++ Rows.codeCirclesSpec.plain.varTypes Tryd.pinned.checked.prog ++ Tryd.f6.resultTypes.toList)) = true := by kernel_rfl
theorem codeCircles_closed : joinedFacts Tryd.pinned.checked.prog 6 Tryd.f6 Rows.codeCirclesSpec Rows.codeCirclesRow = true := by
  unfold joinedFacts
  simp only [Bool.and_eq_true]
  exact ⟨⟨⟨⟨⟨⟨⟨⟨⟨⟨⟨⟨⟨⟨⟨⟨⟨⟨⟨⟨⟨⟨⟨⟨⟨⟨⟨⟨⟨⟨⟨codeCircles_l0, codeCircles_l1⟩, codeCircles_l2⟩, codeCircles_l3⟩, codeCircles_l4⟩, codeCircles_l5⟩, codeCircles_l6⟩, codeCircles_l7⟩, codeCircles_l8⟩, codeCircles_l9⟩, codeCircles_l10⟩, codeCircles_l11⟩, codeCircles_l12⟩, codeCircles_l13⟩, codeCircles_l14⟩, codeCircles_l15⟩, codeCircles_l16⟩, codeCircles_l17⟩, codeCircles_l18⟩, codeCircles_l19⟩, codeCircles_l20⟩, codeCircles_l21⟩, codeCircles_l22⟩, codeCircles_l23⟩, codeCircles_l24⟩, codeCircles_l25⟩, codeCircles_l26⟩, codeCircles_l27⟩, codeCircles_l28⟩, codeCircles_l29⟩, codeCircles_l30⟩, codeCircles_l31⟩
end Go.Proofs.YtkjcmppaapbabaaDoor
