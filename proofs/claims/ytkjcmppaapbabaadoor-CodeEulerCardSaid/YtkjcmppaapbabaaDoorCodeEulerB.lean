/-
  CodeEuler returns true for every input and leaves its arguments as they were: closed facts of the row. No condition.
-/
import Derived.Test.YtkjcmppaapbabaaDoorJV
import Derived.SevenTiedAt
namespace Go.Proofs.YtkjcmppaapbabaaDoor
open Go.ChangeShapes Go.WideShapes Go.ChangeAt Go.WideElems Go.RowKit
set_option maxRecDepth 100000
theorem codeEuler_named : Tryd.pinned.checked.prog.funcNamed Rows.codeEulerRow.func = some 5 := by kernel_rfl
theorem codeEuler_l0 : (Rows.codeEulerRow.wf (OpenSpec.ofChange Rows.codeEulerSpec)) = true := by kernel_rfl
theorem codeEuler_l1 : (laidOutB Tryd.pinned.checked.prog) = true := by kernel_rfl
theorem codeEuler_l2 : (mapsRowed Tryd.pinned.checked.prog) = true := by kernel_rfl
theorem codeEuler_l3 : (Tryd.f5.params.all (Tryd.pinned.checked.prog.readableRec ·)) = true := by kernel_rfl
theorem codeEuler_l4 : (namedTie Tryd.pinned.checked.prog Rows.codeEulerRow.named Rows.codeEulerSpec.vars) = true := by kernel_rfl
theorem codeEuler_l5 : ((Rows.codeEulerRow.stops == [])) = true := by kernel_rfl
theorem codeEuler_l6 : ((Tryd.pinned.checked.prog.stops == [])) = true := by kernel_rfl
theorem codeEuler_l7 : ((Rows.codeEulerRow.knobs == [])) = true := by kernel_rfl
theorem codeEuler_l8 : ((Tryd.pinned.checked.prog.stopKnobs == [])) = true := by kernel_rfl
theorem codeEuler_l9 : ((Rows.codeEulerRow.inPlace == Tryd.pinned.checked.prog.inPlace 5)) = true := by kernel_rfl
theorem codeEuler_l10 : ((Rows.codeEulerRow.unfollowed == Tryd.pinned.checked.prog.unfollowed 5)) = true := by kernel_rfl
theorem codeEuler_l11 : ((Rows.codeEulerRow.recurses == Tryd.pinned.checked.prog.recurses 5)) = true := by kernel_rfl
theorem codeEuler_l12 : ((Rows.codeEulerRow.named == Tryd.pinned.checked.prog.varsNamed 5)) = true := by kernel_rfl
theorem codeEuler_l13 : ((Rows.codeEulerRow.maps == (Tryd.f5.params.toList ++ Rows.codeEulerSpec.plain.varTypes Tryd.pinned.checked.prog).any (Tryd.pinned.checked.prog.mapsRec ·))) = true := by kernel_rfl
theorem codeEuler_l14 : ((Rows.codeEulerRow.ifaces == (Tryd.f5.params.toList ++ Rows.codeEulerSpec.plain.varTypes Tryd.pinned.checked.prog).any (Tryd.pinned.checked.prog.ifacesRec ·))) = true := by kernel_rfl
theorem codeEuler_l15 : ((Rows.codeEulerRow.mapsOut == Tryd.pinned.checked.prog.mapsAmong Tryd.f5.resultTypes.toList)) = true := by kernel_rfl
theorem codeEuler_l16 : ((Rows.codeEulerRow.loops == (Tryd.f5.params.toList ++ Rows.codeEulerSpec.plain.varTypes Tryd.pinned.checked.prog).any (Tryd.pinned.checked.prog.loopsFrom ·))) = true := by kernel_rfl
theorem codeEuler_l17 : ((Rows.codeEulerRow.wideKeys == (Tryd.f5.params.toList ++ Rows.codeEulerSpec.plain.varTypes Tryd.pinned.checked.prog ++ Tryd.f5.resultTypes.toList).any (Tryd.pinned.checked.prog.wideKeysFrom ·))) = true := by kernel_rfl
theorem codeEuler_l18 : (Rows.codeEulerSpec.vars.all (Tryd.pinned.checked.prog.varReadable ·)) = true := by kernel_rfl
theorem codeEuler_l19 : (Tryd.f5.resultTypes.all (fun t => Tryd.pinned.checked.prog.readableRec t && decide (t < Tryd.pinned.checked.prog.types.size))) = true := by kernel_rfl
theorem codeEuler_l20 : ((Rows.codeEulerRow.ifacesOut == Tryd.f5.resultTypes.toList.any (Tryd.pinned.checked.prog.ifacesRec ·))) = true := by kernel_rfl
theorem codeEuler_l21 : ((Rows.codeEulerRow.loopsOut == Tryd.f5.resultTypes.toList.any (Tryd.pinned.checked.prog.loopsFrom ·))) = true := by kernel_rfl
theorem codeEuler_l22 : ((Rows.codeEulerRow.plainKeys == Tryd.pinned.checked.prog.plainKeys)) = true := by kernel_rfl
theorem codeEuler_l23 : (Rows.codeEulerRow.shortTexts.isNone) = true := by kernel_rfl
theorem codeEuler_l24 : (Tryd.pinned.checked.prog.stopsHeard) = true := by kernel_rfl
theorem codeEuler_l25 : (Tryd.pinned.checked.prog.mayEnter) = true := by kernel_rfl
theorem codeEuler_l26 : ((Rows.codeEulerRow.lifted == Tryd.pinned.checked.prog.liftsFinal)) = true := by kernel_rfl
theorem codeEuler_l27 : ((Tryd.pinned.checked.prog.make == some Rows.codeEulerRow.make)) = true := by kernel_rfl
theorem codeEuler_l28 : ((Rows.codeEulerRow.kinds == (if Rows.codeEulerRow.domain.isEmpty then [] else Tryd.f5.params.toList.map fun t => match Tryd.pinned.checked.prog.underlying t with | some (.int k) => some k | _ => none))) = true := by kernel_rfl
theorem codeEuler_l29 : ((Rows.codeEulerRow.pinned == Rows.codeEulerRow.pinnedBy)) = true := by kernel_rfl
theorem codeEuler_l30 : ((Rows.codeEulerRow.veiled == (Tryd.f5.params.toList ++ Rows.codeEulerSpec.plain.varTypes Tryd.pinned.checked.prog ++ Tryd.f5.resultTypes.toList).any (Tryd.pinned.checked.prog.veiledRec ·))) = true := by kernel_rfl
theorem codeEuler_l31 : (Rows.codeEulerRow.veiledFits Tryd.pinned.checked.prog Tryd.f5.params.toList (Tryd.f5.params.toList ++ Rows.codeEulerSpec.plain.varTypes Tryd.pinned.checked.prog ++ Tryd.f5.resultTypes.toList)) = true := by kernel_rfl
theorem codeEuler_closed : joinedFacts Tryd.pinned.checked.prog 5 Tryd.f5 Rows.codeEulerSpec Rows.codeEulerRow = true := by
  unfold joinedFacts
  simp only [Bool.and_eq_true]
  exact ⟨⟨⟨⟨⟨⟨⟨⟨⟨⟨⟨⟨⟨⟨⟨⟨⟨⟨⟨⟨⟨⟨⟨⟨⟨⟨⟨⟨⟨⟨⟨codeEuler_l0, codeEuler_l1⟩, codeEuler_l2⟩, codeEuler_l3⟩, codeEuler_l4⟩, codeEuler_l5⟩, codeEuler_l6⟩, codeEuler_l7⟩, codeEuler_l8⟩, codeEuler_l9⟩, codeEuler_l10⟩, codeEuler_l11⟩, codeEuler_l12⟩, codeEuler_l13⟩, codeEuler_l14⟩, codeEuler_l15⟩, codeEuler_l16⟩, codeEuler_l17⟩, codeEuler_l18⟩, codeEuler_l19⟩, codeEuler_l20⟩, codeEuler_l21⟩, codeEuler_l22⟩, codeEuler_l23⟩, codeEuler_l24⟩, codeEuler_l25⟩, codeEuler_l26⟩, codeEuler_l27⟩, codeEuler_l28⟩, codeEuler_l29⟩, codeEuler_l30⟩, codeEuler_l31⟩
end Go.Proofs.YtkjcmppaapbabaaDoor
