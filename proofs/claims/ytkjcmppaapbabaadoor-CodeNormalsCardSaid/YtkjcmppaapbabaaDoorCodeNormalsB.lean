/-
  CodeNormals returns true for every input and leaves its arguments as they were: closed facts of the row. No condition.
-/
import Derived.Test.YtkjcmppaapbabaaDoorJV
import Derived.SevenTiedAt
namespace Go.Proofs.YtkjcmppaapbabaaDoor
open Go.ChangeShapes Go.WideShapes Go.ChangeAt Go.WideElems Go.RowKit
set_option maxRecDepth 100000
theorem codeNormals_named : Tryd.pinned.checked.prog.funcNamed Rows.codeNormalsRow.func = some 9 := by kernel_rfl
theorem codeNormals_l0 : (Rows.codeNormalsRow.wf (OpenSpec.ofChange Rows.codeNormalsSpec)) = true := by kernel_rfl
theorem codeNormals_l1 : (laidOutB Tryd.pinned.checked.prog) = true := by kernel_rfl
theorem codeNormals_l2 : (mapsRowed Tryd.pinned.checked.prog) = true := by kernel_rfl
theorem codeNormals_l3 : (Tryd.f9.params.all (Tryd.pinned.checked.prog.readableRec ·)) = true := by kernel_rfl
theorem codeNormals_l4 : (namedTie Tryd.pinned.checked.prog Rows.codeNormalsRow.named Rows.codeNormalsSpec.vars) = true := by kernel_rfl
theorem codeNormals_l5 : ((Rows.codeNormalsRow.stops == [])) = true := by kernel_rfl
theorem codeNormals_l6 : ((Tryd.pinned.checked.prog.stops == [])) = true := by kernel_rfl
theorem codeNormals_l7 : ((Rows.codeNormalsRow.knobs == [])) = true := by kernel_rfl
theorem codeNormals_l8 : ((Tryd.pinned.checked.prog.stopKnobs == [])) = true := by kernel_rfl
theorem codeNormals_l9 : ((Rows.codeNormalsRow.inPlace == Tryd.pinned.checked.prog.inPlace 9)) = true := by kernel_rfl
theorem codeNormals_l10 : ((Rows.codeNormalsRow.unfollowed == Tryd.pinned.checked.prog.unfollowed 9)) = true := by kernel_rfl
theorem codeNormals_l11 : ((Rows.codeNormalsRow.recurses == Tryd.pinned.checked.prog.recurses 9)) = true := by kernel_rfl
theorem codeNormals_l12 : ((Rows.codeNormalsRow.named == Tryd.pinned.checked.prog.varsNamed 9)) = true := by kernel_rfl
theorem codeNormals_l13 : ((Rows.codeNormalsRow.maps == (Tryd.f9.params.toList ++ Rows.codeNormalsSpec.plain.varTypes Tryd.pinned.checked.prog).any (Tryd.pinned.checked.prog.mapsRec ·))) = true := by kernel_rfl
theorem codeNormals_l14 : ((Rows.codeNormalsRow.ifaces == (Tryd.f9.params.toList ++ Rows.codeNormalsSpec.plain.varTypes Tryd.pinned.checked.prog).any (Tryd.pinned.checked.prog.ifacesRec ·))) = true := by kernel_rfl
theorem codeNormals_l15 : ((Rows.codeNormalsRow.mapsOut == Tryd.pinned.checked.prog.mapsAmong Tryd.f9.resultTypes.toList)) = true := by kernel_rfl
theorem codeNormals_l16 : ((Rows.codeNormalsRow.loops == (Tryd.f9.params.toList ++ Rows.codeNormalsSpec.plain.varTypes Tryd.pinned.checked.prog).any (Tryd.pinned.checked.prog.loopsFrom ·))) = true := by kernel_rfl
theorem codeNormals_l17 : ((Rows.codeNormalsRow.wideKeys == (Tryd.f9.params.toList ++ Rows.codeNormalsSpec.plain.varTypes Tryd.pinned.checked.prog ++ Tryd.f9.resultTypes.toList).any (Tryd.pinned.checked.prog.wideKeysFrom ·))) = true := by kernel_rfl
theorem codeNormals_l18 : (Rows.codeNormalsSpec.vars.all (Tryd.pinned.checked.prog.varReadable ·)) = true := by kernel_rfl
theorem codeNormals_l19 : (Tryd.f9.resultTypes.all (fun t => Tryd.pinned.checked.prog.readableRec t && decide (t < Tryd.pinned.checked.prog.types.size))) = true := by kernel_rfl
theorem codeNormals_l20 : ((Rows.codeNormalsRow.ifacesOut == Tryd.f9.resultTypes.toList.any (Tryd.pinned.checked.prog.ifacesRec ·))) = true := by kernel_rfl
theorem codeNormals_l21 : ((Rows.codeNormalsRow.loopsOut == Tryd.f9.resultTypes.toList.any (Tryd.pinned.checked.prog.loopsFrom ·))) = true := by kernel_rfl
theorem codeNormals_l22 : ((Rows.codeNormalsRow.plainKeys == Tryd.pinned.checked.prog.plainKeys)) = true := by kernel_rfl
theorem codeNormals_l23 : (Rows.codeNormalsRow.shortTexts.isNone) = true := by kernel_rfl
theorem codeNormals_l24 : (Tryd.pinned.checked.prog.stopsHeard) = true := by kernel_rfl
theorem codeNormals_l25 : (Tryd.pinned.checked.prog.mayEnter) = true := by kernel_rfl
theorem codeNormals_l26 : ((Rows.codeNormalsRow.lifted == Tryd.pinned.checked.prog.liftsFinal)) = true := by kernel_rfl
theorem codeNormals_l27 : ((Tryd.pinned.checked.prog.make == some Rows.codeNormalsRow.make)) = true := by kernel_rfl
theorem codeNormals_l28 : ((Rows.codeNormalsRow.kinds == (if Rows.codeNormalsRow.domain.isEmpty then [] else Tryd.f9.params.toList.map fun t => match Tryd.pinned.checked.prog.underlying t with | some (.int k) => some k | _ => none))) = true := by kernel_rfl
theorem codeNormals_l29 : ((Rows.codeNormalsRow.pinned == Rows.codeNormalsRow.pinnedBy)) = true := by kernel_rfl
theorem codeNormals_l30 : ((Rows.codeNormalsRow.veiled == (Tryd.f9.params.toList ++ Rows.codeNormalsSpec.plain.varTypes Tryd.pinned.checked.prog ++ Tryd.f9.resultTypes.toList).any (Tryd.pinned.checked.prog.veiledRec ·))) = true := by kernel_rfl
theorem codeNormals_l31 : (Rows.codeNormalsRow.veiledFits Tryd.pinned.checked.prog Tryd.f9.params.toList (Tryd.f9.params.toList ++ Rows.codeNormalsSpec.plain.varTypes Tryd.pinned.checked.prog ++ Tryd.f9.resultTypes.toList)) = true := by kernel_rfl
theorem codeNormals_closed : joinedFacts Tryd.pinned.checked.prog 9 Tryd.f9 Rows.codeNormalsSpec Rows.codeNormalsRow = true := by
  unfold joinedFacts
  simp only [Bool.and_eq_true]
  exact ⟨⟨⟨⟨⟨⟨⟨⟨⟨⟨⟨⟨⟨⟨⟨⟨⟨⟨⟨⟨⟨⟨⟨⟨⟨⟨⟨⟨⟨⟨⟨codeNormals_l0, codeNormals_l1⟩, codeNormals_l2⟩, codeNormals_l3⟩, codeNormals_l4⟩, codeNormals_l5⟩, codeNormals_l6⟩, codeNormals_l7⟩, codeNormals_l8⟩, codeNormals_l9⟩, codeNormals_l10⟩, codeNormals_l11⟩, codeNormals_l12⟩, codeNormals_l13⟩, codeNormals_l14⟩, codeNormals_l15⟩, codeNormals_l16⟩, codeNormals_l17⟩, codeNormals_l18⟩, codeNormals_l19⟩, codeNormals_l20⟩, codeNormals_l21⟩, codeNormals_l22⟩, codeNormals_l23⟩, codeNormals_l24⟩, codeNormals_l25⟩, codeNormals_l26⟩, codeNormals_l27⟩, codeNormals_l28⟩, codeNormals_l29⟩, codeNormals_l30⟩, codeNormals_l31⟩
end Go.Proofs.YtkjcmppaapbabaaDoor
