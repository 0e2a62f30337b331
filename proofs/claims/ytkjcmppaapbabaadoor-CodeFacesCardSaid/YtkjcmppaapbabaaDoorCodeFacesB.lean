/-
  CodeFaces returns true for every input and leaves its arguments as they were: closed facts of the row. No condition.
-/
import Derived.Test.YtkjcmppaapbabaaDoorJV
import Derived.SevenTiedAt
namespace Go.Proofs.YtkjcmppaapbabaaDoor
open Go.ChangeShapes Go.WideShapes Go.ChangeAt Go.WideElems Go.RowKit
set_option maxRecDepth 100000
theorem codeFaces_named : Tryd.pinned.checked.prog.funcNamed Rows.codeFacesRow.func = some 3 := by kernel_rfl
theorem codeFaces_l0 : (Rows.codeFacesRow.wf (OpenSpec.ofChange Rows.codeFacesSpec)) = true := by kernel_rfl
theorem codeFaces_l1 : (laidOutB Tryd.pinned.checked.prog) = true := by kernel_rfl
theorem codeFaces_l2 : (mapsRowed Tryd.pinned.checked.prog) = true := by kernel_rfl
theorem codeFaces_l3 : (Tryd.f3.params.all (Tryd.pinned.checked.prog.readableRec ·)) = true := by kernel_rfl
theorem codeFaces_l4 : (namedTie Tryd.pinned.checked.prog Rows.codeFacesRow.named Rows.codeFacesSpec.vars) = true := by kernel_rfl
theorem codeFaces_l5 : ((Rows.codeFacesRow.stops == [])) = true := by kernel_rfl
theorem codeFaces_l6 : ((Tryd.pinned.checked.prog.stops == [])) = true := by kernel_rfl
theorem codeFaces_l7 : ((Rows.codeFacesRow.knobs == [])) = true := by kernel_rfl
theorem codeFaces_l8 : ((Tryd.pinned.checked.prog.stopKnobs == [])) = true := by kernel_rfl
theorem codeFaces_l9 : ((Rows.codeFacesRow.inPlace == Tryd.pinned.checked.prog.inPlace 3)) = true := by kernel_rfl
theorem codeFaces_l10 : ((Rows.codeFacesRow.unfollowed == Tryd.pinned.checked.prog.unfollowed 3)) = true := by kernel_rfl
theorem codeFaces_l11 : ((Rows.codeFacesRow.recurses == Tryd.pinned.checked.prog.recurses 3)) = true := by kernel_rfl
theorem codeFaces_l12 : ((Rows.codeFacesRow.named == Tryd.pinned.checked.prog.varsNamed 3)) = true := by kernel_rfl
theorem codeFaces_l13 : ((Rows.codeFacesRow.maps == (Tryd.f3.params.toList ++ Rows.codeFacesSpec.plain.varTypes Tryd.pinned.checked.prog).any (Tryd.pinned.checked.prog.mapsRec ·))) = true := by kernel_rfl
theorem codeFaces_l14 : ((Rows.codeFacesRow.ifaces == (Tryd.f3.params.toList ++ Rows.codeFacesSpec.plain.varTypes Tryd.pinned.checked.prog).any (Tryd.pinned.checked.prog.ifacesRec ·))) = true := by kernel_rfl
theorem codeFaces_l15 : ((Rows.codeFacesRow.mapsOut == Tryd.pinned.checked.prog.mapsAmong Tryd.f3.resultTypes.toList)) = true := by kernel_rfl
theorem codeFaces_l16 : ((Rows.codeFacesRow.loops == (Tryd.f3.params.toList ++ Rows.codeFacesSpec.plain.varTypes Tryd.pinned.checked.prog).any (Tryd.pinned.checked.prog.loopsFrom ·))) = true := by kernel_rfl
theorem codeFaces_l17 : ((Rows.codeFacesRow.wideKeys == (Tryd.f3.params.toList ++ Rows.codeFacesSpec.plain.varTypes Tryd.pinned.checked.prog ++ Tryd.f3.resultTypes.toList).any (Tryd.pinned.checked.prog.wideKeysFrom ·))) = true := by kernel_rfl
theorem codeFaces_l18 : (Rows.codeFacesSpec.vars.all (Tryd.pinned.checked.prog.varReadable ·)) = true := by kernel_rfl
theorem codeFaces_l19 : (Tryd.f3.resultTypes.all (fun t => Tryd.pinned.checked.prog.readableRec t && decide (t < Tryd.pinned.checked.prog.types.size))) = true := by kernel_rfl
theorem codeFaces_l20 : ((Rows.codeFacesRow.ifacesOut == Tryd.f3.resultTypes.toList.any (Tryd.pinned.checked.prog.ifacesRec ·))) = true := by kernel_rfl
theorem codeFaces_l21 : ((Rows.codeFacesRow.loopsOut == Tryd.f3.resultTypes.toList.any (Tryd.pinned.checked.prog.loopsFrom ·))) = true := by kernel_rfl
theorem codeFaces_l22 : ((Rows.codeFacesRow.plainKeys == Tryd.pinned.checked.prog.plainKeys)) = true := by kernel_rfl
theorem codeFaces_l23 : (Rows.codeFacesRow.shortTexts.isNone) = true := by kernel_rfl
theorem codeFaces_l24 : (Tryd.pinned.checked.prog.stopsHeard) = true := by kernel_rfl
theorem codeFaces_l25 : (Tryd.pinned.checked.prog.mayEnter) = true := by kernel_rfl
theorem codeFaces_l26 : ((Rows.codeFacesRow.lifted == Tryd.pinned.checked.prog.liftsFinal)) = true := by kernel_rfl
theorem codeFaces_l27 : ((Tryd.pinned.checked.prog.make == some Rows.codeFacesRow.make)) = true := by kernel_rfl
theorem codeFaces_l28 : ((Rows.codeFacesRow.kinds == (if Rows.codeFacesRow.domain.isEmpty then [] else Tryd.f3.params.toList.map fun t => match Tryd.pinned.checked.prog.underlying t with | some (.int k) => some k | _ => none))) = true := by kernel_rfl
theorem codeFaces_l29 : ((Rows.codeFacesRow.pinned == Rows.codeFacesRow.pinnedBy)) = true := by kernel_rfl
theorem codeFaces_l30 : ((Rows.codeFacesRow.veiled == (Tryd.f3.params.toList ++ Rows.codeFacesSpec.plain.varTypes Tryd.pinned.checked.prog ++ Tryd.f3.resultTypes.toList).any (Tryd.pinned.checked.prog.veiledRec ·))) = true := by kernel_rfl
theorem codeFaces_l31 : (Rows.codeFacesRow.veiledFits Tryd.pinned.checked.prog Tryd.f3.params.toList (Tryd.f3.params.toList ++ Rows.codeFacesSpec.plain.varTypes Tryd.pinned.checked.prog ++ Tryd.f3.resultTypes.toList)) = true := by kernel_rfl
theorem codeFaces_closed : joinedFacts Tryd.pinned.checked.prog 3 Tryd.f3 Rows.codeFacesSpec Rows.codeFacesRow = true := by
  unfold joinedFacts
  simp only [Bool.and_eq_true]
  exact ⟨⟨⟨⟨⟨⟨⟨⟨⟨⟨⟨⟨⟨⟨⟨⟨⟨⟨⟨⟨⟨⟨⟨⟨⟨⟨⟨⟨⟨⟨⟨codeFaces_l0, codeFaces_l1⟩, codeFaces_l2⟩, codeFaces_l3⟩, codeFaces_l4⟩, codeFaces_l5⟩, codeFaces_l6⟩, codeFaces_l7⟩, codeFaces_l8⟩, codeFaces_l9⟩, codeFaces_l10⟩, codeFaces_l11⟩, codeFaces_l12⟩, codeFaces_l13⟩, codeFaces_l14⟩, codeFaces_l15⟩, codeFaces_l16⟩, codeFaces_l17⟩, codeFaces_l18⟩, codeFaces_l19⟩, codeFaces_l20⟩, codeFaces_l21⟩, codeFaces_l22⟩, codeFaces_l23⟩, codeFaces_l24⟩, codeFaces_l25⟩, codeFaces_l26⟩, codeFaces_l27⟩, codeFaces_l28⟩, codeFaces_l29⟩, codeFaces_l30⟩, codeFaces_l31⟩
end Go.Proofs.YtkjcmppaapbabaaDoor
