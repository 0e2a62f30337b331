/-
  CodePrints returns true for every input and leaves its arguments as they were: closed facts of the row. No condition.
-/
import Derived.Test.YtkjcmppaapbabaaDoorJV
import Derived.SevenTiedAt
namespace Go.Proofs.YtkjcmppaapbabaaDoor
open Go.ChangeShapes Go.WideShapes Go.ChangeAt Go.WideElems Go.RowKit
set_option maxRecDepth 100000
theorem codePrints_named : Tryd.pinned.checked.prog.funcNamed Rows.codePrintsRow.func = some 18 := by kernel_rfl
theorem codePrints_l0 : (Rows.codePrintsRow.wf (OpenSpec.ofChange Rows.codePrintsSpec)) = true := by kernel_rfl
theorem codePrints_l1 : (laidOutB Tryd.pinned.checked.prog) = true := by kernel_rfl
theorem codePrints_l2 : (mapsRowed Tryd.pinned.checked.prog) = true := by kernel_rfl
theorem codePrints_l3 : (Tryd.f18.params.all (Tryd.pinned.checked.prog.readableRec ·)) = true := by kernel_rfl
theorem codePrints_l4 : (namedTie Tryd.pinned.checked.prog Rows.codePrintsRow.named Rows.codePrintsSpec.vars) = true := by kernel_rfl
theorem codePrints_l5 : ((Rows.codePrintsRow.stops == [])) = true := by kernel_rfl
theorem codePrints_l6 : ((Tryd.pinned.checked.prog.stops == [])) = true := by kernel_rfl
theorem codePrints_l7 : ((Rows.codePrintsRow.knobs == [])) = true := by kernel_rfl
theorem codePrints_l8 : ((Tryd.pinned.checked.prog.stopKnobs == [])) = true := by kernel_rfl
theorem codePrints_l9 : ((Rows.codePrintsRow.inPlace == Tryd.pinned.checked.prog.inPlace 18)) = true := by kernel_rfl
theorem codePrints_l10 : ((Rows.codePrintsRow.unfollowed == Tryd.pinned.checked.prog.unfollowed 18)) = true := by kernel_rfl
theorem codePrints_l11 : ((Rows.codePrintsRow.recurses == Tryd.pinned.checked.prog.recurses 18)) = true := by kernel_rfl
theorem codePrints_l12 : ((Rows.codePrintsRow.named == Tryd.pinned.checked.prog.varsNamed 18)) = true := by kernel_rfl
theorem codePrints_l13 : ((Rows.codePrintsRow.maps == (Tryd.f18.params.toList ++ Rows.codePrintsSpec.plain.varTypes Tryd.pinned.checked.prog).any (Tryd.pinned.checked.prog.mapsRec ·))) = true := by kernel_rfl
theorem codePrints_l14 : ((Rows.codePrintsRow.ifaces == (Tryd.f18.params.toList ++ Rows.codePrintsSpec.plain.varTypes Tryd.pinned.checked.prog).any (Tryd.pinned.checked.prog.ifacesRec ·))) = true := by kernel_rfl
theorem codePrints_l15 : ((Rows.codePrintsRow.mapsOut == Tryd.pinned.checked.prog.mapsAmong Tryd.f18.resultTypes.toList)) = true := by kernel_rfl
theorem codePrints_l16 : ((Rows.codePrintsRow.loops == (Tryd.f18.params.toList ++ Rows.codePrintsSpec.plain.varTypes Tryd.pinned.checked.prog).any (Tryd.pinned.checked.prog.loopsFrom ·))) = true := by kernel_rfl
theorem codePrints_l17 : ((Rows.codePrintsRow.wideKeys == (Tryd.f18.params.toList ++ Rows.codePrintsSpec.plain.varTypes Tryd.pinned.checked.prog ++ Tryd.f18.resultTypes.toList).any (Tryd.pinned.checked.prog.wideKeysFrom ·))) = true := by kernel_rfl
theorem codePrints_l18 : (Rows.codePrintsSpec.vars.all (Tryd.pinned.checked.prog.varReadable ·)) = true := by kernel_rfl
theorem codePrints_l19 : (Tryd.f18.resultTypes.all (fun t => Tryd.pinned.checked.prog.readableRec t && decide (t < Tryd.pinned.checked.prog.types.size))) = true := by kernel_rfl
theorem codePrints_l20 : ((Rows.codePrintsRow.ifacesOut == Tryd.f18.resultTypes.toList.any (Tryd.pinned.checked.prog.ifacesRec ·))) = true := by kernel_rfl
theorem codePrints_l21 : ((Rows.codePrintsRow.loopsOut == Tryd.f18.resultTypes.toList.any (Tryd.pinned.checked.prog.loopsFrom ·))) = true := by kernel_rfl
theorem codePrints_l22 : ((Rows.codePrintsRow.plainKeys == Tryd.pinned.checked.prog.plainKeys)) = true := by kernel_rfl
theorem codePrints_l23 : (Rows.codePrintsRow.shortTexts.isNone) = true := by kernel_rfl
theorem codePrints_l24 : (Tryd.pinned.checked.prog.stopsHeard) = true := by kernel_rfl
theorem codePrints_l25 : (Tryd.pinned.checked.prog.mayEnter) = true := by kernel_rfl
theorem codePrints_l26 : ((Rows.codePrintsRow.lifted == Tryd.pinned.checked.prog.liftsFinal)) = true := by kernel_rfl
theorem codePrints_l27 : ((Tryd.pinned.checked.prog.make == some Rows.codePrintsRow.make)) = true := by kernel_rfl
theorem codePrints_l28 : ((Rows.codePrintsRow.kinds == (if Rows.codePrintsRow.domain.isEmpty then [] else Tryd.f18.params.toList.map fun t => match Tryd.pinned.checked.prog.underlying t with | some (.int k) => some k | _ => none))) = true := by kernel_rfl
theorem codePrints_l29 : ((Rows.codePrintsRow.pinned == Rows.codePrintsRow.pinnedBy)) = true := by kernel_rfl
theorem codePrints_l30 : ((Rows.codePrintsRow.veiled == (Tryd.f18.params.toList ++ Rows.codePrintsSpec.plain.varTypes Tryd.pinned.checked.prog ++ Tryd.f18.resultTypes.toList).any (Tryd.pinned.checked.prog.veiledRec ·))) = true := by kernel_rfl
theorem codePrints_l31 : (Rows.codePrintsRow.veiledFits Tryd.pinned.checked.prog Tryd.f18.params.toList (Tryd.f18.params.toList ++ Rows.codePrintsSpec.plain.varTypes Tryd.pinned.checked.prog ++ Tryd.f18.resultTypes.toList)) = true := by kernel_rfl
theorem codePrints_closed : joinedFacts Tryd.pinned.checked.prog 18 Tryd.f18 Rows.codePrintsSpec Rows.codePrintsRow = true := by
  unfold joinedFacts
  simp only [Bool.and_eq_true]
  exact ⟨⟨⟨⟨⟨⟨⟨⟨⟨⟨⟨⟨⟨⟨⟨⟨⟨⟨⟨⟨⟨⟨⟨⟨⟨⟨⟨⟨⟨⟨⟨codePrints_l0, codePrints_l1⟩, codePrints_l2⟩, codePrints_l3⟩, codePrints_l4⟩, codePrints_l5⟩, codePrints_l6⟩, codePrints_l7⟩, codePrints_l8⟩, codePrints_l9⟩, codePrints_l10⟩, codePrints_l11⟩, codePrints_l12⟩, codePrints_l13⟩, codePrints_l14⟩, codePrints_l15⟩, codePrints_l16⟩, codePrints_l17⟩, codePrints_l18⟩, codePrints_l19⟩, codePrints_l20⟩, codePrints_l21⟩, codePrints_l22⟩, codePrints_l23⟩, codePrints_l24⟩, codePrints_l25⟩, codePrints_l26⟩, codePrints_l27⟩, codePrints_l28⟩, codePrints_l29⟩, codePrints_l30⟩, codePrints_l31⟩
end Go.Proofs.YtkjcmppaapbabaaDoor
