/-
  CodeTurns returns true for every input and leaves its arguments as they were: closed facts of the row. No condition.
-/
import Derived.Test.YtkjcmppaapbabaaDoorF2C
import Derived.SevenTiedAt
namespace Go.Proofs.YtkjcmppaapbabaaDoor
open Go.ChangeShapes Go.WideShapes Go.ChangeAt Go.WideElems Go.RowKit
set_option maxRecDepth 100000
theorem codeTurns_named : Tryd.pinned.checked.prog.funcNamed Rows.codeTurnsRow.func = some 8 := by kernel_rfl
theorem codeTurns_l0 : (Rows.codeTurnsRow.wf (OpenSpec.ofChange Rows.codeTurnsSpec)) = true := by kernel_rfl
theorem codeTurns_l1 : (laidOutB Tryd.pinned.checked.prog) = true := by kernel_rfl
theorem codeTurns_l2 : (mapsRowed Tryd.pinned.checked.prog) = true := by kernel_rfl
theorem codeTurns_l3 : (Tryd.f8.params.all (Tryd.pinned.checked.prog.readableRec ·)) = true := by kernel_rfl
theorem codeTurns_l4 : (namedTie Tryd.pinned.checked.prog Rows.codeTurnsRow.named Rows.codeTurnsSpec.vars) = true := by kernel_rfl
theorem codeTurns_l5 : ((Rows.codeTurnsRow.stops == [])) = true := by kernel_rfl
theorem codeTurns_l6 : ((Tryd.pinned.checked.prog.stops == [])) = true := by kernel_rfl
theorem codeTurns_l7 : ((Rows.codeTurnsRow.knobs == [])) = true := by kernel_rfl
theorem codeTurns_l8 : ((Tryd.pinned.checked.prog.stopKnobs == [])) = true := by kernel_rfl
theorem codeTurns_l9 : ((Rows.codeTurnsRow.inPlace == Tryd.pinned.checked.prog.inPlace 8)) = true := by kernel_rfl
theorem codeTurns_l10 : ((Rows.codeTurnsRow.unfollowed == Tryd.pinned.checked.prog.unfollowed 8)) = true := by kernel_rfl
theorem codeTurns_l11 : ((Rows.codeTurnsRow.recurses == Tryd.pinned.checked.prog.recurses 8)) = true := by kernel_rfl
theorem codeTurns_l12 : ((Rows.codeTurnsRow.named == Tryd.pinned.checked.prog.varsNamed 8)) = true := by kernel_rfl
theorem codeTurns_l13 : ((Rows.codeTurnsRow.maps == (Tryd.f8.params.toList ++ Rows.codeTurnsSpec.plain.varTypes Tryd.pinned.checked.prog).any (Tryd.pinned.checked.prog.mapsRec ·))) = true := by kernel_rfl
theorem codeTurns_l14 : ((Rows.codeTurnsRow.ifaces == (Tryd.f8.params.toList ++ Rows.codeTurnsSpec.plain.varTypes Tryd.pinned.checked.prog).any (Tryd.pinned.checked.prog.ifacesRec ·))) = true := by kernel_rfl
theorem codeTurns_l15 : ((Rows.codeTurnsRow.mapsOut == Tryd.pinned.checked.prog.mapsAmong Tryd.f8.resultTypes.toList)) = true := by kernel_rfl
theorem codeTurns_l16 : ((Rows.codeTurnsRow.loops == (Tryd.f8.params.toList ++ Rows.codeTurnsSpec.plain.varTypes Tryd.pinned.checked.prog).any (Tryd.pinned.checked.prog.loopsFrom ·))) = true := by kernel_rfl
theorem codeTurns_l17 : ((Rows.codeTurnsRow.wideKeys == (Tryd.f8.params.toList ++ Rows.codeTurnsSpec.plain.varTypes Tryd.pinned.checked.prog ++ Tryd.f8.resultTypes.toList).any (Tryd.pinned.checked.prog.wideKeysFrom ·))) = true := by kernel_rfl
theorem codeTurns_l18 : (Rows.codeTurnsSpec.vars.all (Tryd.pinned.checked.prog.varReadable ·)) = true := by kernel_rfl
theorem codeTurns_l19 : (Tryd.f8.resultTypes.all (fun t => Tryd.pinned.checked.prog.readableRec t && decide (t < Tryd.pinned.checked.prog.types.size))) = true := by kernel_rfl
theorem codeTurns_l20 : ((Rows.codeTurnsRow.ifacesOut == Tryd.f8.resultTypes.toList.any (Tryd.pinned.checked.prog.ifacesRec ·))) = true := by kernel_rfl
theorem codeTurns_l21 : ((Rows.codeTurnsRow.loopsOut == Tryd.f8.resultTypes.toList.any (Tryd.pinned.checked.prog.loopsFrom ·))) = true := by kernel_rfl
theorem codeTurns_l22 : ((Rows.codeTurnsRow.plainKeys == Tryd.pinned.checked.prog.plainKeys)) = true := by kernel_rfl
theorem codeTurns_l23 : (Rows.codeTurnsRow.shortTexts.isNone) = true := by kernel_rfl
theorem codeTurns_l24 : (Tryd.pinned.checked.prog.stopsHeard) = true := by kernel_rfl
theorem codeTurns_l25 : (Tryd.pinned.checked.prog.mayEnter) = true := by kernel_rfl
theorem codeTurns_l26 : ((Rows.codeTurnsRow.lifted == Tryd.pinned.checked.prog.liftsFinal)) = true := by kernel_rfl
theorem codeTurns_l27 : ((Tryd.pinned.checked.prog.make == some Rows.codeTurnsRow.make)) = true := by kernel_rfl
theorem codeTurns_l28 : ((Rows.codeTurnsRow.kinds == (if Rows.codeTurnsRow.domain.isEmpty then [] else Tryd.f8.params.toList.map fun t => match Tryd.pinned.checked.prog.underlying t with | some (.int k) => some k | _ => none))) = true := by kernel_rfl
theorem codeTurns_l29 : ((Rows.codeTurnsRow.pinned == Rows.codeTurnsRow.pinnedBy)) = true := by kernel_rfl
theorem codeTurns_l30 : ((Rows.codeTurnsRow.veiled == (Tryd.f8.params.toList ++ Rows.codeTurnsSpec.plain.varTypes Tryd.pinned.checked.prog ++ Tryd.f8.resultTypes.toList).any (Tryd.pinned.checked.prog.veiledRec ·))) = true := by kernel_rfl
theorem codeTurns_l31 : (Rows.codeTurnsRow.veiledFits Tryd.pinned.checked.prog Tryd.f8.params.toList (Tryd.f8.params.toList ++ Rows.codeTurnsSpec.plain.varTypes Tryd.pinned.checked.prog ++ Tryd.f8.resultTypes.toList)) = true := by kernel_rfl
theorem codeTurns_closed : joinedFacts Tryd.pinned.checked.prog 8 Tryd.f8 Rows.codeTurnsSpec Rows.codeTurnsRow = true := by
  unfold joinedFacts
  simp only [Bool.and_eq_true]
  exact ⟨⟨⟨⟨⟨⟨⟨⟨⟨⟨⟨⟨⟨⟨⟨⟨⟨⟨⟨⟨⟨⟨⟨⟨⟨⟨⟨⟨⟨⟨⟨codeTurns_l0, codeTurns_l1⟩, codeTurns_l2⟩, codeTurns_l3⟩, codeTurns_l4⟩, codeTurns_l5⟩, codeTurns_l6⟩, codeTurns_l7⟩, codeTurns_l8⟩, codeTurns_l9⟩, codeTurns_l10⟩, codeTurns_l11⟩, codeTurns_l12⟩, codeTurns_l13⟩, codeTurns_l14⟩, codeTurns_l15⟩, codeTurns_l16⟩, codeTurns_l17⟩, codeTurns_l18⟩, codeTurns_l19⟩, codeTurns_l20⟩, codeTurns_l21⟩, codeTurns_l22⟩, codeTurns_l23⟩, codeTurns_l24⟩, codeTurns_l25⟩, codeTurns_l26⟩, codeTurns_l27⟩, codeTurns_l28⟩, codeTurns_l29⟩, codeTurns_l30⟩, codeTurns_l31⟩
end Go.Proofs.YtkjcmppaapbabaaDoor
