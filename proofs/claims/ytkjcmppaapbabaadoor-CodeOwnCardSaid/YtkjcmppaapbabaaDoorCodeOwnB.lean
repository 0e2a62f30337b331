/-
  CodeOwn returns true for every input and leaves its arguments as they were: closed facts of the row. No condition.
-/
import Derived.Test.YtkjcmppaapbabaaDoorJV
import Derived.SevenTiedAt
namespace Go.Proofs.YtkjcmppaapbabaaDoor
open Go.ChangeShapes Go.WideShapes Go.ChangeAt Go.WideElems Go.RowKit
set_option maxRecDepth 100000
theorem codeOwn_named : Tryd.pinned.checked.prog.funcNamed Rows.codeOwnRow.func = some 12 := by kernel_rfl
theorem codeOwn_l0 : (Rows.codeOwnRow.wf (OpenSpec.ofChange Rows.codeOwnSpec)) = true := by kernel_rfl
theorem codeOwn_l1 : (laidOutB Tryd.pinned.checked.prog) = true := by kernel_rfl
theorem codeOwn_l2 : (mapsRowed Tryd.pinned.checked.prog) = true := by kernel_rfl
theorem codeOwn_l3 : (Tryd.f12.params.all (Tryd.pinned.checked.prog.readableRec ·)) = true := by kernel_rfl
theorem codeOwn_l4 : (namedTie Tryd.pinned.checked.prog Rows.codeOwnRow.named Rows.codeOwnSpec.vars) = true := by kernel_rfl
theorem codeOwn_l5 : ((Rows.codeOwnRow.stops == [])) = true := by kernel_rfl
theorem codeOwn_l6 : ((Tryd.pinned.checked.prog.stops == [])) = true := by kernel_rfl
theorem codeOwn_l7 : ((Rows.codeOwnRow.knobs == [])) = true := by kernel_rfl
theorem codeOwn_l8 : ((Tryd.pinned.checked.prog.stopKnobs == [])) = true := by kernel_rfl
theorem codeOwn_l9 : ((Rows.codeOwnRow.inPlace == Tryd.pinned.checked.prog.inPlace 12)) = true := by kernel_rfl
theorem codeOwn_l10 : ((Rows.codeOwnRow.unfollowed == Tryd.pinned.checked.prog.unfollowed 12)) = true := by kernel_rfl
theorem codeOwn_l11 : ((Rows.codeOwnRow.recurses == Tryd.pinned.checked.prog.recurses 12)) = true := by kernel_rfl
theorem codeOwn_l12 : ((Rows.codeOwnRow.named == Tryd.pinned.checked.prog.varsNamed 12)) = true := by kernel_rfl
theorem codeOwn_l13 : ((Rows.codeOwnRow.maps == (Tryd.f12.params.toList ++ Rows.codeOwnSpec.plain.varTypes Tryd.pinned.checked.prog).any (Tryd.pinned.checked.prog.mapsRec ·))) = true := by kernel_rfl
theorem codeOwn_l14 : ((Rows.codeOwnRow.ifaces == (Tryd.f12.params.toList ++ Rows.codeOwnSpec.plain.varTypes Tryd.pinned.checked.prog).any (Tryd.pinned.checked.prog.ifacesRec ·))) = true := by kernel_rfl
theorem codeOwn_l15 : ((Rows.codeOwnRow.mapsOut == Tryd.pinned.checked.prog.mapsAmong Tryd.f12.resultTypes.toList)) = true := by kernel_rfl
theorem codeOwn_l16 : ((Rows.codeOwnRow.loops == (Tryd.f12.params.toList ++ Rows.codeOwnSpec.plain.varTypes Tryd.pinned.checked.prog).any (Tryd.pinned.checked.prog.loopsFrom ·))) = true := by kernel_rfl
theorem codeOwn_l17 : ((Rows.codeOwnRow.wideKeys == (Tryd.f12.params.toList ++ Rows.codeOwnSpec.plain.varTypes Tryd.pinned.checked.prog ++ Tryd.f12.resultTypes.toList).any (Tryd.pinned.checked.prog.wideKeysFrom ·))) = true := by kernel_rfl
theorem codeOwn_l18 : (Rows.codeOwnSpec.vars.all (Tryd.pinned.checked.prog.varReadable ·)) = true := by kernel_rfl
theorem codeOwn_l19 : (Tryd.f12.resultTypes.all (fun t => Tryd.pinned.checked.prog.readableRec t && decide (t < Tryd.pinned.checked.prog.types.size))) = true := by kernel_rfl
theorem codeOwn_l20 : ((Rows.codeOwnRow.ifacesOut == Tryd.f12.resultTypes.toList.any (Tryd.pinned.checked.prog.ifacesRec ·))) = true := by kernel_rfl
theorem codeOwn_l21 : ((Rows.codeOwnRow.loopsOut == Tryd.f12.resultTypes.toList.any (Tryd.pinned.checked.prog.loopsFrom ·))) = true := by kernel_rfl
theorem codeOwn_l22 : ((Rows.codeOwnRow.plainKeys == Tryd.pinned.checked.prog.plainKeys)) = true := by kernel_rfl
theorem codeOwn_l23 : (Rows.codeOwnRow.shortTexts.isNone) = true := by kernel_rfl
theorem codeOwn_l24 : (Tryd.pinned.checked.prog.stopsHeard) = true := by kernel_rfl
theorem codeOwn_l25 : (Tryd.pinned.checked.prog.mayEnter) = true := by kernel_rfl
theorem codeOwn_l26 : ((Rows.codeOwnRow.lifted == Tryd.pinned.checked.prog.liftsFinal)) = true := by kernel_rfl
theorem codeOwn_l27 : ((Tryd.pinned.checked.prog.make == some Rows.codeOwnRow.make)) = true := by kernel_rfl
theorem codeOwn_l28 : ((Rows.codeOwnRow.kinds == (if Rows.codeOwnRow.domain.isEmpty then [] else Tryd.f12.params.toList.map fun t => match Tryd.pinned.checked.prog.underlying t with | some (.int k) => some k | _ => none))) = true := by kernel_rfl
theorem codeOwn_l29 : ((Rows.codeOwnRow.pinned == Rows.codeOwnRow.pinnedBy)) = true := by kernel_rfl
theorem codeOwn_l30 : ((Rows.codeOwnRow.veiled == (Tryd.f12.params.toList ++ Rows.codeOwnSpec.plain.varTypes Tryd.pinned.checked.prog ++ Tryd.f12.resultTypes.toList).any (Tryd.pinned.checked.prog.veiledRec ·))) = true := by kernel_rfl
theorem codeOwn_l31 : (Rows.codeOwnRow.veiledFits Tryd.pinned.checked.prog Tryd.f12.params.toList (Tryd.f12.params.toList ++ Rows.codeOwnSpec.plain.varTypes Tryd.pinned.checked.prog ++ Tryd.f12.resultTypes.toList)) = true := by kernel_rfl
theorem codeOwn_closed : joinedFacts Tryd.pinned.checked.prog 12 Tryd.f12 Rows.codeOwnSpec Rows.codeOwnRow = true := by
  unfold joinedFacts
  simp only [Bool.and_eq_true]
  exact ⟨⟨⟨⟨⟨⟨⟨⟨⟨⟨⟨⟨⟨⟨⟨⟨⟨⟨⟨⟨⟨⟨⟨⟨⟨⟨⟨⟨⟨⟨⟨codeOwn_l0, codeOwn_l1⟩, codeOwn_l2⟩, codeOwn_l3⟩, codeOwn_l4⟩, codeOwn_l5⟩, codeOwn_l6⟩, codeOwn_l7⟩, codeOwn_l8⟩, codeOwn_l9⟩, codeOwn_l10⟩, codeOwn_l11⟩, codeOwn_l12⟩, codeOwn_l13⟩, codeOwn_l14⟩, codeOwn_l15⟩, codeOwn_l16⟩, codeOwn_l17⟩, codeOwn_l18⟩, codeOwn_l19⟩, codeOwn_l20⟩, codeOwn_l21⟩, codeOwn_l22⟩, codeOwn_l23⟩, codeOwn_l24⟩, codeOwn_l25⟩, codeOwn_l26⟩, codeOwn_l27⟩, codeOwn_l28⟩, codeOwn_l29⟩, codeOwn_l30⟩, codeOwn_l31⟩
end Go.Proofs.YtkjcmppaapbabaaDoor
