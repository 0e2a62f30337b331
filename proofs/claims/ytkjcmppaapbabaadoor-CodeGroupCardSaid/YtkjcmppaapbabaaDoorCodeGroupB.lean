/-
  CodeGroup returns true for every input and leaves its arguments as they were: closed facts of the row. No condition.
-/
import Derived.Test.YtkjcmppaapbabaaDoorJV
import Derived.SevenTiedAt
namespace Go.Proofs.YtkjcmppaapbabaaDoor
open Go.ChangeShapes Go.WideShapes Go.ChangeAt Go.WideElems Go.RowKit
set_option maxRecDepth 100000
theorem codeGroup_named : Tryd.pinned.checked.prog.funcNamed Rows.codeGroupRow.func = some 14 := by kernel_rfl
theorem codeGroup_l0 : (Rows.codeGroupRow.wf (OpenSpec.ofChange Rows.codeGroupSpec)) = true := by kernel_rfl
theorem codeGroup_l1 : (laidOutB Tryd.pinned.checked.prog) = true := by kernel_rfl
theorem codeGroup_l2 : (mapsRowed Tryd.pinned.checked.prog) = true := by kernel_rfl
theorem codeGroup_l3 : (Tryd.f14.params.all (Tryd.pinned.checked.prog.readableRec ·)) = true := by kernel_rfl
theorem codeGroup_l4 : (namedTie Tryd.pinned.checked.prog Rows.codeGroupRow.named Rows.codeGroupSpec.vars) = true := by kernel_rfl
theorem codeGroup_l5 : ((Rows.codeGroupRow.stops == [])) = true := by kernel_rfl
theorem codeGroup_l6 : ((Tryd.pinned.checked.prog.stops == [])) = true := by kernel_rfl
theorem codeGroup_l7 : ((Rows.codeGroupRow.knobs == [])) = true := by kernel_rfl
theorem codeGroup_l8 : ((Tryd.pinned.checked.prog.stopKnobs == [])) = true := by kernel_rfl
theorem codeGroup_l9 : ((Rows.codeGroupRow.inPlace == Tryd.pinned.checked.prog.inPlace 14)) = true := by kernel_rfl
theorem codeGroup_l10 : ((Rows.codeGroupRow.unfollowed == Tryd.pinned.checked.prog.unfollowed 14)) = true := by kernel_rfl
theorem codeGroup_l11 : ((Rows.codeGroupRow.recurses == Tryd.pinned.checked.prog.recurses 14)) = true := by kernel_rfl
theorem codeGroup_l12 : ((Rows.codeGroupRow.named == Tryd.pinned.checked.prog.varsNamed 14)) = true := by kernel_rfl
theorem codeGroup_l13 : ((Rows.codeGroupRow.maps == (Tryd.f14.params.toList ++ Rows.codeGroupSpec.plain.varTypes Tryd.pinned.checked.prog).any (Tryd.pinned.checked.prog.mapsRec ·))) = true := by kernel_rfl
theorem codeGroup_l14 : ((Rows.codeGroupRow.ifaces == (Tryd.f14.params.toList ++ Rows.codeGroupSpec.plain.varTypes Tryd.pinned.checked.prog).any (Tryd.pinned.checked.prog.ifacesRec ·))) = true := by kernel_rfl
theorem codeGroup_l15 : ((Rows.codeGroupRow.mapsOut == Tryd.pinned.checked.prog.mapsAmong Tryd.f14.resultTypes.toList)) = true := by kernel_rfl
theorem codeGroup_l16 : ((Rows.codeGroupRow.loops == (Tryd.f14.params.toList ++ Rows.codeGroupSpec.plain.varTypes Tryd.pinned.checked.prog).any (Tryd.pinned.checked.prog.loopsFrom ·))) = true := by kernel_rfl
theorem codeGroup_l17 : ((Rows.codeGroupRow.wideKeys == (Tryd.f14.params.toList ++ Rows.codeGroupSpec.plain.varTypes Tryd.pinned.checked.prog ++ Tryd.f14.resultTypes.toList).any (Tryd.pinned.checked.prog.wideKeysFrom ·))) = true := by kernel_rfl
theorem codeGroup_l18 : (Rows.codeGroupSpec.vars.all (Tryd.pinned.checked.prog.varReadable ·)) = true := by kernel_rfl
theorem codeGroup_l19 : (Tryd.f14.resultTypes.all (fun t => Tryd.pinned.checked.prog.readableRec t && decide (t < Tryd.pinned.checked.prog.types.size))) = true := by kernel_rfl
theorem codeGroup_l20 : ((Rows.codeGroupRow.ifacesOut == Tryd.f14.resultTypes.toList.any (Tryd.pinned.checked.prog.ifacesRec ·))) = true := by kernel_rfl
theorem codeGroup_l21 : ((Rows.codeGroupRow.loopsOut == Tryd.f14.resultTypes.toList.any (Tryd.pinned.checked.prog.loopsFrom ·))) = true := by kernel_rfl
theorem codeGroup_l22 : ((Rows.codeGroupRow.plainKeys == Tryd.pinned.checked.prog.plainKeys)) = true := by kernel_rfl
theorem codeGroup_l23 : (Rows.codeGroupRow.shortTexts.isNone) = true := by kernel_rfl
theorem codeGroup_l24 : (Tryd.pinned.checked.prog.stopsHeard) = true := by kernel_rfl
theorem codeGroup_l25 : (Tryd.pinned.checked.prog.mayEnter) = true := by kernel_rfl
theorem codeGroup_l26 : ((Rows.codeGroupRow.lifted == Tryd.pinned.checked.prog.liftsFinal)) = true := by kernel_rfl
theorem codeGroup_l27 : ((Tryd.pinned.checked.prog.make == some Rows.codeGroupRow.make)) = true := by kernel_rfl
theorem codeGroup_l28 : ((Rows.codeGroupRow.kinds == (if Rows.codeGroupRow.domain.isEmpty then [] else Tryd.f14.params.toList.map fun t => match Tryd.pinned.checked.prog.underlying t with | some (.int k) => some k | _ => none))) = true := by kernel_rfl
theorem codeGroup_l29 : ((Rows.codeGroupRow.pinned == Rows.codeGroupRow.pinnedBy)) = true := by kernel_rfl
theorem codeGroup_l30 : ((Rows.codeGroupRow.veiled == (Tryd.f14.params.toList ++ Rows.codeGroupSpec.plain.varTypes Tryd.pinned.checked.prog ++ Tryd.f14.resultTypes.toList).any (Tryd.pinned.checked.prog.veiledRec ·))) = true := by kernel_rfl
theorem codeGroup_l31 : (Rows.codeGroupRow.veiledFits Tryd.pinned.checked.prog Tryd.f14.params.toList (Tryd.f14.params.toList ++ Rows.codeGroupSpec.plain.varTypes Tryd.pinned.checked.prog ++ Tryd.f14.resultTypes.toList)) = true := by kernel_rfl
theorem codeGroup_closed : joinedFacts Tryd.pinned.checked.prog 14 Tryd.f14 Rows.codeGroupSpec Rows.codeGroupRow = true := by
  unfold joinedFacts
  simp only [Bool.and_eq_true]
  exact ⟨⟨⟨⟨⟨⟨⟨⟨⟨⟨⟨⟨⟨⟨⟨⟨⟨⟨⟨⟨⟨⟨⟨⟨⟨⟨⟨⟨⟨⟨⟨codeGroup_l0, codeGroup_l1⟩, codeGroup_l2⟩, codeGroup_l3⟩, codeGroup_l4⟩, codeGroup_l5⟩, codeGroup_l6⟩, codeGroup_l7⟩, codeGroup_l8⟩, codeGroup_l9⟩, codeGroup_l10⟩, codeGroup_l11⟩, codeGroup_l12⟩, codeGroup_l13⟩, codeGroup_l14⟩, codeGroup_l15⟩, codeGroup_l16⟩, codeGroup_l17⟩, codeGroup_l18⟩, codeGroup_l19⟩, codeGroup_l20⟩, codeGroup_l21⟩, codeGroup_l22⟩, codeGroup_l23⟩, codeGroup_l24⟩, codeGroup_l25⟩, codeGroup_l26⟩, codeGroup_l27⟩, codeGroup_l28⟩, codeGroup_l29⟩, codeGroup_l30⟩, codeGroup_l31⟩
end Go.Proofs.YtkjcmppaapbabaaDoor
