/-
  CodeChecks returns true for every input and leaves its arguments as they were: closed facts of the row. No condition.
-/
import Derived.Test.YtkjcmppaapbabaaDoorF3C
import Derived.SevenTiedAt
namespace Go.Proofs.YtkjcmppaapbabaaDoor
open Go.ChangeShapes Go.WideShapes Go.ChangeAt Go.WideElems Go.RowKit
set_option maxRecDepth 100000
theorem codeChecks_named : Tryd.pinned.checked.prog.funcNamed Rows.codeChecksRow.func = some 4 := by kernel_rfl
theorem codeChecks_l0 : (Rows.codeChecksRow.wf (OpenSpec.ofChange Rows.codeChecksSpec)) = true := by kernel_rfl
theorem codeChecks_l1 : (laidOutB Tryd.pinned.checked.prog) = true := by kernel_rfl
theorem codeChecks_l2 : (mapsRowed Tryd.pinned.checked.prog) = true := by kernel_rfl
theorem codeChecks_l3 : (Tryd.f4.params.all (Tryd.pinned.checked.prog.readableRec ·)) = true := by kernel_rfl
theorem codeChecks_l4 : (namedTie Tryd.pinned.checked.prog Rows.codeChecksRow.named Rows.codeChecksSpec.vars) = true := by kernel_rfl
theorem codeChecks_l5 : ((Rows.codeChecksRow.stops == [])) = true := by kernel_rfl
theorem codeChecks_l6 : ((Tryd.pinned.checked.prog.stops == [])) = true := by kernel_rfl
theorem codeChecks_l7 : ((Rows.codeChecksRow.knobs == [])) = true := by kernel_rfl
theorem codeChecks_l8 : ((Tryd.pinned.checked.prog.stopKnobs == [])) = true := by kernel_rfl
theorem codeChecks_l9 : ((Rows.codeChecksRow.inPlace == Tryd.pinned.checked.prog.inPlace 4)) = true := by kernel_rfl
theorem codeChecks_l10 : ((Rows.codeChecksRow.unfollowed == Tryd.pinned.checked.prog.unfollowed 4)) = true := by kernel_rfl
theorem codeChecks_l11 : ((Rows.codeChecksRow.recurses == Tryd.pinned.checked.prog.recurses 4)) = true := by kernel_rfl
theorem codeChecks_l12 : ((Rows.codeChecksRow.named == Tryd.pinned.checked.prog.varsNamed 4)) = true := by kernel_rfl
theorem codeChecks_l13 : ((Rows.codeChecksRow.maps == (Tryd.f4.params.toList ++ Rows.codeChecksSpec.plain.varTypes Tryd.pinned.checked.prog).any (Tryd.pinned.checked.prog.mapsRec ·))) = true := by kernel_rfl
theorem codeChecks_l14 : ((Rows.codeChecksRow.ifaces == (Tryd.f4.params.toList ++ Rows.codeChecksSpec.plain.varTypes Tryd.pinned.checked.prog).any (Tryd.pinned.checked.prog.ifacesRec ·))) = true := by kernel_rfl
theorem codeChecks_l15 : ((Rows.codeChecksRow.mapsOut == Tryd.pinned.checked.prog.mapsAmong Tryd.f4.resultTypes.toList)) = true := by kernel_rfl
theorem codeChecks_l16 : ((Rows.codeChecksRow.loops == (Tryd.f4.params.toList ++ Rows.codeChecksSpec.plain.varTypes Tryd.pinned.checked.prog).any (Tryd.pinned.checked.prog.loopsFrom ·))) = true := by kernel_rfl
theorem codeChecks_l17 : ((Rows.codeChecksRow.wideKeys == (Tryd.f4.params.toList ++ Rows.codeChecksSpec.plain.varTypes Tryd.pinned.checked.prog ++ Tryd.f4.resultTypes.toList).any (Tryd.pinned.checked.prog.wideKeysFrom ·))) = true := by kernel_rfl
theorem codeChecks_l18 : (Rows.codeChecksSpec.vars.all (Tryd.pinned.checked.prog.varReadable ·)) = true := by kernel_rfl
theorem codeChecks_l19 : (Tryd.f4.resultTypes.all (fun t => Tryd.pinned.checked.prog.readableRec t && decide (t < Tryd.pinned.checked.prog.types.size))) = true := by kernel_rfl
theorem codeChecks_l20 : ((Rows.codeChecksRow.ifacesOut == Tryd.f4.resultTypes.toList.any (Tryd.pinned.checked.prog.ifacesRec ·))) = true := by kernel_rfl
theorem codeChecks_l21 : ((Rows.codeChecksRow.loopsOut == Tryd.f4.resultTypes.toList.any (Tryd.pinned.checked.prog.loopsFrom ·))) = true := by kernel_rfl
theorem codeChecks_l22 : ((Rows.codeChecksRow.plainKeys == Tryd.pinned.checked.prog.plainKeys)) = true := by kernel_rfl
theorem codeChecks_l23 : (Rows.codeChecksRow.shortTexts.isNone) = true := by kernel_rfl
theorem codeChecks_l24 : (Tryd.pinned.checked.prog.stopsHeard) = true := by kernel_rfl
theorem codeChecks_l25 : (Tryd.pinned.checked.prog.mayEnter) = true := by kernel_rfl
theorem codeChecks_l26 : ((Rows.codeChecksRow.lifted == Tryd.pinned.checked.prog.liftsFinal)) = true := by kernel_rfl
theorem codeChecks_l27 : ((Tryd.pinned.checked.prog.make == some Rows.codeChecksRow.make)) = true := by kernel_rfl
theorem codeChecks_l28 : ((Rows.codeChecksRow.kinds == (if Rows.codeChecksRow.domain.isEmpty then [] else Tryd.f4.params.toList.map fun t => match Tryd.pinned.checked.prog.underlying t with | some (.int k) => some k | _ => none))) = true := by kernel_rfl
theorem codeChecks_l29 : ((Rows.codeChecksRow.pinned == Rows.codeChecksRow.pinnedBy)) = true := by kernel_rfl
theorem codeChecks_l30 : ((Rows.codeChecksRow.veiled == (Tryd.f4.params.toList ++ Rows.codeChecksSpec.plain.varTypes Tryd.pinned.checked.prog ++ Tryd.f4.resultTypes.toList).any (Tryd.pinned.checked.prog.veiledRec ·))) = true := by kernel_rfl
theorem codeChecks_l31 : (Rows.codeChecksRow.veiledFits Tryd.pinned.checked.prog Tryd.f4.params.toList (Tryd.f4.params.toList ++ Rows.codeChecksSpec.plain.varTypes Tryd.pinned.checked.prog ++ Tryd.f4.resultTypes.toList)) = true := by kernel_rfl
theorem codeChecks_closed : joinedFacts Tryd.pinned.checked.prog 4 Tryd.f4 Rows.codeChecksSpec Rows.codeChecksRow = true := by
  unfold joinedFacts
  simp only [Bool.and_eq_true]
  exact ⟨⟨⟨⟨⟨⟨⟨⟨⟨⟨⟨⟨⟨⟨⟨⟨⟨⟨⟨⟨⟨⟨⟨⟨⟨⟨⟨⟨⟨⟨⟨codeChecks_l0, codeChecks_l1⟩, codeChecks_l2⟩, codeChecks_l3⟩, codeChecks_l4⟩, codeChecks_l5⟩, codeChecks_l6⟩, codeChecks_l7⟩, codeChecks_l8⟩, codeChecks_l9⟩, codeChecks_l10⟩, codeChecks_l11⟩, codeChecks_l12⟩, codeChecks_l13⟩, codeChecks_l14⟩, codeChecks_l15⟩, codeChecks_l16⟩, codeChecks_l17⟩, codeChecks_l18⟩, codeChecks_l19⟩, codeChecks_l20⟩, codeChecks_l21⟩, codeChecks_l22⟩, codeChecks_l23⟩, codeChecks_l24⟩, codeChecks_l25⟩, codeChecks_l26⟩, codeChecks_l27⟩, codeChecks_l28⟩, codeChecks_l29⟩, codeChecks_l30⟩, codeChecks_l31⟩
end Go.Proofs.YtkjcmppaapbabaaDoor
