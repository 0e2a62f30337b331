/-
  CodePlain returns true for every input and leaves its arguments as they were: closed facts of the row. No condition.
-/
import Derived.Test.YtkjcmppaapbabaaDoorJV
import Derived.SevenTiedAt
namespace Go.Proofs.YtkjcmppaapbabaaDoor
open Go.ChangeShapes Go.WideShapes Go.ChangeAt Go.WideElems Go.RowKit
set_option maxRecDepth 100000
theorem codePlain_named : Tryd.pinned.checked.prog.funcNamed Rows.codePlainRow.func = some 11 := by kernel_rfl
theorem codePlain_l0 : (Rows.codePlainRow.wf (OpenSpec.ofChange Rows.codePlainSpec)) = true := by kernel_rfl
theorem codePlain_l1 : (laidOutB Tryd.pinned.checked.prog) = true := by kernel_rfl
theorem codePlain_l2 : (mapsRowed Tryd.pinned.checked.prog) = true := by kernel_rfl
theorem codePlain_l3 : (Tryd.f11.params.all (Tryd.pinned.checked.prog.readableRec ·)) = true := by kernel_rfl
theorem codePlain_l4 : (namedTie Tryd.pinned.checked.prog Rows.codePlainRow.named Rows.codePlainSpec.vars) = true := by kernel_rfl
theorem codePlain_l5 : ((Rows.codePlainRow.stops == [])) = true := by kernel_rfl
theorem codePlain_l6 : ((Tryd.pinned.checked.prog.stops == [])) = true := by kernel_rfl
theorem codePlain_l7 : ((Rows.codePlainRow.knobs == [])) = true := by kernel_rfl
theorem codePlain_l8 : ((Tryd.pinned.checked.prog.stopKnobs == [])) = true := by kernel_rfl
theorem codePlain_l9 : ((Rows.codePlainRow.inPlace == Tryd.pinned.checked.prog.inPlace 11)) = true := by kernel_rfl
theorem codePlain_l10 : ((Rows.codePlainRow.unfollowed == Tryd.pinned.checked.prog.unfollowed 11)) = true := by kernel_rfl
theorem codePlain_l11 : ((Rows.codePlainRow.recurses == Tryd.pinned.checked.prog.recurses 11)) = true := by kernel_rfl
theorem codePlain_l12 : ((Rows.codePlainRow.named == Tryd.pinned.checked.prog.varsNamed 11)) = true := by kernel_rfl
theorem codePlain_l13 : ((Rows.codePlainRow.maps == (Tryd.f11.params.toList ++ Rows.codePlainSpec.plain.varTypes Tryd.pinned.checked.prog).any (Tryd.pinned.checked.prog.mapsRec ·))) = true := by kernel_rfl
theorem codePlain_l14 : ((Rows.codePlainRow.ifaces == (Tryd.f11.params.toList ++ Rows.codePlainSpec.plain.varTypes Tryd.pinned.checked.prog).any (Tryd.pinned.checked.prog.ifacesRec ·))) = true := by kernel_rfl
theorem codePlain_l15 : ((Rows.codePlainRow.mapsOut == Tryd.pinned.checked.prog.mapsAmong Tryd.f11.resultTypes.toList)) = true := by kernel_rfl
theorem codePlain_l16 : ((Rows.codePlainRow.loops == (Tryd.f11.params.toList ++ Rows.codePlainSpec.plain.varTypes Tryd.pinned.checked.prog).any (Tryd.pinned.checked.prog.loopsFrom ·))) = true := by kernel_rfl
theorem codePlain_l17 : ((Rows.codePlainRow.wideKeys == (Tryd.f11.params.toList ++ Rows.codePlainSpec.plain.varTypes Tryd.pinned.checked.prog ++ Tryd.f11.resultTypes.toList).any (Tryd.pinned.checked.prog.wideKeysFrom ·))) = true := by kernel_rfl
theorem codePlain_l18 : (Rows.codePlainSpec.vars.all (Tryd.pinned.checked.prog.varReadable ·)) = true := by kernel_rfl
theorem codePlain_l19 : (Tryd.f11.resultTypes.all (fun t => Tryd.pinned.checked.prog.readableRec t && decide (t < Tryd.pinned.checked.prog.types.size))) = true := by kernel_rfl
theorem codePlain_l20 : ((Rows.codePlainRow.ifacesOut == Tryd.f11.resultTypes.toList.any (Tryd.pinned.checked.prog.ifacesRec ·))) = true := by kernel_rfl
theorem codePlain_l21 : ((Rows.codePlainRow.loopsOut == Tryd.f11.resultTypes.toList.any (Tryd.pinned.checked.prog.loopsFrom ·))) = true := by kernel_rfl
theorem codePlain_l22 : ((Rows.codePlainRow.plainKeys == Tryd.pinned.checked.prog.plainKeys)) = true := by kernel_rfl
theorem codePlain_l23 : (Rows.codePlainRow.shortTexts.isNone) = true := by kernel_rfl
theorem codePlain_l24 : (Tryd.pinned.checked.prog.stopsHeard) = true := by kernel_rfl
theorem codePlain_l25 : (Tryd.pinned.checked.prog.mayEnter) = true := by kernel_rfl
theorem codePlain_l26 : ((Rows.codePlainRow.lifted == Tryd.pinned.checked.prog.liftsFinal)) = true := by kernel_rfl
theorem codePlain_l27 : ((Tryd.pinned.checked.prog.make == some Rows.codePlainRow.make)) = true := by kernel_rfl
theorem codePlain_l28 : ((Rows.codePlainRow.kinds == (if Rows.codePlainRow.domain.isEmpty then [] else Tryd.f11.params.toList.map fun t => match Tryd.pinned.checked.prog.underlying t with | some (.int k) => some k | _ => none))) = true := by kernel_rfl
theorem codePlain_l29 : ((Rows.codePlainRow.pinned == Rows.codePlainRow.pinnedBy)) = true := by kernel_rfl
theorem codePlain_l30 : ((Rows.codePlainRow.veiled == (Tryd.f11.params.toList ++ Rows.codePlainSpec.plain.varTypes Tryd.pinned.checked.prog ++ Tryd.f11.resultTypes.toList).any (Tryd.pinned.checked.prog.veiledRec ·))) = true := by kernel_rfl
theorem codePlain_l31 : (Rows.codePlainRow.veiledFits Tryd.pinned.checked.prog Tryd.f11.params.toList (Tryd.f11.params.toList ++ Rows.codePlainSpec.plain.varTypes Tryd.pinned.checked.prog ++ Tryd.f11.resultTypes.toList)) = true := by kernel_rfl
theorem codePlain_closed : joinedFacts Tryd.pinned.checked.prog 11 Tryd.f11 Rows.codePlainSpec Rows.codePlainRow = true := by
  unfold joinedFacts
  simp only [Bool.and_eq_true]
  exact ⟨⟨⟨⟨⟨⟨⟨⟨⟨⟨⟨⟨⟨⟨⟨⟨⟨⟨⟨⟨⟨⟨⟨⟨⟨⟨⟨⟨⟨⟨⟨codePlain_l0, codePlain_l1⟩, codePlain_l2⟩, codePlain_l3⟩, codePlain_l4⟩, codePlain_l5⟩, codePlain_l6⟩, codePlain_l7⟩, codePlain_l8⟩, codePlain_l9⟩, codePlain_l10⟩, codePlain_l11⟩, codePlain_l12⟩, codePlain_l13⟩, codePlain_l14⟩, codePlain_l15⟩, codePlain_l16⟩, codePlain_l17⟩, codePlain_l18⟩, codePlain_l19⟩, codePlain_l20⟩, codePlain_l21⟩, codePlain_l22⟩, codePlain_l23⟩, codePlain_l24⟩, codePlain_l25⟩, codePlain_l26⟩, codePlain_l27⟩, codePlain_l28⟩, codePlain_l29⟩, codePlain_l30⟩, codePlain_l31⟩
end Go.Proofs.YtkjcmppaapbabaaDoor
