/-
  LineAll returns true for every input and leaves its arguments as they were: closed facts of the row. No condition.
-/
import Derived.Test.YtpdkonpnhalecaaDoorF2
import Derived.SevenTiedAt
namespace Go.Proofs.YtpdkonpnhalecaaDoor
open Go.ChangeShapes Go.WideShapes Go.ChangeAt Go.WideElems Go.RowKit
set_option maxRecDepth 100000
theorem lineAll_named : Tryd.pinned.checked.prog.funcNamed Rows.lineAllRow.func = some 3 := by kernel_rfl
theorem lineAll_l0 : (Rows.lineAllRow.wf (OpenSpec.ofChange Rows.lineAllSpec)) = true := by kernel_rfl
theorem lineAll_l1 : (laidOutB Tryd.pinned.checked.prog) = true := by kernel_rfl
theorem lineAll_l2 : (mapsRowed Tryd.pinned.checked.prog) = true := by kernel_rfl
theorem lineAll_l3 : (Tryd.f3.params.all (Tryd.pinned.checked.prog.readableRec ·)) = true := by kernel_rfl
theorem lineAll_l4 : (namedTie Tryd.pinned.checked.prog Rows.lineAllRow.named Rows.lineAllSpec.vars) = true := by kernel_rfl
theorem lineAll_l5 : ((Rows.lineAllRow.stops == [])) = true := by kernel_rfl
theorem lineAll_l6 : ((Tryd.pinned.checked.prog.stops == [])) = true := by kernel_rfl
theorem lineAll_l7 : ((Rows.lineAllRow.knobs == [])) = true := by kernel_rfl
theorem lineAll_l8 : ((Tryd.pinned.checked.prog.stopKnobs == [])) = true := by kernel_rfl
theorem lineAll_l9 : ((Rows.lineAllRow.inPlace == Tryd.pinned.checked.prog.inPlace 3)) = true := by kernel_rfl
theorem lineAll_l10 : ((Rows.lineAllRow.unfollowed == Tryd.pinned.checked.prog.unfollowed 3)) = true := by kernel_rfl
theorem lineAll_l11 : ((Rows.lineAllRow.recurses == Tryd.pinned.checked.prog.recurses 3)) = true := by kernel_rfl
theorem lineAll_l12 : ((Rows.lineAllRow.named == Tryd.pinned.checked.prog.varsNamed 3)) = true := by kernel_rfl
theorem lineAll_l13 : ((Rows.lineAllRow.maps == (Tryd.f3.params.toList ++ Rows.lineAllSpec.plain.varTypes Tryd.pinned.checked.prog).any (Tryd.pinned.checked.prog.mapsRec ·))) = true := by kernel_rfl
theorem lineAll_l14 : ((Rows.lineAllRow.ifaces == (Tryd.f3.params.toList ++ Rows.lineAllSpec.plain.varTypes Tryd.pinned.checked.prog).any (Tryd.pinned.checked.prog.ifacesRec ·))) = true := by kernel_rfl
theorem lineAll_l15 : ((Rows.lineAllRow.mapsOut == Tryd.pinned.checked.prog.mapsAmong Tryd.f3.resultTypes.toList)) = true := by kernel_rfl
theorem lineAll_l16 : ((Rows.lineAllRow.loops == (Tryd.f3.params.toList ++ Rows.lineAllSpec.plain.varTypes Tryd.pinned.checked.prog).any (Tryd.pinned.checked.prog.loopsFrom ·))) = true := by kernel_rfl
theorem lineAll_l17 : ((Rows.lineAllRow.wideKeys == (Tryd.f3.params.toList ++ Rows.lineAllSpec.plain.varTypes Tryd.pinned.checked.prog ++ Tryd.f3.resultTypes.toList).any (Tryd.pinned.checked.prog.wideKeysFrom ·))) = true := by kernel_rfl
theorem lineAll_l18 : (Rows.lineAllSpec.vars.all (Tryd.pinned.checked.prog.varReadable ·)) = true := by kernel_rfl
theorem lineAll_l19 : (Tryd.f3.resultTypes.all (fun t => Tryd.pinned.checked.prog.readableRec t && decide (t < Tryd.pinned.checked.prog.types.size))) = true := by kernel_rfl
theorem lineAll_l20 : ((Rows.lineAllRow.ifacesOut == Tryd.f3.resultTypes.toList.any (Tryd.pinned.checked.prog.ifacesRec ·))) = true := by kernel_rfl
theorem lineAll_l21 : ((Rows.lineAllRow.loopsOut == Tryd.f3.resultTypes.toList.any (Tryd.pinned.checked.prog.loopsFrom ·))) = true := by kernel_rfl
theorem lineAll_l22 : ((Rows.lineAllRow.plainKeys == Tryd.pinned.checked.prog.plainKeys)) = true := by kernel_rfl
theorem lineAll_l23 : (Rows.lineAllRow.shortTexts.isNone) = true := by kernel_rfl
theorem lineAll_l24 : (Tryd.pinned.checked.prog.stopsHeard) = true := by kernel_rfl
theorem lineAll_l25 : (Tryd.pinned.checked.prog.mayEnter) = true := by kernel_rfl
theorem lineAll_l26 : ((Rows.lineAllRow.lifted == Tryd.pinned.checked.prog.liftsFinal)) = true := by kernel_rfl
theorem lineAll_l27 : ((Tryd.pinned.checked.prog.make == some Rows.lineAllRow.make)) = true := by kernel_rfl
theorem lineAll_l28 : ((Rows.lineAllRow.kinds == (if Rows.lineAllRow.domain.isEmpty then [] else Tryd.f3.params.toList.map fun t => match Tryd.pinned.checked.prog.underlying t with | some (.int k) => some k | _ => none))) = true := by kernel_rfl
theorem lineAll_l29 : ((Rows.lineAllRow.pinned == Rows.lineAllRow.pinnedBy)) = true := by kernel_rfl
theorem lineAll_l30 : ((Rows.lineAllRow.veiled == (Tryd.f3.params.toList ++ Rows.lineAllSpec.plain.varTypes Tryd.pinned.checked.prog ++ Tryd.f3.resultTypes.toList).any (Tryd.pinned.checked.prog.veiledRec ·))) = true := by kernel_rfl
theorem lineAll_l31 : (Rows.lineAllRow.veiledFits Tryd.pinned.checked.prog Tryd.f3.params.toList (Tryd.f3.params.toList ++ Rows.lineAllSpec.plain.varTypes Tryd.pinned.checked.prog ++ Tryd.f3.resultTypes.toList)) = true := by kernel_rfl
theorem lineAll_closed : joinedFacts Tryd.pinned.checked.prog 3 Tryd.f3 Rows.lineAllSpec Rows.lineAllRow = true := by
  unfold joinedFacts
  simp only [Bool.and_eq_true]
  exact ⟨⟨⟨⟨⟨⟨⟨⟨⟨⟨⟨⟨⟨⟨⟨⟨⟨⟨⟨⟨⟨⟨⟨⟨⟨⟨⟨⟨⟨⟨⟨lineAll_l0, lineAll_l1⟩, lineAll_l2⟩, lineAll_l3⟩, lineAll_l4⟩, lineAll_l5⟩, lineAll_l6⟩, lineAll_l7⟩, lineAll_l8⟩, lineAll_l9⟩, lineAll_l10⟩, lineAll_l11⟩, lineAll_l12⟩, lineAll_l13⟩, lineAll_l14⟩, lineAll_l15⟩, lineAll_l16⟩, lineAll_l17⟩, lineAll_l18⟩, lineAll_l19⟩, lineAll_l20⟩, lineAll_l21⟩, lineAll_l22⟩, lineAll_l23⟩, lineAll_l24⟩, lineAll_l25⟩, lineAll_l26⟩, lineAll_l27⟩, lineAll_l28⟩, lineAll_l29⟩, lineAll_l30⟩, lineAll_l31⟩
end Go.Proofs.YtpdkonpnhalecaaDoor
