/-
  NotesBack returns true for every input and leaves its arguments as they were: closed facts of the row. No condition.
-/
import Derived.Test.YtlmdfmnbcndhoaaGreatDoorBk43
import Derived.SevenTiedAt
namespace Go.Proofs.YtlmdfmnbcndhoaaGreatDoor
open Go.ChangeShapes Go.WideShapes Go.ChangeAt Go.WideElems Go.RowKit
set_option maxRecDepth 100000
theorem notesBack_named:Tryz.pinned.checked.prog.funcNamed Rows.notesBackRow.func=some 7:=by kernel_rfl
theorem notesBack_l0:(Rows.notesBackRow.wf (OpenSpec.ofChange Rows.notesBackSpec))=true:=by kernel_rfl
theorem notesBack_l1:(laidOutB Tryz.pinned.checked.prog)=true:=by kernel_rfl
theorem notesBack_l2:(mapsRowed Tryz.pinned.checked.prog)=true:=by kernel_rfl
theorem notesBack_l3:(Tryz.f7.params.all (Tryz.pinned.checked.prog.readableRec ·))=true:=by kernel_rfl
theorem notesBack_l4:(namedTie Tryz.pinned.checked.prog Rows.notesBackRow.named Rows.notesBackSpec.vars)=true:=by kernel_rfl
theorem notesBack_l5:((Rows.notesBackRow.stops == []))=true:=by kernel_rfl
theorem notesBack_l6:((Tryz.pinned.checked.prog.stops == []))=true:=by kernel_rfl
theorem notesBack_l7:((Rows.notesBackRow.knobs == []))=true:=by kernel_rfl
theorem notesBack_l8:((Tryz.pinned.checked.prog.stopKnobs == []))=true:=by kernel_rfl
theorem notesBack_l9:((Rows.notesBackRow.inPlace == Tryz.pinned.checked.prog.inPlace 7))=true:=by kernel_rfl
theorem notesBack_l10:((Rows.notesBackRow.unfollowed == Tryz.pinned.checked.prog.unfollowed 7))=true:=by kernel_rfl
theorem notesBack_l11:((Rows.notesBackRow.recurses == Tryz.pinned.checked.prog.recurses 7))=true:=by kernel_rfl
theorem notesBack_l12:((Rows.notesBackRow.named == Tryz.pinned.checked.prog.varsNamed 7))=true:=by kernel_rfl
theorem notesBack_l13:((Rows.notesBackRow.maps == (Tryz.f7.params.toList++Rows.notesBackSpec.plain.varTypes Tryz.pinned.checked.prog).any (Tryz.pinned.checked.prog.mapsRec ·)))=true:=by kernel_rfl
theorem notesBack_l14:((Rows.notesBackRow.ifaces == (Tryz.f7.params.toList++Rows.notesBackSpec.plain.varTypes Tryz.pinned.checked.prog).any (Tryz.pinned.checked.prog.ifacesRec ·)))=true:=by kernel_rfl
theorem notesBack_l15:((Rows.notesBackRow.mapsOut == Tryz.pinned.checked.prog.mapsAmong Tryz.f7.resultTypes.toList))=true:=by kernel_rfl
theorem notesBack_l16:((Rows.notesBackRow.loops == (Tryz.f7.params.toList++Rows.notesBackSpec.plain.varTypes Tryz.pinned.checked.prog).any (Tryz.pinned.checked.prog.loopsFrom ·)))=true:=by kernel_rfl
theorem notesBack_l17:((Rows.notesBackRow.wideKeys == (Tryz.f7.params.toList++Rows.notesBackSpec.plain.varTypes Tryz.pinned.checked.prog++Tryz.f7.resultTypes.toList).any (Tryz.pinned.checked.prog.wideKeysFrom ·)))=true:=by kernel_rfl
theorem notesBack_l18:(Rows.notesBackSpec.vars.all (Tryz.pinned.checked.prog.varReadable ·))=true:=by kernel_rfl
theorem notesBack_l19:(Tryz.f7.resultTypes.all (fun t=>Tryz.pinned.checked.prog.readableRec t && decide (t < Tryz.pinned.checked.prog.types.size)))=true:=by kernel_rfl
theorem notesBack_l20:((Rows.notesBackRow.ifacesOut == Tryz.f7.resultTypes.toList.any (Tryz.pinned.checked.prog.ifacesRec ·)))=true:=by kernel_rfl
theorem notesBack_l21:((Rows.notesBackRow.loopsOut == Tryz.f7.resultTypes.toList.any (Tryz.pinned.checked.prog.loopsFrom ·)))=true:=by kernel_rfl
theorem notesBack_l22:((Rows.notesBackRow.plainKeys == Tryz.pinned.checked.prog.plainKeys))=true:=by kernel_rfl
theorem notesBack_l23:(Rows.notesBackRow.shortTexts.isNone)=true:=by kernel_rfl
theorem notesBack_l24:(Tryz.pinned.checked.prog.stopsHeard)=true:=by kernel_rfl
theorem notesBack_l25:(Tryz.pinned.checked.prog.mayEnter)=true:=by kernel_rfl
theorem notesBack_l26:((Rows.notesBackRow.lifted == Tryz.pinned.checked.prog.liftsFinal))=true:=by kernel_rfl
theorem notesBack_l27:((Tryz.pinned.checked.prog.make == some Rows.notesBackRow.make))=true:=by kernel_rfl
theorem notesBack_l28:((Rows.notesBackRow.kinds == (if Rows.notesBackRow.domain.isEmpty then [] else Tryz.f7.params.toList.map fun t=>match Tryz.pinned.checked.prog.underlying t with | some (.int k)=>some k | _=>none)))=true:=by kernel_rfl
theorem notesBack_l29:((Rows.notesBackRow.pinned == Rows.notesBackRow.pinnedBy))=true:=by kernel_rfl
theorem notesBack_l30:((Rows.notesBackRow.veiled == (Tryz.f7.params.toList++Rows.notesBackSpec.plain.varTypes Tryz.pinned.checked.prog++Tryz.f7.resultTypes.toList).any (Tryz.pinned.checked.prog.veiledRec ·)))=true:=by kernel_rfl
theorem notesBack_l31:(Rows.notesBackRow.veiledFits Tryz.pinned.checked.prog Tryz.f7.params.toList (Tryz.f7.params.toList++Rows.notesBackSpec.plain.varTypes Tryz.pinned.checked.prog++Tryz.f7.resultTypes.toList))=true:=by kernel_rfl
theorem notesBack_closed:joinedFacts Tryz.pinned.checked.prog 7 Tryz.f7 Rows.notesBackSpec Rows.notesBackRow=true:=by
  unfold joinedFacts
  simp only [Bool.and_eq_true]
  exact ⟨⟨⟨⟨⟨⟨⟨⟨⟨⟨⟨⟨⟨⟨⟨⟨⟨⟨⟨⟨⟨⟨⟨⟨⟨⟨⟨⟨⟨⟨⟨notesBack_l0,notesBack_l1⟩,notesBack_l2⟩,notesBack_l3⟩,notesBack_l4⟩,notesBack_l5⟩,notesBack_l6⟩,notesBack_l7⟩,notesBack_l8⟩,notesBack_l9⟩,notesBack_l10⟩,notesBack_l11⟩,notesBack_l12⟩,notesBack_l13⟩,notesBack_l14⟩,notesBack_l15⟩,notesBack_l16⟩,notesBack_l17⟩,notesBack_l18⟩,notesBack_l19⟩,notesBack_l20⟩,notesBack_l21⟩,notesBack_l22⟩,notesBack_l23⟩,notesBack_l24⟩,notesBack_l25⟩,notesBack_l26⟩,notesBack_l27⟩,notesBack_l28⟩,notesBack_l29⟩,notesBack_l30⟩,notesBack_l31⟩
end Go.Proofs.YtlmdfmnbcndhoaaGreatDoor
