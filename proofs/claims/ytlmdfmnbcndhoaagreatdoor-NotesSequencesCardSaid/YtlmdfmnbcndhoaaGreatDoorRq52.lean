/-
  Closed facts of the row. No condition.
-/
import Derived.Test.YtlmdfmnbcndhoaaGreatDoorRq50
import Derived.SevenTiedAt
namespace Go.Proofs.YtlmdfmnbcndhoaaGreatDoor
open Go.ChangeShapes Go.WideShapes Go.ChangeAt Go.WideElems Go.RowKit
set_option maxRecDepth 100000
theorem notesSequences_named:Tryz.pinned.checked.prog.funcNamed Rows.notesSequencesRow.func=some 8:=by kernel_rfl
theorem q0:(Rows.notesSequencesRow.wf (OpenSpec.ofChange Rows.notesSequencesSpec))=true:=by kernel_rfl
theorem q1:(laidOutB Tryz.pinned.checked.prog)=true:=by kernel_rfl
theorem q2:(mapsRowed Tryz.pinned.checked.prog)=true:=by kernel_rfl
theorem q3:(Tryz.f8.params.all (Tryz.pinned.checked.prog.readableRec ·))=true:=by kernel_rfl
theorem q4:(namedTie Tryz.pinned.checked.prog Rows.notesSequencesRow.named Rows.notesSequencesSpec.vars)=true:=by kernel_rfl
theorem q5:((Rows.notesSequencesRow.stops==[]))=true:=by kernel_rfl
theorem q6:((Tryz.pinned.checked.prog.stops==[]))=true:=by kernel_rfl
theorem q7:((Rows.notesSequencesRow.knobs==[]))=true:=by kernel_rfl
theorem q8:((Tryz.pinned.checked.prog.stopKnobs==[]))=true:=by kernel_rfl
theorem q9:((Rows.notesSequencesRow.inPlace==Tryz.pinned.checked.prog.inPlace 8))=true:=by kernel_rfl
theorem q10:((Rows.notesSequencesRow.unfollowed==Tryz.pinned.checked.prog.unfollowed 8))=true:=by kernel_rfl
theorem q11:((Rows.notesSequencesRow.recurses==Tryz.pinned.checked.prog.recurses 8))=true:=by kernel_rfl
theorem q12:((Rows.notesSequencesRow.named==Tryz.pinned.checked.prog.varsNamed 8))=true:=by kernel_rfl
theorem q13:((Rows.notesSequencesRow.maps==(Tryz.f8.params.toList++Rows.notesSequencesSpec.plain.varTypes Tryz.pinned.checked.prog).any (Tryz.pinned.checked.prog.mapsRec ·)))=true:=by kernel_rfl
theorem q14:((Rows.notesSequencesRow.ifaces==(Tryz.f8.params.toList++Rows.notesSequencesSpec.plain.varTypes Tryz.pinned.checked.prog).any (Tryz.pinned.checked.prog.ifacesRec ·)))=true:=by kernel_rfl
theorem q15:((Rows.notesSequencesRow.mapsOut==Tryz.pinned.checked.prog.mapsAmong Tryz.f8.resultTypes.toList))=true:=by kernel_rfl
theorem q16:((Rows.notesSequencesRow.loops==(Tryz.f8.params.toList++Rows.notesSequencesSpec.plain.varTypes Tryz.pinned.checked.prog).any (Tryz.pinned.checked.prog.loopsFrom ·)))=true:=by kernel_rfl
theorem q17:((Rows.notesSequencesRow.wideKeys==(Tryz.f8.params.toList++Rows.notesSequencesSpec.plain.varTypes Tryz.pinned.checked.prog++Tryz.f8.resultTypes.toList).any (Tryz.pinned.checked.prog.wideKeysFrom ·)))=true:=by kernel_rfl
theorem q18:(Rows.notesSequencesSpec.vars.all (Tryz.pinned.checked.prog.varReadable ·))=true:=by kernel_rfl
theorem q19:(Tryz.f8.resultTypes.all (fun t=>Tryz.pinned.checked.prog.readableRec t&&decide (t < Tryz.pinned.checked.prog.types.size)))=true:=by kernel_rfl
theorem q20:((Rows.notesSequencesRow.ifacesOut==Tryz.f8.resultTypes.toList.any (Tryz.pinned.checked.prog.ifacesRec ·)))=true:=by kernel_rfl
theorem q21:((Rows.notesSequencesRow.loopsOut==Tryz.f8.resultTypes.toList.any (Tryz.pinned.checked.prog.loopsFrom ·)))=true:=by kernel_rfl
theorem q22:((Rows.notesSequencesRow.plainKeys==Tryz.pinned.checked.prog.plainKeys))=true:=by kernel_rfl
theorem q23:(Rows.notesSequencesRow.shortTexts.isNone)=true:=by kernel_rfl
theorem q24:(Tryz.pinned.checked.prog.stopsHeard)=true:=by kernel_rfl
theorem q25:(Tryz.pinned.checked.prog.mayEnter)=true:=by kernel_rfl
theorem q26:((Rows.notesSequencesRow.lifted==Tryz.pinned.checked.prog.liftsFinal))=true:=by kernel_rfl
theorem q27:((Tryz.pinned.checked.prog.make==some Rows.notesSequencesRow.make))=true:=by kernel_rfl
theorem q28:((Rows.notesSequencesRow.kinds==(if Rows.notesSequencesRow.domain.isEmpty then [] else Tryz.f8.params.toList.map fun t=>match Tryz.pinned.checked.prog.underlying t with | some (.int k)=>some k | _=>none)))=true:=by kernel_rfl
theorem q29:((Rows.notesSequencesRow.pinned==Rows.notesSequencesRow.pinnedBy))=true:=by kernel_rfl
theorem q30:((Rows.notesSequencesRow.veiled==(Tryz.f8.params.toList++Rows.notesSequencesSpec.plain.varTypes Tryz.pinned.checked.prog++Tryz.f8.resultTypes.toList).any (Tryz.pinned.checked.prog.veiledRec ·)))=true:=by kernel_rfl
theorem q31:(Rows.notesSequencesRow.veiledFits Tryz.pinned.checked.prog Tryz.f8.params.toList (Tryz.f8.params.toList++Rows.notesSequencesSpec.plain.varTypes Tryz.pinned.checked.prog++Tryz.f8.resultTypes.toList))=true:=by kernel_rfl
theorem notesSequences_closed:joinedFacts Tryz.pinned.checked.prog 8 Tryz.f8 Rows.notesSequencesSpec Rows.notesSequencesRow=true:=by
 unfold joinedFacts;simp only [Bool.and_eq_true];exact ⟨⟨⟨⟨⟨⟨⟨⟨⟨⟨⟨⟨⟨⟨⟨⟨⟨⟨⟨⟨⟨⟨⟨⟨⟨⟨⟨⟨⟨⟨⟨q0,q1⟩,q2⟩,q3⟩,q4⟩,q5⟩,q6⟩,q7⟩,q8⟩,q9⟩,q10⟩,q11⟩,q12⟩,q13⟩,q14⟩,q15⟩,q16⟩,q17⟩,q18⟩,q19⟩,q20⟩,q21⟩,q22⟩,q23⟩,q24⟩,q25⟩,q26⟩,q27⟩,q28⟩,q29⟩,q30⟩,q31⟩
end Go.Proofs.YtlmdfmnbcndhoaaGreatDoor
