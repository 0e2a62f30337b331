/-
  Closed facts of the row. No condition.
-/
import Derived.Test.YtlmdfmnbcndhoaaGreatDoorRc48
import Derived.SevenTiedAt
namespace Go.Proofs.YtlmdfmnbcndhoaaGreatDoor
open Go.ChangeShapes Go.WideShapes Go.ChangeAt Go.WideElems Go.RowKit
set_option maxRecDepth 100000
theorem notesCodes_named:Tryz.pinned.checked.prog.funcNamed Rows.notesCodesRow.func=some 9:=by kernel_rfl
theorem q0:(Rows.notesCodesRow.wf (OpenSpec.ofChange Rows.notesCodesSpec))=true:=by kernel_rfl
theorem q1:(laidOutB Tryz.pinned.checked.prog)=true:=by kernel_rfl
theorem q2:(mapsRowed Tryz.pinned.checked.prog)=true:=by kernel_rfl
theorem q3:(Tryz.f9.params.all (Tryz.pinned.checked.prog.readableRec ·))=true:=by kernel_rfl
theorem q4:(namedTie Tryz.pinned.checked.prog Rows.notesCodesRow.named Rows.notesCodesSpec.vars)=true:=by kernel_rfl
theorem q5:((Rows.notesCodesRow.stops==[]))=true:=by kernel_rfl
theorem q6:((Tryz.pinned.checked.prog.stops==[]))=true:=by kernel_rfl
theorem q7:((Rows.notesCodesRow.knobs==[]))=true:=by kernel_rfl
theorem q8:((Tryz.pinned.checked.prog.stopKnobs==[]))=true:=by kernel_rfl
theorem q9:((Rows.notesCodesRow.inPlace==Tryz.pinned.checked.prog.inPlace 9))=true:=by kernel_rfl
theorem q10:((Rows.notesCodesRow.unfollowed==Tryz.pinned.checked.prog.unfollowed 9))=true:=by kernel_rfl
theorem q11:((Rows.notesCodesRow.recurses==Tryz.pinned.checked.prog.recurses 9))=true:=by kernel_rfl
theorem q12:((Rows.notesCodesRow.named==Tryz.pinned.checked.prog.varsNamed 9))=true:=by kernel_rfl
theorem q13:((Rows.notesCodesRow.maps==(Tryz.f9.params.toList++Rows.notesCodesSpec.plain.varTypes Tryz.pinned.checked.prog).any (Tryz.pinned.checked.prog.mapsRec ·)))=true:=by kernel_rfl
theorem q14:((Rows.notesCodesRow.ifaces==(Tryz.f9.params.toList++Rows.notesCodesSpec.plain.varTypes Tryz.pinned.checked.prog).any (Tryz.pinned.checked.prog.ifacesRec ·)))=true:=by kernel_rfl
theorem q15:((Rows.notesCodesRow.mapsOut==Tryz.pinned.checked.prog.mapsAmong Tryz.f9.resultTypes.toList))=true:=by kernel_rfl
theorem q16:((Rows.notesCodesRow.loops==(Tryz.f9.params.toList++Rows.notesCodesSpec.plain.varTypes Tryz.pinned.checked.prog).any (Tryz.pinned.checked.prog.loopsFrom ·)))=true:=by kernel_rfl
theorem q17:((Rows.notesCodesRow.wideKeys==(Tryz.f9.params.toList++Rows.notesCodesSpec.plain.varTypes Tryz.pinned.checked.prog++Tryz.f9.resultTypes.toList).any (Tryz.pinned.checked.prog.wideKeysFrom ·)))=true:=by kernel_rfl
theorem q18:(Rows.notesCodesSpec.vars.all (Tryz.pinned.checked.prog.varReadable ·))=true:=by kernel_rfl
theorem q19:(Tryz.f9.resultTypes.all (fun t=>Tryz.pinned.checked.prog.readableRec t&&decide (t < Tryz.pinned.checked.prog.types.size)))=true:=by kernel_rfl
theorem q20:((Rows.notesCodesRow.ifacesOut==Tryz.f9.resultTypes.toList.any (Tryz.pinned.checked.prog.ifacesRec ·)))=true:=by kernel_rfl
theorem q21:((Rows.notesCodesRow.loopsOut==Tryz.f9.resultTypes.toList.any (Tryz.pinned.checked.prog.loopsFrom ·)))=true:=by kernel_rfl
theorem q22:((Rows.notesCodesRow.plainKeys==Tryz.pinned.checked.prog.plainKeys))=true:=by kernel_rfl
theorem q23:(Rows.notesCodesRow.shortTexts.isNone)=true:=by kernel_rfl
theorem q24:(Tryz.pinned.checked.prog.stopsHeard)=true:=by kernel_rfl
theorem q25:(Tryz.pinned.checked.prog.mayEnter)=true:=by kernel_rfl
theorem q26:((Rows.notesCodesRow.lifted==Tryz.pinned.checked.prog.liftsFinal))=true:=by kernel_rfl
theorem q27:((Tryz.pinned.checked.prog.make==some Rows.notesCodesRow.make))=true:=by kernel_rfl
theorem q28:((Rows.notesCodesRow.kinds==(if Rows.notesCodesRow.domain.isEmpty then [] else Tryz.f9.params.toList.map fun t=>match Tryz.pinned.checked.prog.underlying t with | some (.int k)=>some k | _=>none)))=true:=by kernel_rfl
theorem q29:((Rows.notesCodesRow.pinned==Rows.notesCodesRow.pinnedBy))=true:=by kernel_rfl
theorem q30:((Rows.notesCodesRow.veiled==(Tryz.f9.params.toList++Rows.notesCodesSpec.plain.varTypes Tryz.pinned.checked.prog++Tryz.f9.resultTypes.toList).any (Tryz.pinned.checked.prog.veiledRec ·)))=true:=by kernel_rfl
theorem q31:(Rows.notesCodesRow.veiledFits Tryz.pinned.checked.prog Tryz.f9.params.toList (Tryz.f9.params.toList++Rows.notesCodesSpec.plain.varTypes Tryz.pinned.checked.prog++Tryz.f9.resultTypes.toList))=true:=by kernel_rfl
theorem notesCodes_closed:joinedFacts Tryz.pinned.checked.prog 9 Tryz.f9 Rows.notesCodesSpec Rows.notesCodesRow=true:=by
 unfold joinedFacts;simp only [Bool.and_eq_true];exact ⟨⟨⟨⟨⟨⟨⟨⟨⟨⟨⟨⟨⟨⟨⟨⟨⟨⟨⟨⟨⟨⟨⟨⟨⟨⟨⟨⟨⟨⟨⟨q0,q1⟩,q2⟩,q3⟩,q4⟩,q5⟩,q6⟩,q7⟩,q8⟩,q9⟩,q10⟩,q11⟩,q12⟩,q13⟩,q14⟩,q15⟩,q16⟩,q17⟩,q18⟩,q19⟩,q20⟩,q21⟩,q22⟩,q23⟩,q24⟩,q25⟩,q26⟩,q27⟩,q28⟩,q29⟩,q30⟩,q31⟩
end Go.Proofs.YtlmdfmnbcndhoaaGreatDoor
