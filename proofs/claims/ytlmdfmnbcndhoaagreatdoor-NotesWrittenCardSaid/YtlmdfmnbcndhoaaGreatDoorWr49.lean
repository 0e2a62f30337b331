/-
  NotesWritten returns true for every input and leaves its arguments as they were: closed facts of the row. No condition.
-/
import Derived.Test.YtlmdfmnbcndhoaaGreatDoorWr47
import Derived.SevenTiedAt
namespace Go.Proofs.YtlmdfmnbcndhoaaGreatDoor
open Go.ChangeShapes Go.WideShapes Go.ChangeAt Go.WideElems Go.RowKit
set_option maxRecDepth 100000
theorem notesWritten_named:Tryz.pinned.checked.prog.funcNamed Rows.notesWrittenRow.func=some 14:=by kernel_rfl
theorem notesWritten_l0:(Rows.notesWrittenRow.wf (OpenSpec.ofChange Rows.notesWrittenSpec))=true:=by kernel_rfl
theorem notesWritten_l1:(laidOutB Tryz.pinned.checked.prog)=true:=by kernel_rfl
theorem notesWritten_l2:(mapsRowed Tryz.pinned.checked.prog)=true:=by kernel_rfl
theorem notesWritten_l3:(Tryz.f14.params.all (Tryz.pinned.checked.prog.readableRec ·))=true:=by kernel_rfl
theorem notesWritten_l4:(namedTie Tryz.pinned.checked.prog Rows.notesWrittenRow.named Rows.notesWrittenSpec.vars)=true:=by kernel_rfl
theorem notesWritten_l5:((Rows.notesWrittenRow.stops==[]))=true:=by kernel_rfl
theorem notesWritten_l6:((Tryz.pinned.checked.prog.stops==[]))=true:=by kernel_rfl
theorem notesWritten_l7:((Rows.notesWrittenRow.knobs==[]))=true:=by kernel_rfl
theorem notesWritten_l8:((Tryz.pinned.checked.prog.stopKnobs==[]))=true:=by kernel_rfl
theorem notesWritten_l9:((Rows.notesWrittenRow.inPlace==Tryz.pinned.checked.prog.inPlace 14))=true:=by kernel_rfl
theorem notesWritten_l10:((Rows.notesWrittenRow.unfollowed==Tryz.pinned.checked.prog.unfollowed 14))=true:=by kernel_rfl
theorem notesWritten_l11:((Rows.notesWrittenRow.recurses==Tryz.pinned.checked.prog.recurses 14))=true:=by kernel_rfl
theorem notesWritten_l12:((Rows.notesWrittenRow.named==Tryz.pinned.checked.prog.varsNamed 14))=true:=by kernel_rfl
theorem notesWritten_l13:((Rows.notesWrittenRow.maps==(Tryz.f14.params.toList++Rows.notesWrittenSpec.plain.varTypes Tryz.pinned.checked.prog).any (Tryz.pinned.checked.prog.mapsRec ·)))=true:=by kernel_rfl
theorem notesWritten_l14:((Rows.notesWrittenRow.ifaces==(Tryz.f14.params.toList++Rows.notesWrittenSpec.plain.varTypes Tryz.pinned.checked.prog).any (Tryz.pinned.checked.prog.ifacesRec ·)))=true:=by kernel_rfl
theorem notesWritten_l15:((Rows.notesWrittenRow.mapsOut==Tryz.pinned.checked.prog.mapsAmong Tryz.f14.resultTypes.toList))=true:=by kernel_rfl
theorem notesWritten_l16:((Rows.notesWrittenRow.loops==(Tryz.f14.params.toList++Rows.notesWrittenSpec.plain.varTypes Tryz.pinned.checked.prog).any (Tryz.pinned.checked.prog.loopsFrom ·)))=true:=by kernel_rfl
theorem notesWritten_l17:((Rows.notesWrittenRow.wideKeys==(Tryz.f14.params.toList++Rows.notesWrittenSpec.plain.varTypes Tryz.pinned.checked.prog++Tryz.f14.resultTypes.toList).any (Tryz.pinned.checked.prog.wideKeysFrom ·)))=true:=by kernel_rfl
theorem notesWritten_l18:(Rows.notesWrittenSpec.vars.all (Tryz.pinned.checked.prog.varReadable ·))=true:=by kernel_rfl
theorem notesWritten_l19:(Tryz.f14.resultTypes.all (fun t=>Tryz.pinned.checked.prog.readableRec t&&decide (t < Tryz.pinned.checked.prog.types.size)))=true:=by kernel_rfl
theorem notesWritten_l20:((Rows.notesWrittenRow.ifacesOut==Tryz.f14.resultTypes.toList.any (Tryz.pinned.checked.prog.ifacesRec ·)))=true:=by kernel_rfl
theorem notesWritten_l21:((Rows.notesWrittenRow.loopsOut==Tryz.f14.resultTypes.toList.any (Tryz.pinned.checked.prog.loopsFrom ·)))=true:=by kernel_rfl
theorem notesWritten_l22:((Rows.notesWrittenRow.plainKeys==Tryz.pinned.checked.prog.plainKeys))=true:=by kernel_rfl
theorem notesWritten_l23:(Rows.notesWrittenRow.shortTexts.isNone)=true:=by kernel_rfl
theorem notesWritten_l24:(Tryz.pinned.checked.prog.stopsHeard)=true:=by kernel_rfl
theorem notesWritten_l25:(Tryz.pinned.checked.prog.mayEnter)=true:=by kernel_rfl
theorem notesWritten_l26:((Rows.notesWrittenRow.lifted==Tryz.pinned.checked.prog.liftsFinal))=true:=by kernel_rfl
theorem notesWritten_l27:((Tryz.pinned.checked.prog.make==some Rows.notesWrittenRow.make))=true:=by kernel_rfl
theorem notesWritten_l28:((Rows.notesWrittenRow.kinds==(if Rows.notesWrittenRow.domain.isEmpty then [] else Tryz.f14.params.toList.map fun t=>match Tryz.pinned.checked.prog.underlying t with | some (.int k)=>some k | _=>none)))=true:=by kernel_rfl
theorem notesWritten_l29:((Rows.notesWrittenRow.pinned==Rows.notesWrittenRow.pinnedBy))=true:=by kernel_rfl
theorem notesWritten_l30:((Rows.notesWrittenRow.veiled==(Tryz.f14.params.toList++Rows.notesWrittenSpec.plain.varTypes Tryz.pinned.checked.prog++Tryz.f14.resultTypes.toList).any (Tryz.pinned.checked.prog.veiledRec ·)))=true:=by kernel_rfl
theorem notesWritten_l31:(Rows.notesWrittenRow.veiledFits Tryz.pinned.checked.prog Tryz.f14.params.toList (Tryz.f14.params.toList++Rows.notesWrittenSpec.plain.varTypes Tryz.pinned.checked.prog++Tryz.f14.resultTypes.toList))=true:=by kernel_rfl
theorem notesWritten_closed:joinedFacts Tryz.pinned.checked.prog 14 Tryz.f14 Rows.notesWrittenSpec Rows.notesWrittenRow=true:=by
 unfold joinedFacts
 simp only [Bool.and_eq_true]
 exact ⟨⟨⟨⟨⟨⟨⟨⟨⟨⟨⟨⟨⟨⟨⟨⟨⟨⟨⟨⟨⟨⟨⟨⟨⟨⟨⟨⟨⟨⟨⟨notesWritten_l0,notesWritten_l1⟩,notesWritten_l2⟩,notesWritten_l3⟩,notesWritten_l4⟩,notesWritten_l5⟩,notesWritten_l6⟩,notesWritten_l7⟩,notesWritten_l8⟩,notesWritten_l9⟩,notesWritten_l10⟩,notesWritten_l11⟩,notesWritten_l12⟩,notesWritten_l13⟩,notesWritten_l14⟩,notesWritten_l15⟩,notesWritten_l16⟩,notesWritten_l17⟩,notesWritten_l18⟩,notesWritten_l19⟩,notesWritten_l20⟩,notesWritten_l21⟩,notesWritten_l22⟩,notesWritten_l23⟩,notesWritten_l24⟩,notesWritten_l25⟩,notesWritten_l26⟩,notesWritten_l27⟩,notesWritten_l28⟩,notesWritten_l29⟩,notesWritten_l30⟩,notesWritten_l31⟩
end Go.Proofs.YtlmdfmnbcndhoaaGreatDoor
