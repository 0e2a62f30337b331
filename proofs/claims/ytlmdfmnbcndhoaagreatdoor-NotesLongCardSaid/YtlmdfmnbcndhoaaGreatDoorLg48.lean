/-
  NotesLong returns true for every input and leaves its arguments as they were: closed facts of the row. No condition.
-/
import Derived.Test.YtlmdfmnbcndhoaaGreatDoorLg46
import Derived.SevenTiedAt
namespace Go.Proofs.YtlmdfmnbcndhoaaGreatDoor
open Go.ChangeShapes Go.WideShapes Go.ChangeAt Go.WideElems Go.RowKit
set_option maxRecDepth 100000
theorem notesLong_named:Tryz.pinned.checked.prog.funcNamed Rows.notesLongRow.func=some 13:=by kernel_rfl
theorem notesLong_l0:(Rows.notesLongRow.wf (OpenSpec.ofChange Rows.notesLongSpec))=true:=by kernel_rfl
theorem notesLong_l1:(laidOutB Tryz.pinned.checked.prog)=true:=by kernel_rfl
theorem notesLong_l2:(mapsRowed Tryz.pinned.checked.prog)=true:=by kernel_rfl
theorem notesLong_l3:(Tryz.f13.params.all (Tryz.pinned.checked.prog.readableRec ·))=true:=by kernel_rfl
theorem notesLong_l4:(namedTie Tryz.pinned.checked.prog Rows.notesLongRow.named Rows.notesLongSpec.vars)=true:=by kernel_rfl
theorem notesLong_l5:((Rows.notesLongRow.stops==[]))=true:=by kernel_rfl
theorem notesLong_l6:((Tryz.pinned.checked.prog.stops==[]))=true:=by kernel_rfl
theorem notesLong_l7:((Rows.notesLongRow.knobs==[]))=true:=by kernel_rfl
theorem notesLong_l8:((Tryz.pinned.checked.prog.stopKnobs==[]))=true:=by kernel_rfl
theorem notesLong_l9:((Rows.notesLongRow.inPlace==Tryz.pinned.checked.prog.inPlace 13))=true:=by kernel_rfl
theorem notesLong_l10:((Rows.notesLongRow.unfollowed==Tryz.pinned.checked.prog.unfollowed 13))=true:=by kernel_rfl
theorem notesLong_l11:((Rows.notesLongRow.recurses==Tryz.pinned.checked.prog.recurses 13))=true:=by kernel_rfl
theorem notesLong_l12:((Rows.notesLongRow.named==Tryz.pinned.checked.prog.varsNamed 13))=true:=by kernel_rfl
theorem notesLong_l13:((Rows.notesLongRow.maps==(Tryz.f13.params.toList++Rows.notesLongSpec.plain.varTypes Tryz.pinned.checked.prog).any (Tryz.pinned.checked.prog.mapsRec ·)))=true:=by kernel_rfl
theorem notesLong_l14:((Rows.notesLongRow.ifaces==(Tryz.f13.params.toList++Rows.notesLongSpec.plain.varTypes Tryz.pinned.checked.prog).any (Tryz.pinned.checked.prog.ifacesRec ·)))=true:=by kernel_rfl
theorem notesLong_l15:((Rows.notesLongRow.mapsOut==Tryz.pinned.checked.prog.mapsAmong Tryz.f13.resultTypes.toList))=true:=by kernel_rfl
theorem notesLong_l16:((Rows.notesLongRow.loops==(Tryz.f13.params.toList++Rows.notesLongSpec.plain.varTypes Tryz.pinned.checked.prog).any (Tryz.pinned.checked.prog.loopsFrom ·)))=true:=by kernel_rfl
theorem notesLong_l17:((Rows.notesLongRow.wideKeys==(Tryz.f13.params.toList++Rows.notesLongSpec.plain.varTypes Tryz.pinned.checked.prog++Tryz.f13.resultTypes.toList).any (Tryz.pinned.checked.prog.wideKeysFrom ·)))=true:=by kernel_rfl
theorem notesLong_l18:(Rows.notesLongSpec.vars.all (Tryz.pinned.checked.prog.varReadable ·))=true:=by kernel_rfl
theorem notesLong_l19:(Tryz.f13.resultTypes.all (fun t=>Tryz.pinned.checked.prog.readableRec t&&decide (t < Tryz.pinned.checked.prog.types.size)))=true:=by kernel_rfl
theorem notesLong_l20:((Rows.notesLongRow.ifacesOut==Tryz.f13.resultTypes.toList.any (Tryz.pinned.checked.prog.ifacesRec ·)))=true:=by kernel_rfl
theorem notesLong_l21:((Rows.notesLongRow.loopsOut==Tryz.f13.resultTypes.toList.any (Tryz.pinned.checked.prog.loopsFrom ·)))=true:=by kernel_rfl
theorem notesLong_l22:((Rows.notesLongRow.plainKeys==Tryz.pinned.checked.prog.plainKeys))=true:=by kernel_rfl
theorem notesLong_l23:(Rows.notesLongRow.shortTexts.isNone)=true:=by kernel_rfl
theorem notesLong_l24:(Tryz.pinned.checked.prog.stopsHeard)=true:=by kernel_rfl
theorem notesLong_l25:(Tryz.pinned.checked.prog.mayEnter)=true:=by kernel_rfl
theorem notesLong_l26:((Rows.notesLongRow.lifted==Tryz.pinned.checked.prog.liftsFinal))=true:=by kernel_rfl
theorem notesLong_l27:((Tryz.pinned.checked.prog.make==some Rows.notesLongRow.make))=true:=by kernel_rfl
theorem notesLong_l28:((Rows.notesLongRow.kinds==(if Rows.notesLongRow.domain.isEmpty then [] else Tryz.f13.params.toList.map fun t=>match Tryz.pinned.checked.prog.underlying t with | some (.int k)=>some k | _=>none)))=true:=by kernel_rfl
theorem notesLong_l29:((Rows.notesLongRow.pinned==Rows.notesLongRow.pinnedBy))=true:=by kernel_rfl
theorem notesLong_l30:((Rows.notesLongRow.veiled==(Tryz.f13.params.toList++Rows.notesLongSpec.plain.varTypes Tryz.pinned.checked.prog++Tryz.f13.resultTypes.toList).any (Tryz.pinned.checked.prog.veiledRec ·)))=true:=by kernel_rfl
theorem notesLong_l31:(Rows.notesLongRow.veiledFits Tryz.pinned.checked.prog Tryz.f13.params.toList (Tryz.f13.params.toList++Rows.notesLongSpec.plain.varTypes Tryz.pinned.checked.prog++Tryz.f13.resultTypes.toList))=true:=by kernel_rfl
theorem notesLong_closed:joinedFacts Tryz.pinned.checked.prog 13 Tryz.f13 Rows.notesLongSpec Rows.notesLongRow=true:=by
 unfold joinedFacts;simp only [Bool.and_eq_true];exact ⟨⟨⟨⟨⟨⟨⟨⟨⟨⟨⟨⟨⟨⟨⟨⟨⟨⟨⟨⟨⟨⟨⟨⟨⟨⟨⟨⟨⟨⟨⟨notesLong_l0,notesLong_l1⟩,notesLong_l2⟩,notesLong_l3⟩,notesLong_l4⟩,notesLong_l5⟩,notesLong_l6⟩,notesLong_l7⟩,notesLong_l8⟩,notesLong_l9⟩,notesLong_l10⟩,notesLong_l11⟩,notesLong_l12⟩,notesLong_l13⟩,notesLong_l14⟩,notesLong_l15⟩,notesLong_l16⟩,notesLong_l17⟩,notesLong_l18⟩,notesLong_l19⟩,notesLong_l20⟩,notesLong_l21⟩,notesLong_l22⟩,notesLong_l23⟩,notesLong_l24⟩,notesLong_l25⟩,notesLong_l26⟩,notesLong_l27⟩,notesLong_l28⟩,notesLong_l29⟩,notesLong_l30⟩,notesLong_l31⟩
end Go.Proofs.YtlmdfmnbcndhoaaGreatDoor
