/-
  NotesOpen returns true for every input and leaves its arguments as they were: closed facts of the row. No condition.
-/
import Derived.Test.YtlmdfmnbcndhoaaGreatDoorOn46
import Derived.SevenTiedAt
namespace Go.Proofs.YtlmdfmnbcndhoaaGreatDoor
open Go.ChangeShapes Go.WideShapes Go.ChangeAt Go.WideElems Go.RowKit
set_option maxRecDepth 100000
theorem notesOpen_named:Tryz.pinned.checked.prog.funcNamed Rows.notesOpenRow.func=some 12:=by kernel_rfl
theorem notesOpen_l0:(Rows.notesOpenRow.wf (OpenSpec.ofChange Rows.notesOpenSpec))=true:=by kernel_rfl
theorem notesOpen_l1:(laidOutB Tryz.pinned.checked.prog)=true:=by kernel_rfl
theorem notesOpen_l2:(mapsRowed Tryz.pinned.checked.prog)=true:=by kernel_rfl
theorem notesOpen_l3:(Tryz.f12.params.all (Tryz.pinned.checked.prog.readableRec ·))=true:=by kernel_rfl
theorem notesOpen_l4:(namedTie Tryz.pinned.checked.prog Rows.notesOpenRow.named Rows.notesOpenSpec.vars)=true:=by kernel_rfl
theorem notesOpen_l5:((Rows.notesOpenRow.stops==[]))=true:=by kernel_rfl
theorem notesOpen_l6:((Tryz.pinned.checked.prog.stops==[]))=true:=by kernel_rfl
theorem notesOpen_l7:((Rows.notesOpenRow.knobs==[]))=true:=by kernel_rfl
theorem notesOpen_l8:((Tryz.pinned.checked.prog.stopKnobs==[]))=true:=by kernel_rfl
theorem notesOpen_l9:((Rows.notesOpenRow.inPlace==Tryz.pinned.checked.prog.inPlace 12))=true:=by kernel_rfl
theorem notesOpen_l10:((Rows.notesOpenRow.unfollowed==Tryz.pinned.checked.prog.unfollowed 12))=true:=by kernel_rfl
theorem notesOpen_l11:((Rows.notesOpenRow.recurses==Tryz.pinned.checked.prog.recurses 12))=true:=by kernel_rfl
theorem notesOpen_l12:((Rows.notesOpenRow.named==Tryz.pinned.checked.prog.varsNamed 12))=true:=by kernel_rfl
theorem notesOpen_l13:((Rows.notesOpenRow.maps==(Tryz.f12.params.toList++Rows.notesOpenSpec.plain.varTypes Tryz.pinned.checked.prog).any (Tryz.pinned.checked.prog.mapsRec ·)))=true:=by kernel_rfl
theorem notesOpen_l14:((Rows.notesOpenRow.ifaces==(Tryz.f12.params.toList++Rows.notesOpenSpec.plain.varTypes Tryz.pinned.checked.prog).any (Tryz.pinned.checked.prog.ifacesRec ·)))=true:=by kernel_rfl
theorem notesOpen_l15:((Rows.notesOpenRow.mapsOut==Tryz.pinned.checked.prog.mapsAmong Tryz.f12.resultTypes.toList))=true:=by kernel_rfl
theorem notesOpen_l16:((Rows.notesOpenRow.loops==(Tryz.f12.params.toList++Rows.notesOpenSpec.plain.varTypes Tryz.pinned.checked.prog).any (Tryz.pinned.checked.prog.loopsFrom ·)))=true:=by kernel_rfl
theorem notesOpen_l17:((Rows.notesOpenRow.wideKeys==(Tryz.f12.params.toList++Rows.notesOpenSpec.plain.varTypes Tryz.pinned.checked.prog++Tryz.f12.resultTypes.toList).any (Tryz.pinned.checked.prog.wideKeysFrom ·)))=true:=by kernel_rfl
theorem notesOpen_l18:(Rows.notesOpenSpec.vars.all (Tryz.pinned.checked.prog.varReadable ·))=true:=by kernel_rfl
theorem notesOpen_l19:(Tryz.f12.resultTypes.all (fun t=>Tryz.pinned.checked.prog.readableRec t&&decide (t < Tryz.pinned.checked.prog.types.size)))=true:=by kernel_rfl
theorem notesOpen_l20:((Rows.notesOpenRow.ifacesOut==Tryz.f12.resultTypes.toList.any (Tryz.pinned.checked.prog.ifacesRec ·)))=true:=by kernel_rfl
theorem notesOpen_l21:((Rows.notesOpenRow.loopsOut==Tryz.f12.resultTypes.toList.any (Tryz.pinned.checked.prog.loopsFrom ·)))=true:=by kernel_rfl
theorem notesOpen_l22:((Rows.notesOpenRow.plainKeys==Tryz.pinned.checked.prog.plainKeys))=true:=by kernel_rfl
theorem notesOpen_l23:(Rows.notesOpenRow.shortTexts.isNone)=true:=by kernel_rfl
theorem notesOpen_l24:(Tryz.pinned.checked.prog.stopsHeard)=true:=by kernel_rfl
theorem notesOpen_l25:(Tryz.pinned.checked.prog.mayEnter)=true:=by kernel_rfl
theorem notesOpen_l26:((Rows.notesOpenRow.lifted==Tryz.pinned.checked.prog.liftsFinal))=true:=by kernel_rfl
theorem notesOpen_l27:((Tryz.pinned.checked.prog.make==some Rows.notesOpenRow.make))=true:=by kernel_rfl
theorem notesOpen_l28:((Rows.notesOpenRow.kinds==(if Rows.notesOpenRow.domain.isEmpty then [] else Tryz.f12.params.toList.map fun t=>match Tryz.pinned.checked.prog.underlying t with | some (.int k)=>some k | _=>none)))=true:=by kernel_rfl
theorem notesOpen_l29:((Rows.notesOpenRow.pinned==Rows.notesOpenRow.pinnedBy))=true:=by kernel_rfl
theorem notesOpen_l30:((Rows.notesOpenRow.veiled==(Tryz.f12.params.toList++Rows.notesOpenSpec.plain.varTypes Tryz.pinned.checked.prog++Tryz.f12.resultTypes.toList).any (Tryz.pinned.checked.prog.veiledRec ·)))=true:=by kernel_rfl
theorem notesOpen_l31:(Rows.notesOpenRow.veiledFits Tryz.pinned.checked.prog Tryz.f12.params.toList (Tryz.f12.params.toList++Rows.notesOpenSpec.plain.varTypes Tryz.pinned.checked.prog++Tryz.f12.resultTypes.toList))=true:=by kernel_rfl
theorem notesOpen_closed:joinedFacts Tryz.pinned.checked.prog 12 Tryz.f12 Rows.notesOpenSpec Rows.notesOpenRow=true:=by
 unfold joinedFacts
 simp only [Bool.and_eq_true]
 exact ⟨⟨⟨⟨⟨⟨⟨⟨⟨⟨⟨⟨⟨⟨⟨⟨⟨⟨⟨⟨⟨⟨⟨⟨⟨⟨⟨⟨⟨⟨⟨notesOpen_l0,notesOpen_l1⟩,notesOpen_l2⟩,notesOpen_l3⟩,notesOpen_l4⟩,notesOpen_l5⟩,notesOpen_l6⟩,notesOpen_l7⟩,notesOpen_l8⟩,notesOpen_l9⟩,notesOpen_l10⟩,notesOpen_l11⟩,notesOpen_l12⟩,notesOpen_l13⟩,notesOpen_l14⟩,notesOpen_l15⟩,notesOpen_l16⟩,notesOpen_l17⟩,notesOpen_l18⟩,notesOpen_l19⟩,notesOpen_l20⟩,notesOpen_l21⟩,notesOpen_l22⟩,notesOpen_l23⟩,notesOpen_l24⟩,notesOpen_l25⟩,notesOpen_l26⟩,notesOpen_l27⟩,notesOpen_l28⟩,notesOpen_l29⟩,notesOpen_l30⟩,notesOpen_l31⟩
end Go.Proofs.YtlmdfmnbcndhoaaGreatDoor
