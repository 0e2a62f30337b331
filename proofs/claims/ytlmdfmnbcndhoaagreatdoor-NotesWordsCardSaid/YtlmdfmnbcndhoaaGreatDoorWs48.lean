/-
  NotesWords returns true for every input and leaves its arguments as they were: closed facts of the row. No condition.
-/
import Derived.Test.YtlmdfmnbcndhoaaGreatDoorWs44
import Derived.SevenTiedAt
namespace Go.Proofs.YtlmdfmnbcndhoaaGreatDoor
open Go.ChangeShapes Go.WideShapes Go.ChangeAt Go.WideElems Go.RowKit
set_option maxRecDepth 100000
theorem notesWords_named:Tryz.pinned.checked.prog.funcNamed Rows.notesWordsRow.func=some 11:=by kernel_rfl
theorem notesWords_l0:(Rows.notesWordsRow.wf (OpenSpec.ofChange Rows.notesWordsSpec))=true:=by kernel_rfl
theorem notesWords_l1:(laidOutB Tryz.pinned.checked.prog)=true:=by kernel_rfl
theorem notesWords_l2:(mapsRowed Tryz.pinned.checked.prog)=true:=by kernel_rfl
theorem notesWords_l3:(Tryz.f11.params.all (Tryz.pinned.checked.prog.readableRec ·))=true:=by kernel_rfl
theorem notesWords_l4:(namedTie Tryz.pinned.checked.prog Rows.notesWordsRow.named Rows.notesWordsSpec.vars)=true:=by kernel_rfl
theorem notesWords_l5:((Rows.notesWordsRow.stops==[]))=true:=by kernel_rfl
theorem notesWords_l6:((Tryz.pinned.checked.prog.stops==[]))=true:=by kernel_rfl
theorem notesWords_l7:((Rows.notesWordsRow.knobs==[]))=true:=by kernel_rfl
theorem notesWords_l8:((Tryz.pinned.checked.prog.stopKnobs==[]))=true:=by kernel_rfl
theorem notesWords_l9:((Rows.notesWordsRow.inPlace==Tryz.pinned.checked.prog.inPlace 11))=true:=by kernel_rfl
theorem notesWords_l10:((Rows.notesWordsRow.unfollowed==Tryz.pinned.checked.prog.unfollowed 11))=true:=by kernel_rfl
theorem notesWords_l11:((Rows.notesWordsRow.recurses==Tryz.pinned.checked.prog.recurses 11))=true:=by kernel_rfl
theorem notesWords_l12:((Rows.notesWordsRow.named==Tryz.pinned.checked.prog.varsNamed 11))=true:=by kernel_rfl
theorem notesWords_l13:((Rows.notesWordsRow.maps==(Tryz.f11.params.toList++Rows.notesWordsSpec.plain.varTypes Tryz.pinned.checked.prog).any (Tryz.pinned.checked.prog.mapsRec ·)))=true:=by kernel_rfl
theorem notesWords_l14:((Rows.notesWordsRow.ifaces==(Tryz.f11.params.toList++Rows.notesWordsSpec.plain.varTypes Tryz.pinned.checked.prog).any (Tryz.pinned.checked.prog.ifacesRec ·)))=true:=by kernel_rfl
theorem notesWords_l15:((Rows.notesWordsRow.mapsOut==Tryz.pinned.checked.prog.mapsAmong Tryz.f11.resultTypes.toList))=true:=by kernel_rfl
theorem notesWords_l16:((Rows.notesWordsRow.loops==(Tryz.f11.params.toList++Rows.notesWordsSpec.plain.varTypes Tryz.pinned.checked.prog).any (Tryz.pinned.checked.prog.loopsFrom ·)))=true:=by kernel_rfl
theorem notesWords_l17:((Rows.notesWordsRow.wideKeys==(Tryz.f11.params.toList++Rows.notesWordsSpec.plain.varTypes Tryz.pinned.checked.prog++Tryz.f11.resultTypes.toList).any (Tryz.pinned.checked.prog.wideKeysFrom ·)))=true:=by kernel_rfl
theorem notesWords_l18:(Rows.notesWordsSpec.vars.all (Tryz.pinned.checked.prog.varReadable ·))=true:=by kernel_rfl
theorem notesWords_l19:(Tryz.f11.resultTypes.all (fun t=>Tryz.pinned.checked.prog.readableRec t&&decide (t < Tryz.pinned.checked.prog.types.size)))=true:=by kernel_rfl
theorem notesWords_l20:((Rows.notesWordsRow.ifacesOut==Tryz.f11.resultTypes.toList.any (Tryz.pinned.checked.prog.ifacesRec ·)))=true:=by kernel_rfl
theorem notesWords_l21:((Rows.notesWordsRow.loopsOut==Tryz.f11.resultTypes.toList.any (Tryz.pinned.checked.prog.loopsFrom ·)))=true:=by kernel_rfl
theorem notesWords_l22:((Rows.notesWordsRow.plainKeys==Tryz.pinned.checked.prog.plainKeys))=true:=by kernel_rfl
theorem notesWords_l23:(Rows.notesWordsRow.shortTexts.isNone)=true:=by kernel_rfl
theorem notesWords_l24:(Tryz.pinned.checked.prog.stopsHeard)=true:=by kernel_rfl
theorem notesWords_l25:(Tryz.pinned.checked.prog.mayEnter)=true:=by kernel_rfl
theorem notesWords_l26:((Rows.notesWordsRow.lifted==Tryz.pinned.checked.prog.liftsFinal))=true:=by kernel_rfl
theorem notesWords_l27:((Tryz.pinned.checked.prog.make==some Rows.notesWordsRow.make))=true:=by kernel_rfl
theorem notesWords_l28:((Rows.notesWordsRow.kinds==(if Rows.notesWordsRow.domain.isEmpty then [] else Tryz.f11.params.toList.map fun t=>match Tryz.pinned.checked.prog.underlying t with | some (.int k)=>some k | _=>none)))=true:=by kernel_rfl
theorem notesWords_l29:((Rows.notesWordsRow.pinned==Rows.notesWordsRow.pinnedBy))=true:=by kernel_rfl
theorem notesWords_l30:((Rows.notesWordsRow.veiled==(Tryz.f11.params.toList++Rows.notesWordsSpec.plain.varTypes Tryz.pinned.checked.prog++Tryz.f11.resultTypes.toList).any (Tryz.pinned.checked.prog.veiledRec ·)))=true:=by kernel_rfl
theorem notesWords_l31:(Rows.notesWordsRow.veiledFits Tryz.pinned.checked.prog Tryz.f11.params.toList (Tryz.f11.params.toList++Rows.notesWordsSpec.plain.varTypes Tryz.pinned.checked.prog++Tryz.f11.resultTypes.toList))=true:=by kernel_rfl
theorem notesWords_closed:joinedFacts Tryz.pinned.checked.prog 11 Tryz.f11 Rows.notesWordsSpec Rows.notesWordsRow=true:=by
 unfold joinedFacts
 simp only [Bool.and_eq_true]
 exact ⟨⟨⟨⟨⟨⟨⟨⟨⟨⟨⟨⟨⟨⟨⟨⟨⟨⟨⟨⟨⟨⟨⟨⟨⟨⟨⟨⟨⟨⟨⟨notesWords_l0,notesWords_l1⟩,notesWords_l2⟩,notesWords_l3⟩,notesWords_l4⟩,notesWords_l5⟩,notesWords_l6⟩,notesWords_l7⟩,notesWords_l8⟩,notesWords_l9⟩,notesWords_l10⟩,notesWords_l11⟩,notesWords_l12⟩,notesWords_l13⟩,notesWords_l14⟩,notesWords_l15⟩,notesWords_l16⟩,notesWords_l17⟩,notesWords_l18⟩,notesWords_l19⟩,notesWords_l20⟩,notesWords_l21⟩,notesWords_l22⟩,notesWords_l23⟩,notesWords_l24⟩,notesWords_l25⟩,notesWords_l26⟩,notesWords_l27⟩,notesWords_l28⟩,notesWords_l29⟩,notesWords_l30⟩,notesWords_l31⟩
end Go.Proofs.YtlmdfmnbcndhoaaGreatDoor
