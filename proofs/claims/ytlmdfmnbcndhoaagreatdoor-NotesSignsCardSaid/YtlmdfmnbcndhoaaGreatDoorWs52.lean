/-
  NotesSigns returns true for every input and leaves its arguments as they were: closed facts of the row. No condition.
-/
import Derived.Test.YtlmdfmnbcndhoaaGreatDoorWs44
import Derived.SevenTiedAt
namespace Go.Proofs.YtlmdfmnbcndhoaaGreatDoor
open Go.ChangeShapes Go.WideShapes Go.ChangeAt Go.WideElems Go.RowKit
set_option maxRecDepth 100000
theorem notesSigns_named:Tryz.pinned.checked.prog.funcNamed Rows.notesSignsRow.func=some 5:=by kernel_rfl
theorem notesSigns_l0:(Rows.notesSignsRow.wf (OpenSpec.ofChange Rows.notesSignsSpec))=true:=by kernel_rfl
theorem notesSigns_l1:(laidOutB Tryz.pinned.checked.prog)=true:=by kernel_rfl
theorem notesSigns_l2:(mapsRowed Tryz.pinned.checked.prog)=true:=by kernel_rfl
theorem notesSigns_l3:(Tryz.f5.params.all (Tryz.pinned.checked.prog.readableRec ·))=true:=by kernel_rfl
theorem notesSigns_l4:(namedTie Tryz.pinned.checked.prog Rows.notesSignsRow.named Rows.notesSignsSpec.vars)=true:=by kernel_rfl
theorem notesSigns_l5:((Rows.notesSignsRow.stops==[]))=true:=by kernel_rfl
theorem notesSigns_l6:((Tryz.pinned.checked.prog.stops==[]))=true:=by kernel_rfl
theorem notesSigns_l7:((Rows.notesSignsRow.knobs==[]))=true:=by kernel_rfl
theorem notesSigns_l8:((Tryz.pinned.checked.prog.stopKnobs==[]))=true:=by kernel_rfl
theorem notesSigns_l9:((Rows.notesSignsRow.inPlace==Tryz.pinned.checked.prog.inPlace 5))=true:=by kernel_rfl
theorem notesSigns_l10:((Rows.notesSignsRow.unfollowed==Tryz.pinned.checked.prog.unfollowed 5))=true:=by kernel_rfl
theorem notesSigns_l11:((Rows.notesSignsRow.recurses==Tryz.pinned.checked.prog.recurses 5))=true:=by kernel_rfl
theorem notesSigns_l12:((Rows.notesSignsRow.named==Tryz.pinned.checked.prog.varsNamed 5))=true:=by kernel_rfl
theorem notesSigns_l13:((Rows.notesSignsRow.maps==(Tryz.f5.params.toList++Rows.notesSignsSpec.plain.varTypes Tryz.pinned.checked.prog).any (Tryz.pinned.checked.prog.mapsRec ·)))=true:=by kernel_rfl
theorem notesSigns_l14:((Rows.notesSignsRow.ifaces==(Tryz.f5.params.toList++Rows.notesSignsSpec.plain.varTypes Tryz.pinned.checked.prog).any (Tryz.pinned.checked.prog.ifacesRec ·)))=true:=by kernel_rfl
theorem notesSigns_l15:((Rows.notesSignsRow.mapsOut==Tryz.pinned.checked.prog.mapsAmong Tryz.f5.resultTypes.toList))=true:=by kernel_rfl
theorem notesSigns_l16:((Rows.notesSignsRow.loops==(Tryz.f5.params.toList++Rows.notesSignsSpec.plain.varTypes Tryz.pinned.checked.prog).any (Tryz.pinned.checked.prog.loopsFrom ·)))=true:=by kernel_rfl
theorem notesSigns_l17:((Rows.notesSignsRow.wideKeys==(Tryz.f5.params.toList++Rows.notesSignsSpec.plain.varTypes Tryz.pinned.checked.prog++Tryz.f5.resultTypes.toList).any (Tryz.pinned.checked.prog.wideKeysFrom ·)))=true:=by kernel_rfl
theorem notesSigns_l18:(Rows.notesSignsSpec.vars.all (Tryz.pinned.checked.prog.varReadable ·))=true:=by kernel_rfl
theorem notesSigns_l19:(Tryz.f5.resultTypes.all (fun t=>Tryz.pinned.checked.prog.readableRec t&&decide (t < Tryz.pinned.checked.prog.types.size)))=true:=by kernel_rfl
theorem notesSigns_l20:((Rows.notesSignsRow.ifacesOut==Tryz.f5.resultTypes.toList.any (Tryz.pinned.checked.prog.ifacesRec ·)))=true:=by kernel_rfl
theorem notesSigns_l21:((Rows.notesSignsRow.loopsOut==Tryz.f5.resultTypes.toList.any (Tryz.pinned.checked.prog.loopsFrom ·)))=true:=by kernel_rfl
theorem notesSigns_l22:((Rows.notesSignsRow.plainKeys==Tryz.pinned.checked.prog.plainKeys))=true:=by kernel_rfl
theorem notesSigns_l23:(Rows.notesSignsRow.shortTexts.isNone)=true:=by kernel_rfl
theorem notesSigns_l24:(Tryz.pinned.checked.prog.stopsHeard)=true:=by kernel_rfl
theorem notesSigns_l25:(Tryz.pinned.checked.prog.mayEnter)=true:=by kernel_rfl
theorem notesSigns_l26:((Rows.notesSignsRow.lifted==Tryz.pinned.checked.prog.liftsFinal))=true:=by kernel_rfl
theorem notesSigns_l27:((Tryz.pinned.checked.prog.make==some Rows.notesSignsRow.make))=true:=by kernel_rfl
theorem notesSigns_l28:((Rows.notesSignsRow.kinds==(if Rows.notesSignsRow.domain.isEmpty then [] else Tryz.f5.params.toList.map fun t=>match Tryz.pinned.checked.prog.underlying t with | some (.int k)=>some k | _=>none)))=true:=by kernel_rfl
theorem notesSigns_l29:((Rows.notesSignsRow.pinned==Rows.notesSignsRow.pinnedBy))=true:=by kernel_rfl
theorem notesSigns_l30:((Rows.notesSignsRow.veiled==(Tryz.f5.params.toList++Rows.notesSignsSpec.plain.varTypes Tryz.pinned.checked.prog++Tryz.f5.resultTypes.toList).any (Tryz.pinned.checked.prog.veiledRec ·)))=true:=by kernel_rfl
theorem notesSigns_l31:(Rows.notesSignsRow.veiledFits Tryz.pinned.checked.prog Tryz.f5.params.toList (Tryz.f5.params.toList++Rows.notesSignsSpec.plain.varTypes Tryz.pinned.checked.prog++Tryz.f5.resultTypes.toList))=true:=by kernel_rfl
theorem notesSigns_closed:joinedFacts Tryz.pinned.checked.prog 5 Tryz.f5 Rows.notesSignsSpec Rows.notesSignsRow=true:=by
 unfold joinedFacts
 simp only [Bool.and_eq_true]
 exact ⟨⟨⟨⟨⟨⟨⟨⟨⟨⟨⟨⟨⟨⟨⟨⟨⟨⟨⟨⟨⟨⟨⟨⟨⟨⟨⟨⟨⟨⟨⟨notesSigns_l0,notesSigns_l1⟩,notesSigns_l2⟩,notesSigns_l3⟩,notesSigns_l4⟩,notesSigns_l5⟩,notesSigns_l6⟩,notesSigns_l7⟩,notesSigns_l8⟩,notesSigns_l9⟩,notesSigns_l10⟩,notesSigns_l11⟩,notesSigns_l12⟩,notesSigns_l13⟩,notesSigns_l14⟩,notesSigns_l15⟩,notesSigns_l16⟩,notesSigns_l17⟩,notesSigns_l18⟩,notesSigns_l19⟩,notesSigns_l20⟩,notesSigns_l21⟩,notesSigns_l22⟩,notesSigns_l23⟩,notesSigns_l24⟩,notesSigns_l25⟩,notesSigns_l26⟩,notesSigns_l27⟩,notesSigns_l28⟩,notesSigns_l29⟩,notesSigns_l30⟩,notesSigns_l31⟩
end Go.Proofs.YtlmdfmnbcndhoaaGreatDoor
