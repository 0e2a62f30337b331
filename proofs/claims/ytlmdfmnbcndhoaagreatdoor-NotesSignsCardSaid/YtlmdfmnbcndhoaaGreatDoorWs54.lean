/-
  NotesSigns returns true for every input and leaves its arguments as they were: the tied card. No condition.
-/
import Derived.Test.YtlmdfmnbcndhoaaGreatDoorWs53
import Derived.SevenTiedAt
namespace Go.Proofs.YtlmdfmnbcndhoaaGreatDoor
open Go.ChangeShapes Go.WideShapes Go.ChangeAt Go.WideElems Go.RowKit
set_option maxRecDepth 100000
theorem notesSigns_text:Rows.notesSignsRow.wfByText (OpenSpec.ofChange Rows.notesSignsSpec)=true:=by kernel_rfl
theorem notesSigns_main:Tryz.pinned.checked.prog.mainIs=some (Rows.notesSignsCard.stood.harness.1,Rows.notesSignsCard.stood.harness.2.toList):=by kernel_rfl
theorem notesSigns_looks:true=Tryz.pinned.checked.prog.looks []:=by kernel_rfl
theorem notesSigns_wants:([24,38].all fun u=>!Tryz.prog.wantsStandIn u)=true:=by kernel_rfl
theorem notesSigns_goes:false=Rows.notesSignsRow.goesBy Tryz.pinned.checked.prog:=by kernel_rfl
theorem notesSigns_card:Rows.NotesSignsCardSaid :=
 Claim7.holds_tied_plain_at .later [] [.data,.data,.data,.data,.pinned] true _ true
  notesSigns_holds (fun _ h=>by cases h) notesSigns_text (fun _ h=>by cases h) notesSigns_row_tie rfl ⟨rfl,rfl⟩ notesSigns_main rfl
  (fun f fn hf hfn=>by
   obtain rfl:f=5:=Option.some.inj (notesSigns_named.symm.trans hf) |>.symm
   obtain rfl:fn=Tryz.f5:=(Option.some.inj (Tryz.func5.symm.trans hfn)).symm
   exact ⟨notesSigns_looks,fun j t ht=>by
    rw [Tryz.params5] at ht
    have hm:t∈[24,38]:=by simpa using Array.mem_of_getElem? ht
    exact (show Tryz.prog.wantsStandIn t=false by simpa using List.all_eq_true.1 notesSigns_wants t hm)⟩)
  notesSigns_goes
end Go.Proofs.YtlmdfmnbcndhoaaGreatDoor
