/-
  The tied card. No condition.
-/
import Derived.Test.YtlmdfmnbcndhoaaGreatDoorRt33
namespace Go.Proofs.YtlmdfmnbcndhoaaGreatDoor
open Go.ChangeShapes Go.WideShapes Go.ChangeAt Go.WideElems Go.RowKit
set_option maxRecDepth 100000
theorem notesTranslates_text:Rows.notesTranslatesRow.wfByText (OpenSpec.ofChange Rows.notesTranslatesSpec)=true:=by kernel_rfl
theorem notesTranslates_main:Tryz.pinned.checked.prog.mainIs=some (Rows.notesTranslatesCard.stood.harness.1,Rows.notesTranslatesCard.stood.harness.2.toList):=by kernel_rfl
theorem notesTranslates_looks:true=Tryz.pinned.checked.prog.looks []:=by kernel_rfl
theorem notesTranslates_wants:([24,9,3,3].all fun u=>!Tryz.prog.wantsStandIn u)=true:=by kernel_rfl
theorem notesTranslates_goes:false=Rows.notesTranslatesRow.goesBy Tryz.pinned.checked.prog:=by kernel_rfl
theorem notesTranslates_card:Rows.NotesTranslatesCardSaid :=
 Claim7.holds_tied_plain_at .later [] [.data,.data,.data,.data,.pinned] true _ true
  notesTranslates_holds (fun _ h=>by cases h) notesTranslates_text (fun _ h=>by cases h) notesTranslates_row_tie rfl ⟨rfl,rfl⟩ notesTranslates_main rfl
  (fun f fn hf hfn=>by
   obtain rfl:f=10:=Option.some.inj (notesTranslates_named.symm.trans hf) |>.symm
   obtain rfl:fn=Tryz.f10:=(Option.some.inj (Tryz.func10.symm.trans hfn)).symm
   exact ⟨notesTranslates_looks,fun j t ht=>by
    rw [Tryz.params10] at ht
    have hm:t∈[24,9,3,3]:=by simpa using Array.mem_of_getElem? ht
    exact (show Tryz.prog.wantsStandIn t=false by simpa using List.all_eq_true.1 notesTranslates_wants t hm)⟩)
  notesTranslates_goes
end Go.Proofs.YtlmdfmnbcndhoaaGreatDoor
