/-
  NotesWords returns true for every input and leaves its arguments as they were: the tied card. No condition.
-/
import Derived.Test.YtlmdfmnbcndhoaaGreatDoorWs49
import Derived.SevenTiedAt
namespace Go.Proofs.YtlmdfmnbcndhoaaGreatDoor
open Go.ChangeShapes Go.WideShapes Go.ChangeAt Go.WideElems Go.RowKit
set_option maxRecDepth 100000
theorem notesWords_text:Rows.notesWordsRow.wfByText (OpenSpec.ofChange Rows.notesWordsSpec)=true:=by kernel_rfl
theorem notesWords_main:Tryz.pinned.checked.prog.mainIs=some (Rows.notesWordsCard.stood.harness.1,Rows.notesWordsCard.stood.harness.2.toList):=by kernel_rfl
theorem notesWords_looks:true=Tryz.pinned.checked.prog.looks []:=by kernel_rfl
theorem notesWords_wants:([24,32].all fun u=>!Tryz.prog.wantsStandIn u)=true:=by kernel_rfl
theorem notesWords_goes:false=Rows.notesWordsRow.goesBy Tryz.pinned.checked.prog:=by kernel_rfl
theorem notesWords_card:Rows.NotesWordsCardSaid :=
 Claim7.holds_tied_plain_at .later [] [.data,.data,.data,.data,.pinned] true _ true
  notesWords_holds (fun _ h=>by cases h) notesWords_text (fun _ h=>by cases h) notesWords_row_tie rfl ⟨rfl,rfl⟩ notesWords_main rfl
  (fun f fn hf hfn=>by
   obtain rfl:f=11:=Option.some.inj (notesWords_named.symm.trans hf) |>.symm
   obtain rfl:fn=Tryz.f11:=(Option.some.inj (Tryz.func11.symm.trans hfn)).symm
   exact ⟨notesWords_looks,fun j t ht=>by
    rw [Tryz.params11] at ht
    have hm:t∈[24,32]:=by simpa using Array.mem_of_getElem? ht
    exact (show Tryz.prog.wantsStandIn t=false by simpa using List.all_eq_true.1 notesWords_wants t hm)⟩)
  notesWords_goes
end Go.Proofs.YtlmdfmnbcndhoaaGreatDoor
