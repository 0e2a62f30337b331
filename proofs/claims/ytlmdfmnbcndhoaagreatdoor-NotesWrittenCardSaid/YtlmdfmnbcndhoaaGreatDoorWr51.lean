/-
  NotesWritten returns true for every input and leaves its arguments as they were: the tied card. No condition.
-/
import Derived.Test.YtlmdfmnbcndhoaaGreatDoorWr50
import Derived.SevenTiedAt
namespace Go.Proofs.YtlmdfmnbcndhoaaGreatDoor
open Go.ChangeShapes Go.WideShapes Go.ChangeAt Go.WideElems Go.RowKit
set_option maxRecDepth 100000
theorem notesWritten_text:Rows.notesWrittenRow.wfByText (OpenSpec.ofChange Rows.notesWrittenSpec)=true:=by kernel_rfl
theorem notesWritten_main:Tryz.pinned.checked.prog.mainIs=some (Rows.notesWrittenCard.stood.harness.1,Rows.notesWrittenCard.stood.harness.2.toList):=by kernel_rfl
theorem notesWritten_looks:true=Tryz.pinned.checked.prog.looks []:=by kernel_rfl
theorem notesWritten_wants:([24,55].all fun u=>!Tryz.prog.wantsStandIn u)=true:=by kernel_rfl
theorem notesWritten_goes:false=Rows.notesWrittenRow.goesBy Tryz.pinned.checked.prog:=by kernel_rfl
theorem notesWritten_card:Rows.NotesWrittenCardSaid :=
 Claim7.holds_tied_plain_at .later [] [.data,.data,.data,.data,.pinned] true _ true
  notesWritten_holds (fun _ h=>by cases h) notesWritten_text (fun _ h=>by cases h) notesWritten_row_tie rfl ⟨rfl,rfl⟩ notesWritten_main rfl
  (fun f fn hf hfn=>by
   obtain rfl:f=14:=Option.some.inj (notesWritten_named.symm.trans hf) |>.symm
   obtain rfl:fn=Tryz.f14:=(Option.some.inj (Tryz.func14.symm.trans hfn)).symm
   exact ⟨notesWritten_looks,fun j t ht=>by
    rw [Tryz.params14] at ht
    have hm:t∈[24,55]:=by simpa using Array.mem_of_getElem? ht
    exact (show Tryz.prog.wantsStandIn t=false by simpa using List.all_eq_true.1 notesWritten_wants t hm)⟩)
  notesWritten_goes
end Go.Proofs.YtlmdfmnbcndhoaaGreatDoor
