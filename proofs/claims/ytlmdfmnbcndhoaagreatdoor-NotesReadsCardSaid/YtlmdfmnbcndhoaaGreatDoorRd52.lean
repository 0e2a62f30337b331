/-
  NotesReads: the tied card. No condition.
-/
import Derived.Test.YtlmdfmnbcndhoaaGreatDoorRd51
import Derived.SevenTiedAt
namespace Go.Proofs.YtlmdfmnbcndhoaaGreatDoor
open Go.ChangeShapes Go.WideShapes Go.ChangeAt Go.WideElems Go.RowKit
set_option maxRecDepth 100000
theorem notesReads_text:Rows.notesReadsRow.wfByText (OpenSpec.ofChange Rows.notesReadsSpec)=true:=by kernel_rfl
theorem notesReads_main:Tryz.pinned.checked.prog.mainIs=some (Rows.notesReadsCard.stood.harness.1,Rows.notesReadsCard.stood.harness.2.toList):=by kernel_rfl
theorem notesReads_looks:true=Tryz.pinned.checked.prog.looks []:=by kernel_rfl
theorem notesReads_wants:([24,9].all fun u=>!Tryz.prog.wantsStandIn u)=true:=by kernel_rfl
theorem notesReads_goes:false=Rows.notesReadsRow.goesBy Tryz.pinned.checked.prog:=by kernel_rfl
theorem notesReads_card:Rows.NotesReadsCardSaid :=
 Claim7.holds_tied_plain_at .later [] [.data,.data,.data,.data,.pinned] true _ true
  notesReads_holds (fun _ h=>by cases h) notesReads_text (fun _ h=>by cases h) notesReads_row_tie rfl ⟨rfl,rfl⟩ notesReads_main rfl
  (fun f fn hf hfn=>by
   obtain rfl:f=3:=Option.some.inj (notesReads_named.symm.trans hf) |>.symm
   obtain rfl:fn=Tryz.f3:=(Option.some.inj (Tryz.func3.symm.trans hfn)).symm
   exact ⟨notesReads_looks,fun j t ht=>by
    rw [Tryz.params3] at ht
    have hm:t∈[24,9]:=by simpa using Array.mem_of_getElem? ht
    exact (show Tryz.prog.wantsStandIn t=false by simpa using List.all_eq_true.1 notesReads_wants t hm)⟩)
  notesReads_goes
end Go.Proofs.YtlmdfmnbcndhoaaGreatDoor
