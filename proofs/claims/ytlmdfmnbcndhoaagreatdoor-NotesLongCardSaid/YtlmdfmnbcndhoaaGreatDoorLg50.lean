/-
  NotesLong returns true for every input and leaves its arguments as they were: the tied card. No condition.
-/
import Derived.Test.YtlmdfmnbcndhoaaGreatDoorLg49
import Derived.SevenTiedAt
namespace Go.Proofs.YtlmdfmnbcndhoaaGreatDoor
open Go.ChangeShapes Go.WideShapes Go.ChangeAt Go.WideElems Go.RowKit
set_option maxRecDepth 100000
theorem notesLong_text:Rows.notesLongRow.wfByText (OpenSpec.ofChange Rows.notesLongSpec)=true:=by kernel_rfl
theorem notesLong_main:Tryz.pinned.checked.prog.mainIs=some (Rows.notesLongCard.stood.harness.1,Rows.notesLongCard.stood.harness.2.toList):=by kernel_rfl
theorem notesLong_looks:true=Tryz.pinned.checked.prog.looks []:=by kernel_rfl
theorem notesLong_wants:([24,55].all fun u=>!Tryz.prog.wantsStandIn u)=true:=by kernel_rfl
theorem notesLong_goes:false=Rows.notesLongRow.goesBy Tryz.pinned.checked.prog:=by kernel_rfl
theorem notesLong_card:Rows.NotesLongCardSaid :=
 Claim7.holds_tied_plain_at .later [] [.data,.data,.data,.data,.pinned] true _ true
  notesLong_holds (fun _ h=>by cases h) notesLong_text (fun _ h=>by cases h) notesLong_row_tie rfl ⟨rfl,rfl⟩ notesLong_main rfl
  (fun f fn hf hfn=>by
   obtain rfl:f=13:=Option.some.inj (notesLong_named.symm.trans hf) |>.symm
   obtain rfl:fn=Tryz.f13:=(Option.some.inj (Tryz.func13.symm.trans hfn)).symm
   exact ⟨notesLong_looks,fun j t ht=>by
    rw [Tryz.params13] at ht
    have hm:t∈[24,55]:=by simpa using Array.mem_of_getElem? ht
    exact (show Tryz.prog.wantsStandIn t=false by simpa using List.all_eq_true.1 notesLong_wants t hm)⟩)
  notesLong_goes
end Go.Proofs.YtlmdfmnbcndhoaaGreatDoor
