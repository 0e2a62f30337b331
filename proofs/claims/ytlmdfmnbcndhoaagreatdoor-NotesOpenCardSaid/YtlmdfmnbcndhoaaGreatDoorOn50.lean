/-
  NotesOpen returns true for every input and leaves its arguments as they were: the tied card. No condition.
-/
import Derived.Test.YtlmdfmnbcndhoaaGreatDoorOn49
import Derived.SevenTiedAt
namespace Go.Proofs.YtlmdfmnbcndhoaaGreatDoor
open Go.ChangeShapes Go.WideShapes Go.ChangeAt Go.WideElems Go.RowKit
set_option maxRecDepth 100000
theorem notesOpen_text:Rows.notesOpenRow.wfByText (OpenSpec.ofChange Rows.notesOpenSpec)=true:=by kernel_rfl
theorem notesOpen_main:Tryz.pinned.checked.prog.mainIs=some (Rows.notesOpenCard.stood.harness.1,Rows.notesOpenCard.stood.harness.2.toList):=by kernel_rfl
theorem notesOpen_looks:true=Tryz.pinned.checked.prog.looks []:=by kernel_rfl
theorem notesOpen_wants:([24,55].all fun u=>!Tryz.prog.wantsStandIn u)=true:=by kernel_rfl
theorem notesOpen_goes:false=Rows.notesOpenRow.goesBy Tryz.pinned.checked.prog:=by kernel_rfl
theorem notesOpen_card:Rows.NotesOpenCardSaid :=
 Claim7.holds_tied_plain_at .later [] [.data,.data,.data,.data,.pinned] true _ true
  notesOpen_holds (fun _ h=>by cases h) notesOpen_text (fun _ h=>by cases h) notesOpen_row_tie rfl ⟨rfl,rfl⟩ notesOpen_main rfl
  (fun f fn hf hfn=>by
   obtain rfl:f=12:=Option.some.inj (notesOpen_named.symm.trans hf) |>.symm
   obtain rfl:fn=Tryz.f12:=(Option.some.inj (Tryz.func12.symm.trans hfn)).symm
   exact ⟨notesOpen_looks,fun j t ht=>by
    rw [Tryz.params12] at ht
    have hm:t∈[24,55]:=by simpa using Array.mem_of_getElem? ht
    exact (show Tryz.prog.wantsStandIn t=false by simpa using List.all_eq_true.1 notesOpen_wants t hm)⟩)
  notesOpen_goes
end Go.Proofs.YtlmdfmnbcndhoaaGreatDoor
