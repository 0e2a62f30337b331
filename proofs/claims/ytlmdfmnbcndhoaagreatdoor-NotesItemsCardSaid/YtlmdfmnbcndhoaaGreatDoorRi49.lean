/-
  The tied card. No condition.
-/
import Derived.Test.YtlmdfmnbcndhoaaGreatDoorRi48
import Derived.SevenTiedAt
namespace Go.Proofs.YtlmdfmnbcndhoaaGreatDoor
open Go.ChangeShapes Go.WideShapes Go.ChangeAt Go.WideElems Go.RowKit
set_option maxRecDepth 100000
theorem notesItems_text:Rows.notesItemsRow.wfByText (OpenSpec.ofChange Rows.notesItemsSpec)=true:=by kernel_rfl
theorem notesItems_main:Tryz.pinned.checked.prog.mainIs=some (Rows.notesItemsCard.stood.harness.1,Rows.notesItemsCard.stood.harness.2.toList):=by kernel_rfl
theorem notesItems_looks:true=Tryz.pinned.checked.prog.looks []:=by kernel_rfl
theorem notesItems_wants:([24,9].all fun u=>!Tryz.prog.wantsStandIn u)=true:=by kernel_rfl
theorem notesItems_goes:false=Rows.notesItemsRow.goesBy Tryz.pinned.checked.prog:=by kernel_rfl
theorem notesItems_card:Rows.NotesItemsCardSaid :=
 Claim7.holds_tied_plain_at .later [] [.data,.data,.data,.data,.pinned] true _ true
  notesItems_holds (fun _ h=>by cases h) notesItems_text (fun _ h=>by cases h) notesItems_row_tie rfl ⟨rfl,rfl⟩ notesItems_main rfl
  (fun f fn hf hfn=>by
   obtain rfl:f=6:=Option.some.inj (notesItems_named.symm.trans hf) |>.symm
   obtain rfl:fn=Tryz.f6:=(Option.some.inj (Tryz.func6.symm.trans hfn)).symm
   exact ⟨notesItems_looks,fun j t ht=>by
    rw [Tryz.params6] at ht
    have hm:t∈[24,9]:=by simpa using Array.mem_of_getElem? ht
    exact (show Tryz.prog.wantsStandIn t=false by simpa using List.all_eq_true.1 notesItems_wants t hm)⟩)
  notesItems_goes
end Go.Proofs.YtlmdfmnbcndhoaaGreatDoor
