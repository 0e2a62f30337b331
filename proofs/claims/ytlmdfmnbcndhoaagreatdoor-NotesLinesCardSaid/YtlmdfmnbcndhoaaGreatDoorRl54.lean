/-
  The tied card. No condition.
-/
import Derived.Test.YtlmdfmnbcndhoaaGreatDoorRl53
import Derived.SevenTiedAt
namespace Go.Proofs.YtlmdfmnbcndhoaaGreatDoor
open Go.ChangeShapes Go.WideShapes Go.ChangeAt Go.WideElems Go.RowKit
set_option maxRecDepth 100000
theorem notesLines_text:Rows.notesLinesRow.wfByText (OpenSpec.ofChange Rows.notesLinesSpec)=true:=by kernel_rfl
theorem notesLines_main:Tryz.pinned.checked.prog.mainIs=some (Rows.notesLinesCard.stood.harness.1,Rows.notesLinesCard.stood.harness.2.toList):=by kernel_rfl
theorem notesLines_looks:true=Tryz.pinned.checked.prog.looks []:=by kernel_rfl
theorem notesLines_wants:([24,38,9].all fun u=>!Tryz.prog.wantsStandIn u)=true:=by kernel_rfl
theorem notesLines_goes:false=Rows.notesLinesRow.goesBy Tryz.pinned.checked.prog:=by kernel_rfl
theorem notesLines_card:Rows.NotesLinesCardSaid :=
 Claim7.holds_tied_plain_at .later [] [.data,.data,.data,.data,.pinned] true _ true
  notesLines_holds (fun _ h=>by cases h) notesLines_text (fun _ h=>by cases h) notesLines_row_tie rfl ⟨rfl,rfl⟩ notesLines_main rfl
  (fun f fn hf hfn=>by
   obtain rfl:f=4:=Option.some.inj (notesLines_named.symm.trans hf) |>.symm
   obtain rfl:fn=Tryz.f4:=(Option.some.inj (Tryz.func4.symm.trans hfn)).symm
   exact ⟨notesLines_looks,fun j t ht=>by
    rw [Tryz.params4] at ht
    have hm:t∈[24,38,9]:=by simpa using Array.mem_of_getElem? ht
    exact (show Tryz.prog.wantsStandIn t=false by simpa using List.all_eq_true.1 notesLines_wants t hm)⟩)
  notesLines_goes
end Go.Proofs.YtlmdfmnbcndhoaaGreatDoor
