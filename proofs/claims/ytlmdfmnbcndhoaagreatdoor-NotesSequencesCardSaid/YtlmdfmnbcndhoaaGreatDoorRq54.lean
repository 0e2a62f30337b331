/-
  The tied card. No condition.
-/
import Derived.Test.YtlmdfmnbcndhoaaGreatDoorRq53
import Derived.SevenTiedAt
namespace Go.Proofs.YtlmdfmnbcndhoaaGreatDoor
open Go.ChangeShapes Go.WideShapes Go.ChangeAt Go.WideElems Go.RowKit
set_option maxRecDepth 100000
theorem notesSequences_text:Rows.notesSequencesRow.wfByText (OpenSpec.ofChange Rows.notesSequencesSpec)=true:=by kernel_rfl
theorem notesSequences_main:Tryz.pinned.checked.prog.mainIs=some (Rows.notesSequencesCard.stood.harness.1,Rows.notesSequencesCard.stood.harness.2.toList):=by kernel_rfl
theorem notesSequences_looks:true=Tryz.pinned.checked.prog.looks []:=by kernel_rfl
theorem notesSequences_wants:([24,55].all fun u=>!Tryz.prog.wantsStandIn u)=true:=by kernel_rfl
theorem notesSequences_goes:false=Rows.notesSequencesRow.goesBy Tryz.pinned.checked.prog:=by kernel_rfl
theorem notesSequences_card:Rows.NotesSequencesCardSaid :=
 Claim7.holds_tied_plain_at .later [] [.data,.data,.data,.data,.pinned] true _ true
  notesSequences_holds (fun _ h=>by cases h) notesSequences_text (fun _ h=>by cases h) notesSequences_row_tie rfl ⟨rfl,rfl⟩ notesSequences_main rfl
  (fun f fn hf hfn=>by
   obtain rfl:f=8:=Option.some.inj (notesSequences_named.symm.trans hf) |>.symm
   obtain rfl:fn=Tryz.f8:=(Option.some.inj (Tryz.func8.symm.trans hfn)).symm
   exact ⟨notesSequences_looks,fun j t ht=>by
    rw [Tryz.params8] at ht
    have hm:t∈[24,55]:=by simpa using Array.mem_of_getElem? ht
    exact (show Tryz.prog.wantsStandIn t=false by simpa using List.all_eq_true.1 notesSequences_wants t hm)⟩)
  notesSequences_goes
end Go.Proofs.YtlmdfmnbcndhoaaGreatDoor
