/-
  NotesBack returns true for every input and leaves its arguments as they were: the tied card. No condition.
-/
import Derived.Test.YtlmdfmnbcndhoaaGreatDoorBk46
import Derived.SevenTiedAt
namespace Go.Proofs.YtlmdfmnbcndhoaaGreatDoor
open Go.ChangeShapes Go.WideShapes Go.ChangeAt Go.WideElems Go.RowKit
set_option maxRecDepth 100000
theorem notesBack_text:Rows.notesBackRow.wfByText (OpenSpec.ofChange Rows.notesBackSpec)=true:=by kernel_rfl
theorem notesBack_main:Tryz.pinned.checked.prog.mainIs=some (Rows.notesBackCard.stood.harness.1,Rows.notesBackCard.stood.harness.2.toList):=by kernel_rfl
theorem notesBack_looks:true=Tryz.pinned.checked.prog.looks []:=by kernel_rfl
theorem notesBack_wants:([24,38].all fun u=>!Tryz.prog.wantsStandIn u)=true:=by kernel_rfl
theorem notesBack_goes:false=Rows.notesBackRow.goesBy Tryz.pinned.checked.prog:=by kernel_rfl
theorem notesBack_card:Rows.NotesBackCardSaid :=
  Claim7.holds_tied_plain_at .later [] [.data,.data,.data,.data,.pinned] true _ true
    notesBack_holds (fun _ h=>by cases h) notesBack_text (fun _ h=>by cases h) notesBack_row_tie rfl ⟨rfl,rfl⟩ notesBack_main rfl
    (fun f fn hf hfn=>by
      obtain rfl:f=7:=Option.some.inj (notesBack_named.symm.trans hf) |>.symm
      obtain rfl:fn=Tryz.f7:=(Option.some.inj (Tryz.func7.symm.trans hfn)).symm
      exact ⟨notesBack_looks,fun j t ht=>by
        rw [Tryz.params7] at ht
        have hm:t∈[24,38]:=by simpa using Array.mem_of_getElem? ht
        exact (show Tryz.prog.wantsStandIn t=false by simpa using List.all_eq_true.1 notesBack_wants t hm)⟩)
    notesBack_goes
end Go.Proofs.YtlmdfmnbcndhoaaGreatDoor
