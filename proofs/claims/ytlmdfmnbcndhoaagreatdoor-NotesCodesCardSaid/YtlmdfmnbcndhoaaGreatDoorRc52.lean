/-
  The tied card. No condition.
-/
import Derived.Test.YtlmdfmnbcndhoaaGreatDoorRc51
import Derived.SevenTiedAt
namespace Go.Proofs.YtlmdfmnbcndhoaaGreatDoor
open Go.ChangeShapes Go.WideShapes Go.ChangeAt Go.WideElems Go.RowKit
set_option maxRecDepth 100000
theorem notesCodes_text:Rows.notesCodesRow.wfByText (OpenSpec.ofChange Rows.notesCodesSpec)=true:=by kernel_rfl
theorem notesCodes_main:Tryz.pinned.checked.prog.mainIs=some (Rows.notesCodesCard.stood.harness.1,Rows.notesCodesCard.stood.harness.2.toList):=by kernel_rfl
theorem notesCodes_looks:true=Tryz.pinned.checked.prog.looks []:=by kernel_rfl
theorem notesCodes_wants:([24,9].all fun u=>!Tryz.prog.wantsStandIn u)=true:=by kernel_rfl
theorem notesCodes_goes:false=Rows.notesCodesRow.goesBy Tryz.pinned.checked.prog:=by kernel_rfl
theorem notesCodes_card:Rows.NotesCodesCardSaid :=
 Claim7.holds_tied_plain_at .later [] [.data,.data,.data,.data,.pinned] true _ true
  notesCodes_holds (fun _ h=>by cases h) notesCodes_text (fun _ h=>by cases h) notesCodes_row_tie rfl ⟨rfl,rfl⟩ notesCodes_main rfl
  (fun f fn hf hfn=>by
   obtain rfl:f=9:=Option.some.inj (notesCodes_named.symm.trans hf) |>.symm
   obtain rfl:fn=Tryz.f9:=(Option.some.inj (Tryz.func9.symm.trans hfn)).symm
   exact ⟨notesCodes_looks,fun j t ht=>by
    rw [Tryz.params9] at ht
    have hm:t∈[24,9]:=by simpa using Array.mem_of_getElem? ht
    exact (show Tryz.prog.wantsStandIn t=false by simpa using List.all_eq_true.1 notesCodes_wants t hm)⟩)
  notesCodes_goes
end Go.Proofs.YtlmdfmnbcndhoaaGreatDoor
