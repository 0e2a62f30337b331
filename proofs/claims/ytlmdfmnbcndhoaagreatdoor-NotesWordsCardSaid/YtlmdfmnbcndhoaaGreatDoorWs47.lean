/-
  NotesWords returns true for every input and leaves its arguments as they were: the call from every heap. No condition.
-/
import Derived.Test.YtlmdfmnbcndhoaaGreatDoorWs43
import Derived.Test.YtlmdfmnbcndhoaaGreatDoorWs44
import Derived.SevenTiedAt
import Derived.Carry
import Derived.ChangeMaps5
namespace Go.Proofs.YtlmdfmnbcndhoaaGreatDoor
open Go.ChangeShapes Go.WideShapes Go.ChangeAt Go.WideElems Go.RowKit
set_option maxRecDepth 100000
theorem notesWords_lifted (os:Os) (started:os.Started) (H:Type) (enc:TypeId×Value→H) :
  ReturnsInHanded {} Tryz.checked os 11 .any (fun w args=>(Rows.notesWordsSpec.pre enc Tryz.prog Tryz.f11 [] false w args∧laidMetH Tryz.prog laidNotes w)∧sizedMet enc Tryz.prog Tryz.f11 (OpenSpec.ofChange Rows.notesWordsSpec) false w args)
   (Rows.notesWordsSpec.post enc Tryz.prog Tryz.f11 false true false false):=by
 refine returnsInHanded_both (C:=Tryz.checked) (X:=fun w _=>laidMetH Tryz.prog laidNotes w) (fun _ _ _ hh h=>h.of_heap hh) own started (by kernel_rfl) Tryz.func11
  (ChangeSpec.witness_shaped (enc:=enc) (C:=Tryz.checked) (os:=os) (X:=fun w _=>laidMetH Tryz.prog laidNotes w) false (World.laidAll Tryz.prog os laidNotes) #[.agg #[.slice none 0 0,.int .i64 0,.int .i64 0],.agg #[.int .i64 0,.int .i64 0,.int .i64 0,.int .i64 0,.bool false,.int .i64 0,.slice none 0 0,.bool false]] 8 (World.laidAll_os _ _ _) (shapedN os) (by kernel_rfl) (by kernel_rfl) (by kernel_rfl) (laid_metN os _)) ?_
 intro W base args ds gs before hval0 hW _ hsz hX hsh _
 have hval:∀(j:Nat) t v,Tryz.f11.params[j]? = some t→args[j]? = some v→Value.okWide Tryz.prog W .any base t v:=hval0
 have hW':=hW
 have hlt:=hW.lt
 obtain ⟨p,q,hA0,hV,rfl,hfz,hnd⟩:=hW
 have hA:DataW.TrodAll enc Tryz.prog W 0 (fun _=>true) true Tryz.f11.params.toList args.toList ds p:=hA0
 rw [Tryz.params11] at hA hval
 obtain ⟨v0,v1,d0,d1,p0,p1,rfl,rfl,rfl,h0,h1⟩:=trodAll_two hA
 obtain ⟨rfl,rfl⟩:=trodVars_none hV
 have hsz':(DataW.weightsEach Tryz.prog (Tryz.f11.params.toList++[]) ([d0,d1]++[])).all (·≤reachBytes)=true:=hsz
 rw [Tryz.params11] at hsz'
 simp only [List.append_nil] at hsz' hlt hW'
 obtain ⟨A0,n0,c0,L0,re0,lo0,rfl,hF0,hc0,hre0,hlo0⟩:=frame_in h0 (hval 0 24 v0 rfl rfl) (sized_any hsz' (j:=0) rfl rfl)
 obtain ⟨o1,B1,m1,q1,rfl,hO1⟩:=op_in h1 (hval 1 32 v1 rfl rfl) (sized_any hsz' (j:=1) rfl rfl)
 refine (notesWords_any A0 n0 c0 L0 re0 lo0 o1 B1 m1 q1 W hF0 hc0 hO1 (tabs_of hX hsh)).mono fun e W' ⟨he,hb⟩=>?_
 subst he
 exact ⟨_,rfl,post_of_below laidOutP hb rfl rfl rfl (by rw [Tryz.params11];intro t ht;simp at ht;(first | (rcases ht with rfl | rfl<;>first | exact recFrame | exact recOp) | (rcases ht with rfl<;>first | exact recFrame | exact recOp))) hW' (fun _ _ _=>trodAll_mk1 (shut_bool Tryz.underlying4 _)) (ok_one (by kernel_rfl) rfl (okWide_bool_mk Tryz.underlying4 _))⟩
end Go.Proofs.YtlmdfmnbcndhoaaGreatDoor
