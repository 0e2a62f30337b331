/-
  NotesLong returns true for every input and leaves its arguments as they were: the call from every heap. No condition.
-/
import Derived.Test.YtlmdfmnbcndhoaaGreatDoorLg46
import Derived.SevenTiedAt
import Derived.Carry
import Derived.ChangeMaps5
namespace Go.Proofs.YtlmdfmnbcndhoaaGreatDoor
open Go.ChangeShapes Go.WideShapes Go.ChangeAt Go.WideElems Go.RowKit
set_option maxRecDepth 100000
theorem notesLong_lifted (os:Os) (started:os.Started) (H:Type) (enc:TypeId×Value→H) :
  ReturnsInHanded {} Tryz.checked os 13 .any (fun w args=>(Rows.notesLongSpec.pre enc Tryz.prog Tryz.f13 [] false w args∧laidMetH Tryz.prog zBu w)∧sizedMet enc Tryz.prog Tryz.f13 (OpenSpec.ofChange Rows.notesLongSpec) false w args)
   (Rows.notesLongSpec.post enc Tryz.prog Tryz.f13 false true false false):=by
 refine zEB (C:=Tryz.checked) (X:=fun w _=>laidMetH Tryz.prog zBu w) (fun _ _ _ hh h=>h.of_heap hh) own started (by kernel_rfl) Tryz.func13
  (ChangeSpec.witness_shaped (enc:=enc) (C:=Tryz.checked) (os:=os) (X:=fun w _=>laidMetH Tryz.prog zBu w) false (World.laidAll Tryz.prog os zBu) #[.agg #[.slice none 0 0,.int .i64 0,.int .i64 0],.agg #[.int .i64 0,.slice none 0 0]] 8 (World.laidAll_os _ _ _) (zUE os) (by kernel_rfl) (by kernel_rfl) (by kernel_rfl) (zQH os _)) ?_
 intro W base args ds gs before hval0 hW _ hsz hX hsh _;have hval:∀(j:Nat) t v,Tryz.f13.params[j]? = some t→args[j]? = some v→Value.okWide Tryz.prog W .any base t v:=hval0
 have hW':=hW;have hlt:=hW.lt;obtain ⟨p,q,hA0,hV,rfl,hfz,hnd⟩:=hW;have hA:DataW.TrodAll enc Tryz.prog W 0 (fun _=>true) true Tryz.f13.params.toList args.toList ds p:=hA0;rw [Tryz.params13] at hA hval;obtain ⟨v0,v1,d0,d1,p0,p1,rfl,rfl,rfl,h0,h1⟩:=trodAll_two hA;obtain ⟨rfl,rfl⟩:=trodVars_none hV;have hsz':(DataW.weightsEach Tryz.prog (Tryz.f13.params.toList++[]) ([d0,d1]++[])).all (·≤reachBytes)=true:=hsz;rw [Tryz.params13] at hsz';simp only [List.append_nil] at hsz' hlt hW';obtain ⟨A0,n0,c0,L0,re0,lo0,rfl,hF0,hc0,hre0,hlo0⟩:=zSE h0 (hval 0 24 v0 rfl rfl) (zKX hsz' (j:=0) rfl rfl);obtain ⟨K1,A1,n1,c1,L1,rfl,hK1,hI1,hc1⟩:=zUG h1 (hval 1 55 v1 rfl rfl) (zKX hsz' (j:=1) rfl rfl);refine (zJU A0 n0 c0 L0 re0 lo0 K1 A1 n1 c1 L1 W hF0 hc0 hI1 hc1 (zUF hX hsh)).mono fun e W' ⟨he,hb⟩=>?_
 subst he;exact ⟨_,rfl,zJV zSC hb rfl rfl rfl (by rw [Tryz.params13];intro t ht;simp at ht;(first | (rcases ht with rfl | rfl<;>first | exact zQJ | exact zNo) | (rcases ht with rfl<;>first | exact zQJ | exact zNo))) hW' (fun _ _ _=>trodAll_mk1 (shut_bool Tryz.underlying4 _)) (ok_one (by kernel_rfl) rfl (okWide_bool_mk Tryz.underlying4 _))⟩
end Go.Proofs.YtlmdfmnbcndhoaaGreatDoor
