/-
  The call from every heap. No condition.
-/
import Derived.Test.YtlmdfmnbcndhoaaGreatDoorRi45
import Derived.SevenTiedAt
import Derived.Carry
import Derived.ChangeMaps5
namespace Go.Proofs.YtlmdfmnbcndhoaaGreatDoor
open Go.ChangeShapes Go.WideShapes Go.ChangeAt Go.WideElems Go.RowKit
set_option maxRecDepth 100000
theorem notesItems_lifted (os:Os) (started:os.Started) (H:Type) (enc:TypeId×Value→H) :
  ReturnsInHanded {} Tryz.checked os 6 .any (fun w args=>(Rows.notesItemsSpec.pre enc Tryz.prog Tryz.f6 [] false w args∧laidMetH Tryz.prog zBf w)∧sizedMet enc Tryz.prog Tryz.f6 (OpenSpec.ofChange Rows.notesItemsSpec) false w args)
   (Rows.notesItemsSpec.post enc Tryz.prog Tryz.f6 false true false false):=by
 refine zDX (C:=Tryz.checked) (X:=fun w _=>laidMetH Tryz.prog zBf w) (fun _ _ _ hh h=>h.of_heap hh) own started (by kernel_rfl) Tryz.func6
  (ChangeSpec.witness_shaped (enc:=enc) (C:=Tryz.checked) (os:=os) (X:=fun w _=>laidMetH Tryz.prog zBf w) false (World.laidAll Tryz.prog os zBf) #[.agg #[.slice none 0 0,.int .i64 0,.int .i64 0],.string ⟨#[]⟩] 8 (World.laidAll_os _ _ _) (zUz os) (by kernel_rfl) (by kernel_rfl) (by kernel_rfl) (zQh os _)) ?_
 intro W base args ds gs before hval0 hW _ hsz hX hsh _;have hval:∀(j:Nat) t v,Tryz.f6.params[j]? = some t→args[j]? = some v→Value.okWide Tryz.prog W .any base t v:=hval0
 have hW':=hW;have hlt:=hW.lt;obtain ⟨p,q,hA0,hV,rfl,hfz,hnd⟩:=hW;have hA:DataW.TrodAll enc Tryz.prog W 0 (fun _=>true) true Tryz.f6.params.toList args.toList ds p:=hA0;rw [Tryz.params6] at hA hval;obtain ⟨v0,v1,d0,d1,p0,p1,rfl,rfl,rfl,h0,h1⟩:=trodAll_two hA;obtain ⟨rfl,rfl⟩:=trodVars_none hV;have hsz':(DataW.weightsEach Tryz.prog (Tryz.f6.params.toList++[]) ([d0,d1]++[])).all (·≤reachBytes)=true:=hsz;rw [Tryz.params6] at hsz';simp only [List.append_nil] at hsz' hlt hW';obtain ⟨A0,n0,c0,L0,re0,lo0,rfl,hF0,hc0,hre0,hlo0⟩:=zSf h0 (hval 0 24 v0 rfl rfl) (zQj hsz' (j:=0) rfl rfl);obtain ⟨s1,rfl,rfl,rfl,ws1⟩:=Go.ChangeMaps.open_string Tryz.underlying9 (hval 1 9 v1 rfl rfl) h1;rw [←zWi s1];refine (zHI A0 n0 c0 L0 re0 lo0 s1.data.toList W hF0 hc0 (zUA hX hsh)).mono fun e W' ⟨he,hb⟩=>?_
 subst he;exact ⟨_,rfl,zJk zSd hb rfl rfl rfl (by rw [Tryz.params6];intro t ht;simp at ht;(first | (rcases ht with rfl | rfl<;>first | exact zMB | exact zSL) | (rcases ht with rfl<;>first | exact zMB | exact zSL))) hW' (fun _ _ _=>trodAll_mk1 (shut_bool Tryz.underlying4 _)) (ok_one (by kernel_rfl) rfl (okWide_bool_mk Tryz.underlying4 _))⟩
end Go.Proofs.YtlmdfmnbcndhoaaGreatDoor
