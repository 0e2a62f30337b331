/-
  The call from every heap. No condition.
-/
import Derived.Test.YtlmdfmnbcndhoaaGreatDoorRl49
import Derived.Test.YtlmdfmnbcndhoaaGreatDoorRl50
import Derived.SevenTiedAt
import Derived.Carry
import Derived.ChangeMaps5
namespace Go.Proofs.YtlmdfmnbcndhoaaGreatDoor
open Go.ChangeShapes Go.WideShapes Go.ChangeAt Go.WideElems Go.RowKit
set_option maxRecDepth 100000
theorem notesLines_lifted (os:Os) (started:os.Started) (H:Type) (enc:TypeId×Value→H) :
  ReturnsInHanded {} Tryz.checked os 4 .any (fun w args=>(Rows.notesLinesSpec.pre enc Tryz.prog Tryz.f4 [] false w args∧laidMetH Tryz.prog zBf w)∧sizedMet enc Tryz.prog Tryz.f4 (OpenSpec.ofChange Rows.notesLinesSpec) false w args)
   (Rows.notesLinesSpec.post enc Tryz.prog Tryz.f4 false true false false):=by
 refine zEb (C:=Tryz.checked) (X:=fun w _=>laidMetH Tryz.prog zBf w) (fun _ _ _ hh h=>h.of_heap hh) own started (by kernel_rfl) Tryz.func4
  (ChangeSpec.witness_shaped (enc:=enc) (C:=Tryz.checked) (os:=os) (X:=fun w _=>laidMetH Tryz.prog zBf w) false (World.laidAll Tryz.prog os zBf) #[.agg #[.slice none 0 0,.int .i64 0,.int .i64 0],.slice none 0 0,.string ⟨#[]⟩] 8 (World.laidAll_os _ _ _) (zVm os) (by kernel_rfl) (by kernel_rfl) (by kernel_rfl) (zQG os _)) ?_
 intro W base args ds gs before hval0 hW _ hsz hX hsh _;have hval:∀(j:Nat) t v,Tryz.f4.params[j]? = some t→args[j]? = some v→Value.okWide Tryz.prog W .any base t v:=hval0
 have hW':=hW;have hlt:=hW.lt;obtain ⟨p,q,hA0,hV,rfl,hfz,hnd⟩:=hW;have hA:DataW.TrodAll enc Tryz.prog W 0 (fun _=>true) true Tryz.f4.params.toList args.toList ds p:=hA0;rw [Tryz.params4] at hA hval;obtain ⟨v0,v1,v2,d0,d1,d2,p0,p1,p2,rfl,rfl,rfl,h0,h1,h2⟩:=trodAll_three hA;obtain ⟨rfl,rfl⟩:=trodVars_none hV;have hsz':(DataW.weightsEach Tryz.prog (Tryz.f4.params.toList++[]) ([d0,d1,d2]++[])).all (·≤reachBytes)=true:=hsz;rw [Tryz.params4] at hsz';simp only [List.append_nil] at hsz' hlt hW';obtain ⟨A0,n0,c0,L0,re0,lo0,rfl,hF0,hc0,hre0,hlo0⟩:=zSL h0 (hval 0 24 v0 rfl rfl) (zKS hsz' (j:=0) rfl rfl);obtain ⟨B1,m1,q1,Es1,rfl,hO1,_⟩:=zWK h1 (hval 1 38 v1 rfl rfl) (zKS hsz' (j:=1) rfl rfl);obtain ⟨s2,rfl,rfl,rfl,ws2⟩:=Go.ChangeMaps.open_string Tryz.underlying9 (hval 2 9 v2 rfl rfl) h2;rw [←zWY s2];refine (zHT A0 n0 c0 L0 re0 lo0 B1 m1 q1 Es1 s2.data.toList W hF0 hc0 hO1 (zVn hX hsh)).mono fun e W' ⟨he,hb⟩=>?_
 subst he;exact ⟨_,rfl,zJA zSJ hb rfl rfl rfl (by rw [Tryz.params4];intro t ht;simp at ht;(first | (rcases ht with rfl | rfl | rfl<;>first | exact zJB | exact zQI | exact zQJ) | (rcases ht with rfl | rfl<;>first | exact zJB | exact zQI | exact zQJ) | (rcases ht with rfl<;>first | exact zJB | exact zQI | exact zQJ))) hW' (fun _ _ _=>trodAll_mk1 (shut_bool Tryz.underlying4 _)) (ok_one (by kernel_rfl) rfl (okWide_bool_mk Tryz.underlying4 _))⟩
end Go.Proofs.YtlmdfmnbcndhoaaGreatDoor
