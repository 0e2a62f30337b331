/-
  The call from every heap. No condition.
-/
import Derived.Test.YtlmdfmnbcndhoaaGreatDoorRt30
import Derived.SevenTiedAt
import Derived.Carry
namespace Go.Proofs.YtlmdfmnbcndhoaaGreatDoor
open Go.ChangeShapes Go.WideShapes Go.ChangeAt Go.WideElems Go.RowKit
set_option maxRecDepth 100000
theorem notesTranslates_lifted (os:Os) (started:os.Started) (H:Type) (enc:TypeId×Value→H) :
  ReturnsInHanded {} Tryz.checked os 10 .any (fun w args=>(Rows.notesTranslatesSpec.pre enc Tryz.prog Tryz.f10 [] false w args∧laidMetH Tryz.prog zBk w)∧sizedMet enc Tryz.prog Tryz.f10 (OpenSpec.ofChange Rows.notesTranslatesSpec) false w args)
   (Rows.notesTranslatesSpec.post enc Tryz.prog Tryz.f10 false true false false):=by
 refine zEy (C:=Tryz.checked) (X:=fun w _=>laidMetH Tryz.prog zBk w) (fun _ _ _ hh h=>h.of_heap hh) own started (by kernel_rfl) Tryz.func10
  (ChangeSpec.witness_shaped (enc:=enc) (C:=Tryz.checked) (os:=os) (X:=fun w _=>laidMetH Tryz.prog zBk w) false (World.laidAll Tryz.prog os zBk) #[.agg #[.slice none 0 0,.int .i64 0,.int .i64 0],.string ⟨#[]⟩,.int .i64 0,.int .i64 0] 8 (World.laidAll_os _ _ _) (zWf os) (by kernel_rfl) (by kernel_rfl) (by kernel_rfl) (zRq os _)) ?_
 intro W base args ds gs before hval0 hW _ hsz hX hsh _;have hval:∀(j:Nat) t v,Tryz.f10.params[j]? = some t→args[j]? = some v→Value.okWide Tryz.prog W .any base t v:=hval0
 have hW':=hW;have hlt:=hW.lt;obtain ⟨p,q,hA0,hV,rfl,hfz,hnd⟩:=hW;have hA:DataW.TrodAll enc Tryz.prog W 0 (fun _=>true) true Tryz.f10.params.toList args.toList ds p:=hA0;rw [Tryz.params10] at hA hval;obtain ⟨v0,v1,v2,v3,d0,d1,d2,d3,p0,p1,p2,p3,rfl,rfl,rfl,h0,h1,h2,h3⟩:=trodAll_four hA;obtain ⟨rfl,rfl⟩:=trodVars_none hV;have hsz':(DataW.weightsEach Tryz.prog (Tryz.f10.params.toList++[]) ([d0,d1,d2,d3]++[])).all (·≤reachBytes)=true:=hsz;rw [Tryz.params10] at hsz';simp only [List.append_nil] at hsz' hlt hW';obtain ⟨A0,n0,c0,L0,re0,lo0,rfl,hF0,hc0,hre0,hlo0⟩:=zTB h0 (hval 0 24 v0 rfl rfl) (zRs hsz' (j:=0) rfl rfl);obtain ⟨s1,rfl,rfl,rfl,ws1⟩:=Go.ChangeMaps.open_string Tryz.underlying9 (hval 1 9 v1 rfl rfl) h1;rw [←zYe s1];obtain ⟨K2,rfl,rfl,rfl,wK2⟩:=open_int Tryz.underlying3 (hval 2 3 v2 rfl rfl) h2;obtain ⟨K3,rfl,rfl,rfl,wK3⟩:=open_int Tryz.underlying3 (hval 3 3 v3 rfl rfl) h3;refine (zET A0 n0 c0 L0 re0 lo0 s1.data.toList K2 K3 W hF0 hc0 (bounds_i64 wK2) (bounds_i64 wK3) (zWg hX hsh)).mono fun e W' ⟨he,hb⟩=>?_
 subst he;exact ⟨_,rfl,zJZ zTz hb rfl rfl rfl (by rw [Tryz.params10];intro t ht;simp at ht;(first | (rcases ht with rfl | rfl | rfl | rfl<;>first | exact zGY | exact zNA | exact zNz) | (rcases ht with rfl | rfl | rfl<;>first | exact zGY | exact zNA | exact zNz) | (rcases ht with rfl | rfl<;>first | exact zGY | exact zNA | exact zNz) | (rcases ht with rfl<;>first | exact zGY | exact zNA | exact zNz))) hW' (fun _ _ _=>trodAll_mk1 (shut_bool Tryz.underlying4 _)) (ok_one (by kernel_rfl) rfl (okWide_bool_mk Tryz.underlying4 _))⟩
end Go.Proofs.YtlmdfmnbcndhoaaGreatDoor
