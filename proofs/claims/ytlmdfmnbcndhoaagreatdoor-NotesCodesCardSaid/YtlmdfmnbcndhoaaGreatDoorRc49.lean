/-
  The call from every heap. No condition.
-/
import Derived.Test.YtlmdfmnbcndhoaaGreatDoorRc48
import Derived.SevenTiedAt
import Derived.Carry
import Derived.ChangeMaps5
namespace Go.Proofs.YtlmdfmnbcndhoaaGreatDoor
open Go.ChangeShapes Go.WideShapes Go.ChangeAt Go.WideElems Go.RowKit
set_option maxRecDepth 100000
theorem notesCodes_lifted (os:Os) (started:os.Started) (H:Type) (enc:TypeId×Value→H) :
  ReturnsInHanded {} Tryz.checked os 9 .any (fun w args=>(Rows.notesCodesSpec.pre enc Tryz.prog Tryz.f9 [] false w args∧laidMetH Tryz.prog zBr w)∧sizedMet enc Tryz.prog Tryz.f9 (OpenSpec.ofChange Rows.notesCodesSpec) false w args)
   (Rows.notesCodesSpec.post enc Tryz.prog Tryz.f9 false true false false):=by
 refine zEz (C:=Tryz.checked) (X:=fun w _=>laidMetH Tryz.prog zBr w) (fun _ _ _ hh h=>h.of_heap hh) own started (by kernel_rfl) Tryz.func9
  (ChangeSpec.witness_shaped (enc:=enc) (C:=Tryz.checked) (os:=os) (X:=fun w _=>laidMetH Tryz.prog zBr w) false (World.laidAll Tryz.prog os zBr) #[.agg #[.slice none 0 0,.int .i64 0,.int .i64 0],.string ⟨#[]⟩] 8 (World.laidAll_os _ _ _) (zVG os) (by kernel_rfl) (by kernel_rfl) (by kernel_rfl) (zRl os _)) ?_
 intro W base args ds gs before hval0 hW _ hsz hX hsh _;have hval:∀(j:Nat) t v,Tryz.f9.params[j]? = some t→args[j]? = some v→Value.okWide Tryz.prog W .any base t v:=hval0
 have hW':=hW;have hlt:=hW.lt;obtain ⟨p,q,hA0,hV,rfl,hfz,hnd⟩:=hW;have hA:DataW.TrodAll enc Tryz.prog W 0 (fun _=>true) true Tryz.f9.params.toList args.toList ds p:=hA0;rw [Tryz.params9] at hA hval;obtain ⟨v0,v1,d0,d1,p0,p1,rfl,rfl,rfl,h0,h1⟩:=trodAll_two hA;obtain ⟨rfl,rfl⟩:=trodVars_none hV;have hsz':(DataW.weightsEach Tryz.prog (Tryz.f9.params.toList++[]) ([d0,d1]++[])).all (·≤reachBytes)=true:=hsz;rw [Tryz.params9] at hsz';simp only [List.append_nil] at hsz' hlt hW';obtain ⟨A0,n0,c0,L0,re0,lo0,rfl,hF0,hc0,hre0,hlo0⟩:=zTm h0 (hval 0 24 v0 rfl rfl) (zRn hsz' (j:=0) rfl rfl);obtain ⟨s1,rfl,rfl,rfl,ws1⟩:=Go.ChangeMaps.open_string Tryz.underlying9 (hval 1 9 v1 rfl rfl) h1;rw [←zXw s1];refine (zIs A0 n0 c0 L0 re0 lo0 s1.data.toList W hF0 hc0 (zVH hX hsh)).mono fun e W' ⟨he,hb⟩=>?_
 subst he;exact ⟨_,rfl,zJX zTk hb rfl rfl rfl (by rw [Tryz.params9];intro t ht;simp at ht;(first | (rcases ht with rfl | rfl<;>first | exact zNq | exact zTP) | (rcases ht with rfl<;>first | exact zNq | exact zTP))) hW' (fun _ _ _=>trodAll_mk1 (shut_bool Tryz.underlying4 _)) (ok_one (by kernel_rfl) rfl (okWide_bool_mk Tryz.underlying4 _))⟩
end Go.Proofs.YtlmdfmnbcndhoaaGreatDoor
