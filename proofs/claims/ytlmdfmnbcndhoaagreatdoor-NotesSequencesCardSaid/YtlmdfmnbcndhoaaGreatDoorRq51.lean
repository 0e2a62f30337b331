/-
  The call from every heap. No condition.
-/
import Derived.Test.YtlmdfmnbcndhoaaGreatDoorRq49
import Derived.Test.YtlmdfmnbcndhoaaGreatDoorRq50
import Derived.SevenTiedAt
import Derived.Carry
import Derived.ChangeMaps5
namespace Go.Proofs.YtlmdfmnbcndhoaaGreatDoor
open Go.ChangeShapes Go.WideShapes Go.ChangeAt Go.WideElems Go.RowKit
set_option maxRecDepth 100000
theorem notesSequences_lifted (os:Os) (started:os.Started) (H:Type) (enc:TypeId×Value→H) :
  ReturnsInHanded {} Tryz.checked os 8 .any (fun w args=>(Rows.notesSequencesSpec.pre enc Tryz.prog Tryz.f8 [] false w args∧laidMetH Tryz.prog zBs w)∧sizedMet enc Tryz.prog Tryz.f8 (OpenSpec.ofChange Rows.notesSequencesSpec) false w args)
   (Rows.notesSequencesSpec.post enc Tryz.prog Tryz.f8 false true false false):=by
 refine zEB (C:=Tryz.checked) (X:=fun w _=>laidMetH Tryz.prog zBs w) (fun _ _ _ hh h=>h.of_heap hh) own started (by kernel_rfl) Tryz.func8
  (ChangeSpec.witness_shaped (enc:=enc) (C:=Tryz.checked) (os:=os) (X:=fun w _=>laidMetH Tryz.prog zBs w) false (World.laidAll Tryz.prog os zBs) #[.agg #[.slice none 0 0,.int .i64 0,.int .i64 0],.agg #[.int .i64 0,.slice none 0 0]] 8 (World.laidAll_os _ _ _) (zVG os) (by kernel_rfl) (by kernel_rfl) (by kernel_rfl) (zRn os _)) ?_
 intro W base args ds gs before hval0 hW _ hsz hX hsh _;have hval:∀(j:Nat) t v,Tryz.f8.params[j]? = some t→args[j]? = some v→Value.okWide Tryz.prog W .any base t v:=hval0
 have hW':=hW;have hlt:=hW.lt;obtain ⟨p,q,hA0,hV,rfl,hfz,hnd⟩:=hW;have hA:DataW.TrodAll enc Tryz.prog W 0 (fun _=>true) true Tryz.f8.params.toList args.toList ds p:=hA0;rw [Tryz.params8] at hA hval;obtain ⟨v0,v1,d0,d1,p0,p1,rfl,rfl,rfl,h0,h1⟩:=trodAll_two hA;obtain ⟨rfl,rfl⟩:=trodVars_none hV;have hsz':(DataW.weightsEach Tryz.prog (Tryz.f8.params.toList++[]) ([d0,d1]++[])).all (·≤reachBytes)=true:=hsz;rw [Tryz.params8] at hsz';simp only [List.append_nil] at hsz' hlt hW';obtain ⟨A0,n0,c0,L0,re0,lo0,rfl,hF0,hc0,hre0,hlo0⟩:=zTk h0 (hval 0 24 v0 rfl rfl) (zLm hsz' (j:=0) rfl rfl);obtain ⟨K1,A1,n1,c1,L1,rfl,hK1,hI1,hc1⟩:=zVI h1 (hval 1 55 v1 rfl rfl) (zLm hsz' (j:=1) rfl rfl);refine (zFR A0 n0 c0 L0 re0 lo0 K1 A1 n1 c1 L1 W hF0 hc0 hI1 hc1 (zVH hX hsh)).mono fun e W' ⟨he,hb⟩=>?_
 subst he;exact ⟨_,rfl,zKa zTi hb rfl rfl rfl (by rw [Tryz.params8];intro t ht;simp at ht;(first | (rcases ht with rfl | rfl<;>first | exact zRp | exact zNH) | (rcases ht with rfl<;>first | exact zRp | exact zNH))) hW' (fun _ _ _=>trodAll_mk1 (shut_bool Tryz.underlying4 _)) (ok_one (by kernel_rfl) rfl (okWide_bool_mk Tryz.underlying4 _))⟩
end Go.Proofs.YtlmdfmnbcndhoaaGreatDoor
