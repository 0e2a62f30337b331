/-
  Lemmas for NotesReads, part 45: contracts and plain facts. Conditions: those that each theorem names.
-/
import Derived.Test.YtlmdfmnbcndhoaaGreatDoorRd25
import Derived.Test.YtlmdfmnbcndhoaaGreatDoorRd40
import Derived.Test.YtlmdfmnbcndhoaaGreatDoorRd38
import Derived.Test.YtlmdfmnbcndhoaaGreatDoorRd04
namespace Go.Proofs.YtlmdfmnbcndhoaaGreatDoor
open Go.RowKit
theorem zWQ (S:List UInt8):fnA S≤126:=by
 unfold fnA zDh
 cases zFR S with
 | none=>simp
 | some f=>rw [←zJW];exact zDn
theorem zVQ (S:List UInt8):0≤zIQ S∧zIQ S≤999999999:=by
 unfold zIQ;by_cases h:S≠[]∧S.length≤9∧S.head?≠some 48∧S.all zJm=true
 ·have h2:zAr S=((zAr S).1,true):=by
   have:(zAr S).2=true:=by unfold zAr;rw [if_pos h]
   rw [←this]
  have:=zCl h2;omega
 ·rw [zDa h];simp
theorem zKt:SgOk s0:=⟨zBc (by decide) (by decide),zBc (by decide) (by decide),zBc (by decide) (by decide)⟩
theorem zVR (S:List UInt8):I64 (zIQ S):=by have:=zVQ S;exact ⟨by omega,by omega⟩
theorem zVS (S:List UInt8):I64 (fnA S:Int):=by have:=zWQ S;exact zBc (by omega) (by omega)
theorem zHs:I64 0:=zBc (by decide) (by decide)
theorem zPU (T:List (List UInt8)):SgOk (zFT T).1:=by
 unfold zFT;split
 ·exact zKt
 ·refine ⟨zVS _,?_,?_⟩
  ·show I64 (loF T).1;unfold loF;split
   ·exact zVR _
   ·exact zHs
  ·show I64 (piF T (loF T).2).1;unfold piF;split
   ·exact zVR _
   ·exact zHs
theorem zSM:∀(n:Nat) (P:List Sp) (T:List (List UInt8)) (Q:List Sp) (s:Sg),zGo n P T=some (Q,s)→(∀x∈P,SgOk x.s)→(∀x∈Q,SgOk x.s)∧SgOk s∧Q.length≤P.length+T.length
 | 0,P,T,Q,s,h,_=>by simp [zGo] at h
 | n+1,P,T,Q,s,h,hP=>by
  rw [zGo] at h;split at h
  ·injection h with h;injection h with h1 h2
   rw [←h1,←h2];exact ⟨hP,zKt,by omega⟩
  ·rename_i hT;split at h
   ·injection h with h;injection h with h1 h2
    rw [←h1,←h2];exact ⟨hP,zPU _,by omega⟩
   ·split at h
    ·cases h
    ·obtain ⟨a,b,c⟩:=zSM n _ _ Q s h (fun x hx=>by
      rcases List.mem_append.1 hx with hx | hx
      ·exact hP x hx
      ·rw [List.mem_singleton.1 hx];exact zPU _)
     refine ⟨a,b,?_⟩;have:0 < T.length:=List.length_pos_iff.2 hT;simp only [List.length_append,List.length_cons,List.length_nil,List.length_drop] at c;omega
theorem zVT {k:Int} (h1:0≤k) (h2:k≤8):I64 k:=zBc h1 (by omega)
theorem zJi {k f:Int} {s:Sg} {b:Bool} (h1:0≤k) (h2:k≤8) (hf:I64 f) (hs:SgOk s) {P:List Sp} (hP:∀x∈P,SgOk x.s):OgOk ⟨k,f,s,P,b⟩∧∀x∈(⟨k,f,s,P,b⟩:Og).path,SgOk x.s:=⟨⟨zVT h1 h2,hf,hs⟩,hP⟩
theorem zEb:∀x∈([]:List Sp),SgOk x.s:=fun x hx=>by simp at hx
theorem zSN {f:Int} (h:I64 f):SgOk ⟨f,0,false,0⟩:=⟨h,zHs,zHs⟩
def zPV (o:Og) (m:Nat):Prop:=(OgOk o∧∀x∈o.path,SgOk x.s)∧o.path.length≤m
theorem zVU (f:Int) (hf:I64 f) (T:List (List UInt8)):zPV (zNM f T) T.length:=by
 unfold zNM
 cases h:zGo (T.length+1) [] T with
 | none=>exact ⟨zMY,by simp [o0]⟩
 | some R =>
  obtain ⟨P,s⟩:=R;obtain ⟨a,b,c⟩:=zSM _ _ _ _ _ h zEb;exact ⟨zJi (by omega) (by omega) hf b a,by simpa using c⟩
theorem zUy (T:List (List UInt8)):zPV (zIR T) T.length:=by
 have hf:=zVS (xa T 1);have h3:I64 (if 3 < T.length then (fnA (xa T 3):Int) else 0):=by split;exact zVS _;exact zHs
 have h5:SgOk (if 3 < T.length then (zFT (T.drop 3)).1 else s0):=by split;exact zPU _;exact zKt
 unfold zIR;split;exact ⟨zMY,by simp [o0]⟩
 split;exact ⟨zJi (by omega) (by omega) hf zKt zEb,by simp⟩
 split;exact ⟨zJi (by omega) (by omega) hf zKt zEb,by simp⟩
 split;exact ⟨zJi (by omega) (by omega) hf zKt zEb,by simp⟩
 split;exact ⟨zJi (by omega) (by omega) hf zKt zEb,by simp⟩
 split;exact ⟨zJi (by omega) (by omega) hf h5 zEb,by simp⟩
 split
 ·refine ⟨zJi (by omega) (by omega) hf (zSN ?_) zEb,by simp⟩;split
  ·exact zVS _
  ·exact zHs
 split
 ·refine ⟨zJi (by omega) (by omega) hf (zSN ?_) zEb,by simp⟩;split
  ·exact zVS _
  ·exact zHs
 split
 ·have:=zVU _ hf (T.drop 2);exact ⟨this.1,by have:=this.2;simp only [List.length_drop] at this;omega⟩
 ·exact ⟨zJi (by omega) (by omega) hf zKt zEb,by simp⟩
theorem zVV (S:List UInt8):zPV (zKy S) (S.length+1):=by
 have:=zUy (zAV 32 S);have h2:=zBr S;exact ⟨this.1,by have:=this.2;unfold zKy;omega⟩
theorem zND (s:Sg) (k:Nat) (w:World) :
  Calls Tryz.prog 102 #[sgV s,.int .i64 (k:Int)] w fun e w'=>e=.returned (.bool (zAn k s))∧Below w.heap.size w w':=by
 have hb0:Below w.heap.size w (w.alloc (.cells #[.int .i64 s.f,.int .i64 s.l,.bool s.far,.int .i64 s.pc] 29)):=(Below.refl _ _).alloc (Nat.le_refl _) _;have HB:=qH hb0;have hr:=qH (show zAn k s=(decide (1≤s.f)&&decide (s.f≤(k:Int))&&decide (0≤s.l)&&decide (s.l≤999999999)&&decide (0≤s.pc)&&decide (s.pc≤999999999)) from rfl);clear hb0;go_enter Tryz.func102,Tryz.ntmps102;go_wp2_with fail
 all_goals
  go_ret;refine ⟨zBS ?_,HB.out⟩;rw [hr.out];simp
  try omega
theorem zJj {k:Nat} {s:Sg} {b:Bool} (h:zAn k s=b) (w:World) :
  Calls Tryz.prog 102 #[sgV s,.int .i64 (k:Int)] w fun e w'=>e=.returned (.bool b)∧Below w.heap.size w w':=by
 subst h;exact zND s k w
theorem zNE {k:Nat} {o:Og} (h1:1≤o.f) (h2:o.f≤(k:Int)) (hp:o.path=[]):zAi k o=zBg k o:=by
 unfold zAi;simp [h1,h2,hp]
theorem zNF {k:Nat} {o:Og} (h:o.kind≠3) (hp:o.path≠[]):zAi k o=false:=zGD fun e=>by
 rcases e.2.2 with e | e
 ·exact h e
 ·exact hp e
theorem zPW {k:Nat} {f:Int}:zAn k ⟨f,0,false,0⟩=(decide (1≤f)&&decide (f≤(k:Int))):=by unfold zAn;simp
set_option maxRecDepth 100000 in
set_option maxHeartbeats 6400000 in
theorem zNG (k:Nat) (o:Og) (B:Option Addr) (m d:Nat) (w:World) (hO:OpIn w o B m d) :
  Calls Tryz.prog 55 #[opV o B m d,.int .i64 (k:Int)] w fun e w'=>e=.returned (.bool (zAi k o))∧Below w.heap.size w w':=by
 have hlen:=hO.path.len;have hle:=hO.path.le;obtain ⟨kind,f,⟨ff,fl,far,fpc⟩,path,over⟩:=o;simp only at hlen hle ⊢;have hP:Stps w B m path:=hO.path;have hb0:Below w.heap.size w (w.alloc (.cells #[.int .i64 kind,.int .i64 f,.int .i64 ff,.int .i64 fl,.bool far,.int .i64 fpc,.slice B m d,.bool over] 32)):=(Below.refl _ _).alloc (Nat.le_refl _) _;have hk0:Blk (w.alloc (.cells #[.int .i64 kind,.int .i64 f,.int .i64 ff,.int .i64 fl,.bool far,.int .i64 fpc,.slice B m d,.bool over] 32)) w.heap.size 32 #[.int .i64 kind,.int .i64 f,.int .i64 ff,.int .i64 fl,.bool far,.int .i64 fpc,.slice B m d,.bool over]:=Blk.new _ _ _;have HB0:=qH hb0;have HLEN:=qH hlen;have bs0:=zJS;have bs1:=zOM;obtain ⟨q,hq⟩:∃q,sgB ⟨ff,fl,far,fpc⟩ s0=q:=⟨_,rfl⟩
 have hqs:=fun w=>zUN ⟨ff,fl,far,fpc⟩ s0 w
 simp only [hq] at hqs;rw [show sgV s0=.agg #[.int .i64 0,.int .i64 0,.bool false,.int .i64 0] from rfl] at hqs;have HQ:=qH hq;clear hO hq hb0 hlen;by_cases hf:1≤f∧f≤(k:Int)
 ·obtain ⟨h1,h2⟩:=hf;have i1:¬f < 1:=by omega
  have i2:¬(k:Int) < f:=by omega
  have HF:=qH (And.intro h1 h2);clear h1 h2;by_cases h3:kind=3
  ·subst h3;obtain ⟨b,hbd⟩:∃b,zAn k ⟨ff,fl,far,fpc⟩=b:=⟨_,rfl⟩
   have HBD:=qH hbd;clear hbd;go_enter Tryz.func55,Tryz.ntmps55;go_wp2_with fail
   generalize w.alloc (.cells #[.int .i64 3,.int .i64 f,.int .i64 ff,.int .i64 fl,.bool far,.int .i64 fpc,.slice B m d,.bool over] 32)=Y at HB0 hk0 ⊢;go_loopw [6] (fun v wr=>∃i:Nat,i≤m∧v=.int .i64 i∧Below Y.heap.size Y wr∧Hid (∀j:Nat,j < i→zAn k (pa path j).s=true)) (fun v _=>m-(intOf v).toNat)
   case atStart=>exact ⟨0,Nat.zero_le _,rfl,Below.refl _ _,qH (fun j hj=>by omega)⟩
   case round =>
    obtain ⟨i,hi,rfl,hbr,HS⟩:=hrel;have hkr:=hk0.below hbr hk0.lt;have hbw:=zAa HB0.out hbr HB0.out.size;have c2:wr.cell? ⟨w.heap.size,2,none⟩=some (.int .i64 ff):=(hkr.cell 2).trans rfl;have c3:wr.cell? ⟨w.heap.size,3,none⟩=some (.int .i64 fl):=(hkr.cell 3).trans rfl;have c4:wr.cell? ⟨w.heap.size,4,none⟩=some (.bool far):=(hkr.cell 4).trans rfl;have c5:wr.cell? ⟨w.heap.size,5,none⟩=some (.int .i64 fpc):=(hkr.cell 5).trans rfl;have c6:wr.cell? ⟨w.heap.size,6,none⟩=some (.slice B m d):=(hkr.cell 6).trans rfl;by_cases hlt:i < m
    ·obtain ⟨g,p,rfl,hg,⟨x0,x1,x2,x3,x4⟩,_⟩:=(hP.below hbw).at_ hlt;have j0:(0:Int)≤(i:Int):=by omega
     have j1:(i:Int) < (m:Int):=by omega
     obtain ⟨bx,hbx⟩:∃b,zAn k (pa path i).s=b:=⟨_,rfl⟩
     have HBX:=qH hbx;clear hbx;generalize hpx:pa path i=x at x0 x1 x2 x3 x4 HBX;have HPX:=qH hpx;clear hpx;go_wp2_with fail
     refine (zJj HBX.out _).mono ?_;rintro e wb ⟨rfl,hbb⟩;have hb2:=zAa hbr hbb hbr.size;clear x0 x1 x2 x3 x4 c2 c3 c4 c5 c6 hbr hbb hg
     cases bx with
     | true =>
      have HS1:=qH (show ∀j:Nat,j < i+1→zAn k (pa path j).s=true from fun j hj=>by
       rcases Nat.decEq j i with e | e
       ·exact HS.out j (by omega)
       ·subst e;rw [HPX.out];exact HBX.out)
      clear HS HBX;go_wp2_with fail
      go_roundw
      case rel=>exact ⟨i+1,by omega,by go_num,hb2,HS1⟩
      case measure=>simp [intOf];omega
     | false =>
      have HR:=qH (show zAi k ⟨3,f,⟨ff,fl,far,fpc⟩,path,over⟩=false from zGE (i:=i) (by rw [HLEN.out];exact hlt) (by rw [HPX.out];exact HBX.out));clear HS HBX;go_wp2_with fail
      go_ret;exact ⟨zBS (by rw [HR.out]),zAa HB0.out hb2 HB0.out.size⟩
    ·have j1:¬(i:Int) < (m:Int):=by omega
     have HR:=qH (show zAi k ⟨3,f,⟨ff,fl,far,fpc⟩,path,over⟩=(b&&!over) by
      rw [zEf ⟨HF.out.1,HF.out.2,.inl rfl⟩ (fun j hj=>HS.out j (by rw [HLEN.out] at hj;omega))]
      unfold zBg
      rw [if_neg (by simp),if_neg (by simp),if_pos rfl]
      simp only
      rw [HBD.out]
      cases b<;>cases over<;>rfl)
     have c7:wr.cell? ⟨w.heap.size,7,none⟩=some (.bool over):=(hkr.cell 7).trans rfl;clear HS;go_wp2_with fail
     refine (zJj HBD.out _).mono ?_;rintro e wb ⟨rfl,hbb⟩;have hb2:=zAa hbw hbb hbw.size;have c7:wb.cell? ⟨w.heap.size,7,none⟩=some (.bool over):=((hkr.below hbb hkr.lt).cell 7).trans rfl;clear c2 c3 c4 c5 c6
     cases b with
     | true =>
      go_wp2_with fail
      go_ret;exact ⟨zBS (by rw [HR.out];simp),hb2⟩
     | false =>
      go_wp2_with fail
      go_ret;exact ⟨zBS (by rw [HR.out];simp),hb2⟩
  ·obtain ⟨z,hz⟩:∃z,((m:Int)==0)=z:=⟨_,rfl⟩
   have HZ:=qH (show z=decide (path=[]) by
    rw [←hz]
    cases path with
    | nil=>rw [show m=0 from HLEN.out.symm];rfl
    | cons x P=>rw [←HLEN.out];simp;omega)
   have HR:=qH (show zAi k ⟨kind,f,⟨ff,fl,far,fpc⟩,path,over⟩=(z&&zBg k ⟨kind,f,⟨ff,fl,far,fpc⟩,path,over⟩) by
    rw [HZ.out]
    by_cases hp:path=[]
    ·rw [zNE HF.out.1 HF.out.2 hp];simp [hp]
    ·rw [zNF h3 hp];simp [hp])
   clear HZ HLEN hP hle;by_cases h1:kind=1∨kind=2∨kind=8
   ·have HE:=qH (show zBg k ⟨kind,f,⟨ff,fl,far,fpc⟩,path,over⟩=(!over&&q) by
     unfold zBg
     rw [if_pos h1]
     simp only
     rw [HQ.out])
    rcases h1 with rfl | rfl | rfl
    all_goals
     cases q
     ·go_enter Tryz.func55,Tryz.ntmps55;go_wp2_with fail
      go_ret;exact ⟨zBS (by rw [HR.out,HE.out];simp),HB0.out⟩
     ·cases z
      ·go_enter Tryz.func55,Tryz.ntmps55;go_wp2_with fail
       go_ret;exact ⟨zBS (by rw [HR.out];rfl),HB0.out⟩
      ·go_enter Tryz.func55,Tryz.ntmps55;go_wp2_with fail
       go_ret;exact ⟨zBS (by rw [HR.out,HE.out];simp),HB0.out⟩
   by_cases h4:kind=4
   ·subst h4
    have HE:=qH (show zBg k ⟨4,f,⟨ff,fl,far,fpc⟩,path,over⟩=q by
     unfold zBg
     rw [if_neg (by simp),if_pos rfl]
     simp only
     rw [HQ.out])
    cases q
    ·go_enter Tryz.func55,Tryz.ntmps55;go_wp2_with fail
     go_ret;exact ⟨zBS (by rw [HR.out,HE.out];simp),HB0.out⟩
    ·go_enter Tryz.func55,Tryz.ntmps55;go_wp2_with fail
     go_ret;exact ⟨zBS (by rw [HR.out,HE.out,←hz];simp),HB0.out⟩
   by_cases h5:kind=5
   ·subst h5;obtain ⟨b,hbd⟩:∃b,zAn k ⟨ff,fl,far,fpc⟩=b:=⟨_,rfl⟩
    have HBD:=qH hbd;clear hbd
    have HE:=qH (show zBg k ⟨5,f,⟨ff,fl,far,fpc⟩,path,over⟩=b by
     unfold zBg
     rw [if_neg (by simp),if_neg (by simp),if_neg (by simp),if_pos rfl]
     exact HBD.out)
    go_enter Tryz.func55,Tryz.ntmps55;go_wp2_with fail
    refine (zJj HBD.out _).mono ?_;rintro e wb ⟨rfl,hbb⟩;have hb2:=zAa HB0.out hbb HB0.out.size;have hkb:=hk0.below hbb hk0.lt;have c6:wb.cell? ⟨w.heap.size,6,none⟩=some (.slice B m d):=(hkb.cell 6).trans rfl
    cases b
    ·go_wp2_with fail
     go_ret;exact ⟨zBS (by rw [HR.out,HE.out];simp),hb2⟩
    ·go_wp2_with fail
     go_ret;exact ⟨zBS (by rw [HR.out,HE.out,←hz];simp),hb2⟩
   by_cases h6:kind=6∨kind=7
   ·obtain ⟨q2,hq2⟩:∃q,sgB ⟨ff,fl,far,fpc⟩ ⟨ff,0,false,0⟩=q:=⟨_,rfl⟩
    have hqs2:=fun w=>zUN ⟨ff,fl,far,fpc⟩ ⟨ff,0,false,0⟩ w
    simp only [hq2] at hqs2
    have HE:=qH (show zBg k ⟨kind,f,⟨ff,fl,far,fpc⟩,path,over⟩=(decide (1≤ff)&&decide (ff≤(k:Int))&&q2) by
     unfold zBg
     rw [if_neg (by omega),if_neg (by omega),if_neg (by omega),if_neg (by omega),if_pos h6]
     simp only
     rw [hq2]
     cases q2 with
     | false=>simp
     | true=>rw [zCx.1 hq2,zPW])
    clear hq2 HQ;by_cases a1:1≤ff
    ·by_cases a2:ff≤(k:Int)
     ·have HE2:=qH (show zBg k ⟨kind,f,⟨ff,fl,far,fpc⟩,path,over⟩=q2 by rw [HE.out];simp [a1,a2]);rcases h6 with rfl | rfl
      all_goals
       cases q2
       ·go_enter Tryz.func55,Tryz.ntmps55;go_wp2_with fail
        go_ret;exact ⟨zBS (by rw [HR.out,HE2.out];simp),HB0.out⟩
       ·go_enter Tryz.func55,Tryz.ntmps55;go_wp2_with fail
        go_ret;exact ⟨zBS (by rw [HR.out,HE2.out,←hz];simp),HB0.out⟩
     ·have HE2:=qH (show zBg k ⟨kind,f,⟨ff,fl,far,fpc⟩,path,over⟩=false by rw [HE.out];simp [a2]);rcases h6 with rfl | rfl
      all_goals
       go_enter Tryz.func55,Tryz.ntmps55;go_wp2_with fail
       go_ret;exact ⟨zBS (by rw [HR.out,HE2.out];simp),HB0.out⟩
    ·have HE2:=qH (show zBg k ⟨kind,f,⟨ff,fl,far,fpc⟩,path,over⟩=false by rw [HE.out];simp [a1]);rcases h6 with rfl | rfl
     all_goals
      go_enter Tryz.func55,Tryz.ntmps55;go_wp2_with fail
      go_ret;exact ⟨zBS (by rw [HR.out,HE2.out];simp),HB0.out⟩
   have HE:=qH (show zBg k ⟨kind,f,⟨ff,fl,far,fpc⟩,path,over⟩=false by
    unfold zBg
    rw [if_neg h1,if_neg h4,if_neg h3,if_neg h5,if_neg h6])
   have k1:(kind==1)=false:=by simp;omega
   have k2:(kind==2)=false:=by simp;omega
   have k8:(kind==8)=false:=by simp;omega
   have k4:(kind==4)=false:=by simp;omega
   have k3:(kind==3)=false:=by simp;omega
   have k5:(kind==5)=false:=by simp;omega
   have k6:(kind==6)=false:=by simp;omega
   have k7:(kind==7)=false:=by simp;omega
   clear h1 h3 h4 h5 h6;go_enter Tryz.func55,Tryz.ntmps55;go_wp2_with fail
   go_ret;exact ⟨zBS (by rw [HR.out,HE.out];simp),HB0.out⟩
 ·have HR:=qH (show zAi k ⟨kind,f,⟨ff,fl,far,fpc⟩,path,over⟩=false from zGD fun e=>hf ⟨e.1,e.2.1⟩);by_cases h1:f < 1
  ·go_enter Tryz.func55,Tryz.ntmps55;go_wp2_with fail
   go_ret;exact ⟨zBS (by rw [HR.out]),HB0.out⟩
  ·have h2:(k:Int) < f:=by omega
   go_enter Tryz.func55,Tryz.ntmps55;go_wp2_with fail
   go_ret;exact ⟨zBS (by rw [HR.out]),HB0.out⟩
theorem zPX {A:Option Addr} {n c:Nat} {L:List Fg} {re lo:Int} {b:Bool} (h:frB L re lo=b) (w:World) (hA:Fgs w A n L) :
  Calls Tryz.prog 18 #[frV A n c re lo] w fun e w'=>e=.returned (.bool b)∧Below w.heap.size w w':=by
 subst h;exact zMN A n c L re lo w hA
theorem zRX {k:Nat} {o:Og} {b:Bool} (h:zAi k o=b) (B:Option Addr) (m d:Nat) (w:World) (hO:OpIn w o B m d) :
  Calls Tryz.prog 55 #[opV o B m d,.int .i64 (k:Int)] w fun e w'=>e=.returned (.bool b)∧Below w.heap.size w w':=by
 subst h;exact zNG k o B m d w hO
def TOk (L:List Fg):Prop:=∀i,i < L.length→zAm (fa L i)=true
theorem TOk.len {L:List Fg} (h:TOk L) {f:Int} (h1:1≤f) (h2:f≤(L.length:Int)):(nmF L f).length≤43:=zJz (zGi (h (f-1).toNat (by omega)))
set_option maxHeartbeats 800000 in
theorem zPY (A:Option Addr) (n c:Nat) (L:List Fg) (re lo:Int) (f:Int) (w:World) (hA:Fgs w A n L) (hv:TOk L) (h1:1≤f) (h2:f≤(n:Int)) :
  Calls Tryz.prog 63 #[frV A n c re lo,.int .i64 f] w fun e w'=>e=.returned (.string (bA (nmF L f)))∧Below w.heap.size w w':=by
 have hle:=hA.le;have hb0:Below w.heap.size w (w.alloc (.cells #[.slice A n c,.int .i64 re,.int .i64 lo] 24)):=(Below.refl _ _).alloc (Nat.le_refl _) _;have hA0:=hA.alloc (.cells #[.slice A n c,.int .i64 re,.int .i64 lo] 24);obtain ⟨i,hi⟩:∃i:Nat,f=(i:Int)+1:=⟨(f-1).toNat,by omega⟩
 have hin:i < n:=by omega
 obtain ⟨g,o,rfl,hg,⟨x0,x1,x2⟩,_⟩:=hA0.at_ hin;have hth:=hv i (by rw [hA.len];exact hin);have hnm:nmF L f=zAh (fa L i):=by unfold nmF;rw [hi,show ((i:Int)+1-1).toNat=i by omega]
 rw [hnm];have q0:IntKind.i64.wrap (f-1)=(i:Int):=by rw [hi,show (i:Int)+1-1=(i:Int) by omega];exact IntWalk.i64_in _ (by omega)
 have q1:wrap64 (f-1)=(i:Int):=by unfold wrap64;omega
 have q2:f-1=(i:Int):=by omega
 have j0:(0:Int)≤(i:Int):=by omega
 have j1:(i:Int) < (n:Int):=by omega
 generalize fa L i=x at x0 x1 x2 hth ⊢;have HN:=qH (zJB x hth (w.alloc (.cells #[.slice (some ⟨g,o,none⟩) n c,.int .i64 re,.int .i64 lo] 24)));clear hi hnm hth hA0 hA hin h1 h2;go_enter Tryz.func63,Tryz.ntmps63;go_wp2_with fail
 refine HN.out.mono ?_;rintro e w2 ⟨rfl,hb2⟩;have hb3:=zAa hb0 hb2 hb0.size;go_wp2_with fail
 go_ret;exact ⟨rfl,hb3⟩
theorem zGx {A:Option Addr} {n:Nat} {c:Nat} {L:List Fg} {re lo:Int} {f:Int} {S:List UInt8} (h:nmF L f=S) (w:World) (hA:Fgs w A n L) (hv:TOk L) (h1:1≤f) (h2:f≤(n:Int)) :
  Calls Tryz.prog 63 #[frV A n c re lo,.int .i64 f] w fun e w'=>e=.returned (.string (bA S))∧Below w.heap.size w w':=by
 subst h;exact zPY A n c L re lo f w hA hv h1 h2
theorem zLF (b:Bool) (Y Z:ByteArray) (w:World):Calls Tryz.prog 64 #[.bool b,.string Y,.string Z] w fun e w'=>e=.returned (.string (if b then Y else Z))∧w'=w:=by
 cases b
 all_goals
  go_enter Tryz.func64,Tryz.ntmps64;go_wp2_with fail
  go_ret;exact ⟨rfl,rfl⟩
theorem zHt {b:Bool} {Y Z:ByteArray} {S:List UInt8} (h:(if b then Y else Z)=bA S) (w:World):Calls Tryz.prog 64 #[.bool b,.string Y,.string Z] w fun e w'=>e=.returned (.string (bA S))∧w'=w:=by
 have:=zLF b Y Z w;rw [h] at this;exact this
theorem zKu {x:Int} {S:List UInt8} (h:Lib.itoa x=S) (hx:I64 x) (w:World):Calls Tryz.prog 78 #[.int .i64 x] w fun e w'=>e=.returned (.string (bA S))∧Below w.heap.size w w':=by
 subst h;exact zBf x hx w
set_option maxHeartbeats 6400000 in
set_option maxRecDepth 100000 in
theorem zPZ (A:Option Addr) (n c:Nat) (L:List Fg) (re lo:Int) (s:Sg) (w:World) (hA:Fgs w A n L) (hv:TOk L) (hs:zAn n s=true) :
  Calls Tryz.prog 65 #[frV A n c re lo,sgV s] w fun e w'=>e=.returned (.string (bA (zAI L s)))∧Below w.heap.size w w':=by
 obtain ⟨h1,h2,h3,h4,h5,h6⟩:=zAk.1 hs;have hlN:=hv.len h1 (by rw [hA.len];exact h2);have hiL:=zAL (x:=s.l) ⟨by omega,by omega⟩;have hiP:=zAL (x:=s.pc) ⟨by omega,by omega⟩;obtain ⟨f,l,far,pc⟩:=s;simp only at h1 h2 h3 h4 h5 h6 hlN hiL hiP ⊢;have hf:zAI L ⟨f,l,far,pc⟩=nmF L f++([32]++zBu far)++(if l=0 then [] else [32,108,111,111,112,32]++Lib.itoa l)++(if pc=0 then [] else [32,112,105,101,99,101,32]++Lib.itoa pc):=by unfold zAI;simp
 have hlS:([32]++zBu far).length≤5:=by cases far<;>decide
 obtain ⟨NM,hNM⟩:∃NM,nmF L f=NM:=⟨_,rfl⟩
 obtain ⟨SD,hSD⟩:∃SD,[32]++zBu far=SD:=⟨_,rfl⟩
 have hEI:(if far then (⟨#[32,102,97,114]⟩:ByteArray) else ⟨#[32,110,101,97,114]⟩)=bA SD:=by rw [←hSD];cases far<;>rfl
 obtain ⟨IL,hIL⟩:∃IL,Lib.itoa l=IL:=⟨_,rfl⟩
 obtain ⟨IP,hIP⟩:∃IP,Lib.itoa pc=IP:=⟨_,rfl⟩
 rw [hNM,hSD,hIL,hIP] at hf;rw [hNM] at hlN;rw [hSD] at hlS;rw [hIL] at hiL;rw [hIP] at hiP;obtain ⟨T1,hT1⟩:∃T,NM++SD=T:=⟨_,rfl⟩
 obtain ⟨Q1,hQ1⟩:∃T,T1++[32,108,111,111,112,32]=T:=⟨_,rfl⟩
 obtain ⟨T2,hT2⟩:∃T,Q1++IL=T:=⟨_,rfl⟩
 obtain ⟨Q2,hQ2⟩:∃T,T1++[32,112,105,101,99,101,32]=T:=⟨_,rfl⟩
 obtain ⟨T3,hT3⟩:∃T,Q2++IP=T:=⟨_,rfl⟩
 obtain ⟨Q3,hQ3⟩:∃T,T2++[32,112,105,101,99,101,32]=T:=⟨_,rfl⟩
 obtain ⟨T4,hT4⟩:∃T,Q3++IP=T:=⟨_,rfl⟩
 have l1:T1.length≤48:=by rw [←hT1];simp;omega
 have l2:Q1.length≤54:=by rw [←hQ1];simp;omega
 have l3:T2.length≤75:=by rw [←hT2];simp;omega
 have l4:Q2.length≤55:=by rw [←hQ2];simp;omega
 have l5:Q3.length≤82:=by rw [←hQ3];simp;omega
 have s1:=zAq hT1 _ _ rfl rfl (by omega) (by omega);have s2:=zAq hQ1 _ ⟨#[32,108,111,111,112,32]⟩ rfl rfl (by omega) (by simp);have s3:=zAq hT2 _ _ rfl rfl (by omega) (by omega);have s4:=zAq hQ2 _ ⟨#[32,112,105,101,99,101,32]⟩ rfl rfl (by omega) (by simp);have s5:=zAq hT3 _ _ rfl rfl (by omega) (by omega);have s6:=zAq hQ3 _ ⟨#[32,112,105,101,99,101,32]⟩ rfl rfl (by omega) (by simp);have s7:=zAq hT4 _ _ rfl rfl (by omega) (by omega)
 have HF:=qH (show zAI L ⟨f,l,far,pc⟩=(if l=0 then (if pc=0 then T1 else T3) else (if pc=0 then T2 else T4)) by
  rw [hf,←hT4,←hT3,←hQ3,←hQ2,←hT2,←hQ1,←hT1]
  split<;>split<;>simp)
 clear hf hT1 hT2 hT3 hT4 hQ1 hQ2 hQ3 l1 l2 l3 l4 l5;have HNM:=qH hNM;have HEI:=qH hEI;have HIL:=qH (fun w=>zKu hIL ⟨by omega,by omega⟩ w);have HIP:=qH (fun w=>zKu hIP ⟨by omega,by omega⟩ w);have H12:=qH (show 1≤f∧f≤(n:Int) from ⟨h1,h2⟩);have HA:=qH hA;have HB:=qH (Below.refl w.heap.size w);clear hNM hSD hIL hIP hlN hlS hiL hiP h1 h2 h3 h4 h5 h6 hs hEI hA;go_enter Tryz.func65,Tryz.ntmps65;have hba:Below w.heap.size w ((w.alloc (.cells #[.slice A n c,.int .i64 re,.int .i64 lo] 24)).alloc (.cells #[.int .i64 f,.int .i64 l,.bool far,.int .i64 pc] 29)):=((Below.refl _ _).alloc (Nat.le_refl _) _).alloc (by simp) _;replace HA:=qH (HA.out.below hba);replace HB:=qH (zAa HB.out hba HB.out.size);have kf:=(Blk.new w 24 #[.slice A n c,.int .i64 re,.int .i64 lo]).alloc (.cells #[.int .i64 f,.int .i64 l,.bool far,.int .i64 pc] 29);have ks:Blk ((w.alloc (.cells #[.slice A n c,.int .i64 re,.int .i64 lo] 24)).alloc (.cells #[.int .i64 f,.int .i64 l,.bool far,.int .i64 pc] 29)) (w.heap.size+1) 29 #[.int .i64 f,.int .i64 l,.bool far,.int .i64 pc]:=heap_alloc2_new w _ _;clear hba;go_upto_region 1 with fail
 generalize (w.alloc (.cells #[.slice A n c,.int .i64 re,.int .i64 lo] 24)).alloc (.cells #[.int .i64 f,.int .i64 l,.bool far,.int .i64 pc] 29)=X at HA HB kf ks ⊢;go_cut [5] (fun v wv=>v=.string (bA T1)∧∃V:World,V=wv∧Below X.heap.size X V)
 case first =>
  have k0:∀wx,Below X.heap.size X wx→(Below X.heap.size X wx∧wx.cell? ⟨w.heap.size,0,none⟩=some (.slice A n c)∧wx.cell? ⟨w.heap.size,1,none⟩=some (.int .i64 re)∧wx.cell? ⟨w.heap.size,2,none⟩=some (.int .i64 lo)∧wx.cell? ⟨w.heap.size+1,0,none⟩=some (.int .i64 f)∧wx.cell? ⟨w.heap.size+1,2,none⟩=some (.bool far)):=fun wx h=>⟨h,((kf.below h kf.lt).cell 0).trans rfl,((kf.below h kf.lt).cell 1).trans rfl,((kf.below h kf.lt).cell 2).trans rfl,((ks.below h ks.lt).cell 0).trans rfl,((ks.below h ks.lt).cell 2).trans rfl⟩
  have KP:=qH k0;clear k0;have g0:=(KP.out X (Below.refl _ _)).2.1;have g1:=(KP.out X (Below.refl _ _)).2.2.1;have g2:=(KP.out X (Below.refl _ _)).2.2.2.1;have g3:=(KP.out X (Below.refl _ _)).2.2.2.2.1;have g4:=(KP.out X (Below.refl _ _)).2.2.2.2.2
  first
   | go_region_held3 (fun wx=>Below X.heap.size X wx∧wx.cell? ⟨w.heap.size,0,none⟩=some (.slice A n c)∧wx.cell? ⟨w.heap.size,1,none⟩=some (.int .i64 re)∧wx.cell? ⟨w.heap.size,2,none⟩=some (.int .i64 lo)∧wx.cell? ⟨w.heap.size+1,0,none⟩=some (.int .i64 f)∧wx.cell? ⟨w.heap.size+1,2,none⟩=some (.bool far)) (first | assumption | exact KP.out _ (Below.refl _ _).drew | exact KP.out _ (zAa (And.left (by assumption)) (by assumption) (Below.size (And.left (by assumption)))))
     (first
      | (go_at_call 63;refine (zGx HNM.out _ (HA.out.below (And.left (by assumption))) hv H12.out.1 H12.out.2).mono ?_;rintro e wa ⟨rfl,hba⟩)
      | (go_at_call 64;refine (zHt HEI.out _).mono ?_;rintro e wc ⟨rfl,rfl⟩))
   | fail
  all_goals
   have hbf:=And.left (show Below X.heap.size X _∧_ by assumption);clear g0 g1 g2 g3 g4;go_wp2_with fail
   go_meet
   case rel=>exact ⟨rfl,_,rfl,hbf⟩
 case rest =>
  obtain ⟨rfl,V,hV,hb⟩:=hcut;subst hV;replace HA:=qH (HA.out.below hb);replace HB:=qH (zAa HB.out hb HB.out.size);replace kf:=kf.below hb kf.lt;replace ks:=ks.below hb ks.lt;clear hb;by_cases ql:l=0
  ·have q0:(l != 0)=false:=by simp [ql]
   by_cases qp:pc=0
   ·have q1:(pc != 0)=false:=by simp [qp]
    have HR:=qH (show bA T1=bA (zAI L ⟨f,l,far,pc⟩) by rw [HF.out,if_pos ql,if_pos qp]);clear ql qp;have c1:V.cell? ⟨w.heap.size+1,1,none⟩=some (.int .i64 l):=(ks.cell 1).trans rfl;have c3:V.cell? ⟨w.heap.size+1,3,none⟩=some (.int .i64 pc):=(ks.cell 3).trans rfl;go_wp2_with fail
    go_ret;exact ⟨zDj HR.out,HB.out⟩
   ·have q1:(pc != 0)=true:=by simpa using qp
    have HR:=qH (show bA T3=bA (zAI L ⟨f,l,far,pc⟩) by rw [HF.out,if_pos ql,if_neg qp]);clear ql qp;have c1:V.cell? ⟨w.heap.size+1,1,none⟩=some (.int .i64 l):=(ks.cell 1).trans rfl;have c3:V.cell? ⟨w.heap.size+1,3,none⟩=some (.int .i64 pc):=(ks.cell 3).trans rfl;go_wp2_with fail
    refine (HIP.out _).mono ?_;rintro e V2 ⟨rfl,hb⟩;clear c1 c3;replace HA:=qH (HA.out.below hb);replace HB:=qH (zAa HB.out hb HB.out.size);replace kf:=kf.below hb kf.lt;replace ks:=ks.below hb ks.lt;clear hb;go_wp2_with fail
    go_ret;exact ⟨zDj HR.out,HB.out⟩
  ·have q0:(l != 0)=true:=by simpa using ql
   by_cases qp:pc=0
   ·have q1:(pc != 0)=false:=by simp [qp]
    have HR:=qH (show bA T2=bA (zAI L ⟨f,l,far,pc⟩) by rw [HF.out,if_neg ql,if_pos qp]);clear ql qp;have c1:V.cell? ⟨w.heap.size+1,1,none⟩=some (.int .i64 l):=(ks.cell 1).trans rfl;have c3:V.cell? ⟨w.heap.size+1,3,none⟩=some (.int .i64 pc):=(ks.cell 3).trans rfl;go_wp2_with fail
    refine (HIL.out _).mono ?_;rintro e V1 ⟨rfl,hb⟩;clear c1 c3;replace HA:=qH (HA.out.below hb);replace HB:=qH (zAa HB.out hb HB.out.size);replace kf:=kf.below hb kf.lt;replace ks:=ks.below hb ks.lt;clear hb;have c3:V1.cell? ⟨w.heap.size+1,3,none⟩=some (.int .i64 pc):=(ks.cell 3).trans rfl;go_wp2_with fail
    go_ret;exact ⟨zDj HR.out,HB.out⟩
   ·have q1:(pc != 0)=true:=by simpa using qp
    have HR:=qH (show bA T4=bA (zAI L ⟨f,l,far,pc⟩) by rw [HF.out,if_neg ql,if_neg qp]);clear ql qp;have c1:V.cell? ⟨w.heap.size+1,1,none⟩=some (.int .i64 l):=(ks.cell 1).trans rfl;have c3:V.cell? ⟨w.heap.size+1,3,none⟩=some (.int .i64 pc):=(ks.cell 3).trans rfl;go_wp2_with fail
    refine (HIL.out _).mono ?_;rintro e V1 ⟨rfl,hb⟩;clear c1 c3;replace HA:=qH (HA.out.below hb);replace HB:=qH (zAa HB.out hb HB.out.size);replace kf:=kf.below hb kf.lt;replace ks:=ks.below hb ks.lt;clear hb;have c3:V1.cell? ⟨w.heap.size+1,3,none⟩=some (.int .i64 pc):=(ks.cell 3).trans rfl;go_wp2_with fail
    refine (HIP.out _).mono ?_;rintro e V2 ⟨rfl,hb⟩;clear c3;replace HA:=qH (HA.out.below hb);replace HB:=qH (zAa HB.out hb HB.out.size);replace kf:=kf.below hb kf.lt;replace ks:=ks.below hb ks.lt;clear hb;go_wp2_with fail
    go_ret;exact ⟨zDj HR.out,HB.out⟩
theorem zLG {A:Option Addr} {n c:Nat} {L:List Fg} {re lo:Int} {s:Sg} {S:List UInt8} (h:zAI L s=S) (w:World) (hA:Fgs w A n L) (hv:TOk L) (hs:zAn n s=true) :
  Calls Tryz.prog 65 #[frV A n c re lo,sgV s] w fun e w'=>e=.returned (.string (bA S))∧Below w.heap.size w w':=by
 subst h;exact zPZ A n c L re lo s w hA hv hs
end Go.Proofs.YtlmdfmnbcndhoaaGreatDoor
