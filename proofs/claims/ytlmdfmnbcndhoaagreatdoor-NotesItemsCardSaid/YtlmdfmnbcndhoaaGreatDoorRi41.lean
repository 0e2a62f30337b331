/-
  Lemmas, part 41. Conditions: each theorem's own.
-/
import Derived.Test.YtlmdfmnbcndhoaaGreatDoorRi23
import Derived.Test.YtlmdfmnbcndhoaaGreatDoorRi39
import Derived.Test.YtlmdfmnbcndhoaaGreatDoorRi37
import Derived.Test.YtlmdfmnbcndhoaaGreatDoorRi04
import Derived.Test.YtlmdfmnbcndhoaaGreatDoorRi40
import Derived.Test.YtlmdfmnbcndhoaaGreatDoorRi07
namespace Go.Proofs.YtlmdfmnbcndhoaaGreatDoor
open Go.RowKit
theorem zWK (S:List UInt8):fnA S≤126:=by
 unfold fnA zDg
 cases zFP S with
 | none=>simp
 | some f=>rw [←zJV];exact zDk
theorem zLC:SgOk s0:=⟨zBe (by decide) (by decide),zBe (by decide) (by decide),zBe (by decide) (by decide)⟩
theorem zWd (S:List UInt8):I64 (fnA S:Int):=by have:=zWK S;exact zBe (by omega) (by omega)
theorem zIg:I64 0:=zBe (by decide) (by decide)
theorem zVO {k:Int} (h1:0≤k) (h2:k≤8):I64 k:=zBe h1 (by omega)
theorem zHE {k f:Int} {s:Sg} {b:Bool} (h1:0≤k) (h2:k≤8) (hf:I64 f) (hs:SgOk s) {P:List Sp} (hP:∀x∈P,SgOk x.s):OgOk ⟨k,f,s,P,b⟩∧∀x∈(⟨k,f,s,P,b⟩:Og).path,SgOk x.s:=⟨⟨zVO h1 h2,hf,hs⟩,hP⟩
theorem zEb:∀x∈([]:List Sp),SgOk x.s:=fun x hx=>by simp at hx
theorem zSH {f:Int} (h:I64 f):SgOk ⟨f,0,false,0⟩:=⟨h,zIg,zIg⟩
def zSI (o:Og) (m:Nat):Prop:=(OgOk o∧∀x∈o.path,SgOk x.s)∧o.path.length≤m
theorem zRU (S:List UInt8):SgOk (rbF S):=by
 unfold rbF;split
 ·exact zLC
 ·exact ⟨zWd _,zIg,zIg⟩
theorem zSJ:∀(T:List (List UInt8)) (P Q:List Sp),zHu T P=some Q→(∀x∈P,SgOk x.s)→(∀x∈Q,SgOk x.s)∧Q.length=P.length+T.length
 | [],P,Q,h,hP=>by rw [zHu] at h;injection h with h;rw [←h];exact ⟨hP,by simp⟩
 | S :: T,P,Q,h,hP=>by
  rw [zHu] at h;split at h
  ·cases h
  ·obtain ⟨a,b⟩:=zSJ T _ Q h (fun x hx=>by
    rcases List.mem_append.1 hx with hx | hx
    ·exact hP x hx
    ·rw [List.mem_singleton.1 hx];exact zRU _)
   exact ⟨a,by simp at b ⊢;omega⟩
theorem zGq (c:UInt8) (S:List UInt8):(zAH c S).length≤S.length+1:=by
 rw [zEF];have:=List.count_le_length (a:=c) (l:=S);omega
theorem zUr (b:UInt8) (f:Int) (hf:I64 f) (R:List UInt8):zSI (zHd b f R) (R.length+1):=by
 have h5:SgOk (if R=[] then s0 else rbF R.dropLast):=by split;exact zLC;exact zRU _
 unfold zHd;split;exact ⟨zHE (by omega) (by omega) hf zLC zEb,by simp⟩
 split;exact ⟨zHE (by omega) (by omega) hf zLC zEb,by simp⟩
 split;exact ⟨zHE (by omega) (by omega) hf zLC zEb,by simp⟩
 split;exact ⟨zHE (by omega) (by omega) hf zLC zEb,by simp⟩
 split;exact ⟨zHE (by omega) (by omega) hf h5 zEb,by simp⟩
 split
 ·refine ⟨zHE (by omega) (by omega) hf (zSH ?_) zEb,by simp⟩;split
  ·exact zIg
  ·exact zWd _
 split
 ·refine ⟨zHE (by omega) (by omega) hf (zSH ?_) zEb,by simp⟩;split
  ·exact zIg
  ·exact zWd _
 split
 ·unfold zOY;split
  ·split
   ·rename_i P hP;obtain ⟨a,b⟩:=zSJ _ _ _ hP zEb;refine ⟨zHE (by omega) (by omega) hf (zRU _) a,?_⟩;have h1:=zGq 44 (xa (zAH 60 R) 0);have h2:(xa (zAH 60 R) 0).length≤R.length:=by
     unfold xa
     cases e:(zAH 60 R)[0]? with
     | none=>simp
     | some p=>exact zAX 60 R p (List.mem_of_getElem? e)
    simp only [List.length_nil] at b;show P.length≤_;omega
   ·exact ⟨zOP,by simp [o0]⟩
  ·exact ⟨zHE (by omega) (by omega) hf (zRU _) zEb,by simp⟩
 ·exact ⟨zHE (by omega) (by omega) hf zLC zEb,by simp⟩
theorem zVP (S:List UInt8):zSI (zIU S) (S.length+1):=by
 unfold zIU;split
 ·exact ⟨zOP,by simp [o0]⟩
 ·obtain ⟨a,b⟩:=zUr ((S[nmL S]?).getD 0) _ (zWd (S.take (nmL S))) (S.drop (nmL S+1));exact ⟨a,by simp only [List.length_drop] at b;omega⟩
theorem zNA (s:Sg) (k:Nat) (w:World) :
  Calls Tryz.prog 102 #[sgV s,.int .i64 (k:Int)] w fun e w'=>e=.returned (.bool (zAq k s))∧Below w.heap.size w w':=by
 have hb0:Below w.heap.size w (w.alloc (.cells #[.int .i64 s.f,.int .i64 s.l,.bool s.far,.int .i64 s.pc] 29)):=(Below.refl _ _).alloc (Nat.le_refl _) _;have HB:=qH hb0;have hr:=qH (show zAq k s=(decide (1≤s.f)&&decide (s.f≤(k:Int))&&decide (0≤s.l)&&decide (s.l≤999999999)&&decide (0≤s.pc)&&decide (s.pc≤999999999)) from rfl);clear hb0;go_enter Tryz.func102,Tryz.ntmps102;go_wp2_with fail
 all_goals
  go_ret;refine ⟨zBz ?_,HB.out⟩;rw [hr.out];simp
  try omega
theorem zJh {k:Nat} {s:Sg} {b:Bool} (h:zAq k s=b) (w:World) :
  Calls Tryz.prog 102 #[sgV s,.int .i64 (k:Int)] w fun e w'=>e=.returned (.bool b)∧Below w.heap.size w w':=by
 subst h;exact zNA s k w
theorem zNB {k:Nat} {o:Og} (h1:1≤o.f) (h2:o.f≤(k:Int)) (hp:o.path=[]):zAh k o=zBh k o:=by
 unfold zAh;simp [h1,h2,hp]
theorem zNC {k:Nat} {o:Og} (h:o.kind≠3) (hp:o.path≠[]):zAh k o=false:=zGy fun e=>by
 rcases e.2.2 with e | e
 ·exact h e
 ·exact hp e
theorem zPS {k:Nat} {f:Int}:zAq k ⟨f,0,false,0⟩=(decide (1≤f)&&decide (f≤(k:Int))):=by unfold zAq;simp
set_option maxRecDepth 100000 in
set_option maxHeartbeats 6400000 in
theorem zND (k:Nat) (o:Og) (B:Option Addr) (m d:Nat) (w:World) (hO:OpIn w o B m d) :
  Calls Tryz.prog 55 #[opV o B m d,.int .i64 (k:Int)] w fun e w'=>e=.returned (.bool (zAh k o))∧Below w.heap.size w w':=by
 have hlen:=hO.path.len;have hle:=hO.path.le;obtain ⟨kind,f,⟨ff,fl,far,fpc⟩,path,over⟩:=o;simp only at hlen hle ⊢;have hP:Stps w B m path:=hO.path;have hb0:Below w.heap.size w (w.alloc (.cells #[.int .i64 kind,.int .i64 f,.int .i64 ff,.int .i64 fl,.bool far,.int .i64 fpc,.slice B m d,.bool over] 32)):=(Below.refl _ _).alloc (Nat.le_refl _) _;have hk0:Blk (w.alloc (.cells #[.int .i64 kind,.int .i64 f,.int .i64 ff,.int .i64 fl,.bool far,.int .i64 fpc,.slice B m d,.bool over] 32)) w.heap.size 32 #[.int .i64 kind,.int .i64 f,.int .i64 ff,.int .i64 fl,.bool far,.int .i64 fpc,.slice B m d,.bool over]:=Blk.new _ _ _;have HB0:=qH hb0;have HLEN:=qH hlen;have bs0:=zJS;have bs1:=zOK;obtain ⟨q,hq⟩:∃q,sgB ⟨ff,fl,far,fpc⟩ s0=q:=⟨_,rfl⟩
 have hqs:=fun w=>zUN ⟨ff,fl,far,fpc⟩ s0 w
 simp only [hq] at hqs;rw [show sgV s0=.agg #[.int .i64 0,.int .i64 0,.bool false,.int .i64 0] from rfl] at hqs;have HQ:=qH hq;clear hO hq hb0 hlen;by_cases hf:1≤f∧f≤(k:Int)
 ·obtain ⟨h1,h2⟩:=hf;have i1:¬f < 1:=by omega
  have i2:¬(k:Int) < f:=by omega
  have HF:=qH (And.intro h1 h2);clear h1 h2;by_cases h3:kind=3
  ·subst h3;obtain ⟨b,hbd⟩:∃b,zAq k ⟨ff,fl,far,fpc⟩=b:=⟨_,rfl⟩
   have HBD:=qH hbd;clear hbd;go_enter Tryz.func55,Tryz.ntmps55;go_wp2_with fail
   generalize w.alloc (.cells #[.int .i64 3,.int .i64 f,.int .i64 ff,.int .i64 fl,.bool far,.int .i64 fpc,.slice B m d,.bool over] 32)=Y at HB0 hk0 ⊢;go_loopw [6] (fun v wr=>∃i:Nat,i≤m∧v=.int .i64 i∧Below Y.heap.size Y wr∧Hid (∀j:Nat,j < i→zAq k (pa path j).s=true)) (fun v _=>m-(intOf v).toNat)
   case atStart=>exact ⟨0,Nat.zero_le _,rfl,Below.refl _ _,qH (fun j hj=>by omega)⟩
   case round =>
    obtain ⟨i,hi,rfl,hbr,HS⟩:=hrel;have hkr:=hk0.below hbr hk0.lt;have hbw:=zAa HB0.out hbr HB0.out.size;have c2:wr.cell? ⟨w.heap.size,2,none⟩=some (.int .i64 ff):=(hkr.cell 2).trans rfl;have c3:wr.cell? ⟨w.heap.size,3,none⟩=some (.int .i64 fl):=(hkr.cell 3).trans rfl;have c4:wr.cell? ⟨w.heap.size,4,none⟩=some (.bool far):=(hkr.cell 4).trans rfl;have c5:wr.cell? ⟨w.heap.size,5,none⟩=some (.int .i64 fpc):=(hkr.cell 5).trans rfl;have c6:wr.cell? ⟨w.heap.size,6,none⟩=some (.slice B m d):=(hkr.cell 6).trans rfl;by_cases hlt:i < m
    ·obtain ⟨g,p,rfl,hg,⟨x0,x1,x2,x3,x4⟩,_⟩:=(hP.below hbw).at_ hlt;have j0:(0:Int)≤(i:Int):=by omega
     have j1:(i:Int) < (m:Int):=by omega
     obtain ⟨bx,hbx⟩:∃b,zAq k (pa path i).s=b:=⟨_,rfl⟩
     have HBX:=qH hbx;clear hbx;generalize hpx:pa path i=x at x0 x1 x2 x3 x4 HBX;have HPX:=qH hpx;clear hpx;go_wp2_with fail
     refine (zJh HBX.out _).mono ?_;rintro e wb ⟨rfl,hbb⟩;have hb2:=zAa hbr hbb hbr.size;clear x0 x1 x2 x3 x4 c2 c3 c4 c5 c6 hbr hbb hg
     cases bx with
     | true =>
      have HS1:=qH (show ∀j:Nat,j < i+1→zAq k (pa path j).s=true from fun j hj=>by
       rcases Nat.decEq j i with e | e
       ·exact HS.out j (by omega)
       ·subst e;rw [HPX.out];exact HBX.out)
      clear HS HBX;go_wp2_with fail
      go_roundw
      case rel=>exact ⟨i+1,by omega,by go_num,hb2,HS1⟩
      case measure=>simp [intOf];omega
     | false =>
      have HR:=qH (show zAh k ⟨3,f,⟨ff,fl,far,fpc⟩,path,over⟩=false from zGz (i:=i) (by rw [HLEN.out];exact hlt) (by rw [HPX.out];exact HBX.out));clear HS HBX;go_wp2_with fail
      go_ret;exact ⟨zBz (by rw [HR.out]),zAa HB0.out hb2 HB0.out.size⟩
    ·have j1:¬(i:Int) < (m:Int):=by omega
     have HR:=qH (show zAh k ⟨3,f,⟨ff,fl,far,fpc⟩,path,over⟩=(b&&!over) by
      rw [zEf ⟨HF.out.1,HF.out.2,.inl rfl⟩ (fun j hj=>HS.out j (by rw [HLEN.out] at hj;omega))]
      unfold zBh
      rw [if_neg (by simp),if_neg (by simp),if_pos rfl]
      simp only
      rw [HBD.out]
      cases b<;>cases over<;>rfl)
     have c7:wr.cell? ⟨w.heap.size,7,none⟩=some (.bool over):=(hkr.cell 7).trans rfl;clear HS;go_wp2_with fail
     refine (zJh HBD.out _).mono ?_;rintro e wb ⟨rfl,hbb⟩;have hb2:=zAa hbw hbb hbw.size;have c7:wb.cell? ⟨w.heap.size,7,none⟩=some (.bool over):=((hkr.below hbb hkr.lt).cell 7).trans rfl;clear c2 c3 c4 c5 c6
     cases b with
     | true =>
      go_wp2_with fail
      go_ret;exact ⟨zBz (by rw [HR.out];simp),hb2⟩
     | false =>
      go_wp2_with fail
      go_ret;exact ⟨zBz (by rw [HR.out];simp),hb2⟩
  ·obtain ⟨z,hz⟩:∃z,((m:Int)==0)=z:=⟨_,rfl⟩
   have HZ:=qH (show z=decide (path=[]) by
    rw [←hz]
    cases path with
    | nil=>rw [show m=0 from HLEN.out.symm];rfl
    | cons x P=>rw [←HLEN.out];simp;omega)
   have HR:=qH (show zAh k ⟨kind,f,⟨ff,fl,far,fpc⟩,path,over⟩=(z&&zBh k ⟨kind,f,⟨ff,fl,far,fpc⟩,path,over⟩) by
    rw [HZ.out]
    by_cases hp:path=[]
    ·rw [zNB HF.out.1 HF.out.2 hp];simp [hp]
    ·rw [zNC h3 hp];simp [hp])
   clear HZ HLEN hP hle;by_cases h1:kind=1∨kind=2∨kind=8
   ·have HE:=qH (show zBh k ⟨kind,f,⟨ff,fl,far,fpc⟩,path,over⟩=(!over&&q) by
     unfold zBh
     rw [if_pos h1]
     simp only
     rw [HQ.out])
    rcases h1 with rfl | rfl | rfl
    all_goals
     cases q
     ·go_enter Tryz.func55,Tryz.ntmps55;go_wp2_with fail
      go_ret;exact ⟨zBz (by rw [HR.out,HE.out];simp),HB0.out⟩
     ·cases z
      ·go_enter Tryz.func55,Tryz.ntmps55;go_wp2_with fail
       go_ret;exact ⟨zBz (by rw [HR.out];rfl),HB0.out⟩
      ·go_enter Tryz.func55,Tryz.ntmps55;go_wp2_with fail
       go_ret;exact ⟨zBz (by rw [HR.out,HE.out];simp),HB0.out⟩
   by_cases h4:kind=4
   ·subst h4
    have HE:=qH (show zBh k ⟨4,f,⟨ff,fl,far,fpc⟩,path,over⟩=q by
     unfold zBh
     rw [if_neg (by simp),if_pos rfl]
     simp only
     rw [HQ.out])
    cases q
    ·go_enter Tryz.func55,Tryz.ntmps55;go_wp2_with fail
     go_ret;exact ⟨zBz (by rw [HR.out,HE.out];simp),HB0.out⟩
    ·go_enter Tryz.func55,Tryz.ntmps55;go_wp2_with fail
     go_ret;exact ⟨zBz (by rw [HR.out,HE.out,←hz];simp),HB0.out⟩
   by_cases h5:kind=5
   ·subst h5;obtain ⟨b,hbd⟩:∃b,zAq k ⟨ff,fl,far,fpc⟩=b:=⟨_,rfl⟩
    have HBD:=qH hbd;clear hbd
    have HE:=qH (show zBh k ⟨5,f,⟨ff,fl,far,fpc⟩,path,over⟩=b by
     unfold zBh
     rw [if_neg (by simp),if_neg (by simp),if_neg (by simp),if_pos rfl]
     exact HBD.out)
    go_enter Tryz.func55,Tryz.ntmps55;go_wp2_with fail
    refine (zJh HBD.out _).mono ?_;rintro e wb ⟨rfl,hbb⟩;have hb2:=zAa HB0.out hbb HB0.out.size;have hkb:=hk0.below hbb hk0.lt;have c6:wb.cell? ⟨w.heap.size,6,none⟩=some (.slice B m d):=(hkb.cell 6).trans rfl
    cases b
    ·go_wp2_with fail
     go_ret;exact ⟨zBz (by rw [HR.out,HE.out];simp),hb2⟩
    ·go_wp2_with fail
     go_ret;exact ⟨zBz (by rw [HR.out,HE.out,←hz];simp),hb2⟩
   by_cases h6:kind=6∨kind=7
   ·obtain ⟨q2,hq2⟩:∃q,sgB ⟨ff,fl,far,fpc⟩ ⟨ff,0,false,0⟩=q:=⟨_,rfl⟩
    have hqs2:=fun w=>zUN ⟨ff,fl,far,fpc⟩ ⟨ff,0,false,0⟩ w
    simp only [hq2] at hqs2
    have HE:=qH (show zBh k ⟨kind,f,⟨ff,fl,far,fpc⟩,path,over⟩=(decide (1≤ff)&&decide (ff≤(k:Int))&&q2) by
     unfold zBh
     rw [if_neg (by omega),if_neg (by omega),if_neg (by omega),if_neg (by omega),if_pos h6]
     simp only
     rw [hq2]
     cases q2 with
     | false=>simp
     | true=>rw [zCA.1 hq2,zPS])
    clear hq2 HQ;by_cases a1:1≤ff
    ·by_cases a2:ff≤(k:Int)
     ·have HE2:=qH (show zBh k ⟨kind,f,⟨ff,fl,far,fpc⟩,path,over⟩=q2 by rw [HE.out];simp [a1,a2]);rcases h6 with rfl | rfl
      all_goals
       cases q2
       ·go_enter Tryz.func55,Tryz.ntmps55;go_wp2_with fail
        go_ret;exact ⟨zBz (by rw [HR.out,HE2.out];simp),HB0.out⟩
       ·go_enter Tryz.func55,Tryz.ntmps55;go_wp2_with fail
        go_ret;exact ⟨zBz (by rw [HR.out,HE2.out,←hz];simp),HB0.out⟩
     ·have HE2:=qH (show zBh k ⟨kind,f,⟨ff,fl,far,fpc⟩,path,over⟩=false by rw [HE.out];simp [a2]);rcases h6 with rfl | rfl
      all_goals
       go_enter Tryz.func55,Tryz.ntmps55;go_wp2_with fail
       go_ret;exact ⟨zBz (by rw [HR.out,HE2.out];simp),HB0.out⟩
    ·have HE2:=qH (show zBh k ⟨kind,f,⟨ff,fl,far,fpc⟩,path,over⟩=false by rw [HE.out];simp [a1]);rcases h6 with rfl | rfl
     all_goals
      go_enter Tryz.func55,Tryz.ntmps55;go_wp2_with fail
      go_ret;exact ⟨zBz (by rw [HR.out,HE2.out];simp),HB0.out⟩
   have HE:=qH (show zBh k ⟨kind,f,⟨ff,fl,far,fpc⟩,path,over⟩=false by
    unfold zBh
    rw [if_neg h1,if_neg h4,if_neg h3,if_neg h5,if_neg h6])
   have k1:(kind==1)=false:=by simp;omega
   have k2:(kind==2)=false:=by simp;omega
   have k8:(kind==8)=false:=by simp;omega
   have k4:(kind==4)=false:=by simp;omega
   have k3:(kind==3)=false:=by simp;omega
   have k5:(kind==5)=false:=by simp;omega
   have k6:(kind==6)=false:=by simp;omega
   have k7:(kind==7)=false:=by simp;omega
   clear h1 h3 h4 h5 h6;go_enter Tryz.func55,Tryz.ntmps55;go_wp2_with fail
   go_ret;exact ⟨zBz (by rw [HR.out,HE.out];simp),HB0.out⟩
 ·have HR:=qH (show zAh k ⟨kind,f,⟨ff,fl,far,fpc⟩,path,over⟩=false from zGy fun e=>hf ⟨e.1,e.2.1⟩);by_cases h1:f < 1
  ·go_enter Tryz.func55,Tryz.ntmps55;go_wp2_with fail
   go_ret;exact ⟨zBz (by rw [HR.out]),HB0.out⟩
  ·have h2:(k:Int) < f:=by omega
   go_enter Tryz.func55,Tryz.ntmps55;go_wp2_with fail
   go_ret;exact ⟨zBz (by rw [HR.out]),HB0.out⟩
theorem zPT {A:Option Addr} {n c:Nat} {L:List Fg} {re lo:Int} {b:Bool} (h:frB L re lo=b) (w:World) (hA:Fgs w A n L) :
  Calls Tryz.prog 18 #[frV A n c re lo] w fun e w'=>e=.returned (.bool b)∧Below w.heap.size w w':=by
 subst h;exact zMM A n c L re lo w hA
theorem zRV {k:Nat} {o:Og} {b:Bool} (h:zAh k o=b) (B:Option Addr) (m d:Nat) (w:World) (hO:OpIn w o B m d) :
  Calls Tryz.prog 55 #[opV o B m d,.int .i64 (k:Int)] w fun e w'=>e=.returned (.bool b)∧Below w.heap.size w w':=by
 subst h;exact zND k o B m d w hO
def TOk (L:List Fg):Prop:=∀i,i < L.length→zAm (fa L i)=true
theorem TOk.len {L:List Fg} (h:TOk L) {f:Int} (h1:1≤f) (h2:f≤(L.length:Int)):(nmF L f).length≤43:=zJx (zGb (h (f-1).toNat (by omega)))
set_option maxHeartbeats 800000 in
theorem zPU (A:Option Addr) (n c:Nat) (L:List Fg) (re lo:Int) (f:Int) (w:World) (hA:Fgs w A n L) (hv:TOk L) (h1:1≤f) (h2:f≤(n:Int)) :
  Calls Tryz.prog 63 #[frV A n c re lo,.int .i64 f] w fun e w'=>e=.returned (.string (bA (nmF L f)))∧Below w.heap.size w w':=by
 have hle:=hA.le;have hb0:Below w.heap.size w (w.alloc (.cells #[.slice A n c,.int .i64 re,.int .i64 lo] 24)):=(Below.refl _ _).alloc (Nat.le_refl _) _;have hA0:=hA.alloc (.cells #[.slice A n c,.int .i64 re,.int .i64 lo] 24);obtain ⟨i,hi⟩:∃i:Nat,f=(i:Int)+1:=⟨(f-1).toNat,by omega⟩
 have hin:i < n:=by omega
 obtain ⟨g,o,rfl,hg,⟨x0,x1,x2⟩,_⟩:=hA0.at_ hin;have hth:=hv i (by rw [hA.len];exact hin);have hnm:nmF L f=zAk (fa L i):=by unfold nmF;rw [hi,show ((i:Int)+1-1).toNat=i by omega]
 rw [hnm];have q0:IntKind.i64.wrap (f-1)=(i:Int):=by rw [hi,show (i:Int)+1-1=(i:Int) by omega];exact IntWalk.i64_in _ (by omega)
 have q1:wrap64 (f-1)=(i:Int):=by unfold wrap64;omega
 have q2:f-1=(i:Int):=by omega
 have j0:(0:Int)≤(i:Int):=by omega
 have j1:(i:Int) < (n:Int):=by omega
 generalize fa L i=x at x0 x1 x2 hth ⊢;have HN:=qH (zJz x hth (w.alloc (.cells #[.slice (some ⟨g,o,none⟩) n c,.int .i64 re,.int .i64 lo] 24)));clear hi hnm hth hA0 hA hin h1 h2;go_enter Tryz.func63,Tryz.ntmps63;go_wp2_with fail
 refine HN.out.mono ?_;rintro e w2 ⟨rfl,hb2⟩;have hb3:=zAa hb0 hb2 hb0.size;go_wp2_with fail
 go_ret;exact ⟨rfl,hb3⟩
theorem zGr {A:Option Addr} {n:Nat} {c:Nat} {L:List Fg} {re lo:Int} {f:Int} {S:List UInt8} (h:nmF L f=S) (w:World) (hA:Fgs w A n L) (hv:TOk L) (h1:1≤f) (h2:f≤(n:Int)) :
  Calls Tryz.prog 63 #[frV A n c re lo,.int .i64 f] w fun e w'=>e=.returned (.string (bA S))∧Below w.heap.size w w':=by
 subst h;exact zPU A n c L re lo f w hA hv h1 h2
theorem zLD (b:Bool) (Y Z:ByteArray) (w:World):Calls Tryz.prog 64 #[.bool b,.string Y,.string Z] w fun e w'=>e=.returned (.string (if b then Y else Z))∧w'=w:=by
 cases b
 all_goals
  go_enter Tryz.func64,Tryz.ntmps64;go_wp2_with fail
  go_ret;exact ⟨rfl,rfl⟩
theorem zHn {b:Bool} {Y Z:ByteArray} {S:List UInt8} (h:(if b then Y else Z)=bA S) (w:World):Calls Tryz.prog 64 #[.bool b,.string Y,.string Z] w fun e w'=>e=.returned (.string (bA S))∧w'=w:=by
 have:=zLD b Y Z w;rw [h] at this;exact this
theorem zRW (A:Option Addr) (n c:Nat) (re lo:Int) (w:World):(Instr.field 24 (.agg #[.slice A n c,.int .i64 re,.int .i64 lo]) 0).run Tryz.prog w=.ok (.slice A n c) w:=by kernel_rfl
theorem zVQ:TOk AL:=fun i hi=>by
 have:=zOT i hi;unfold zCQ at this;simp only [Bool.and_eq_true] at this;exact this.1
theorem zHo {o:Og} {b:Bool} (h:zAh 126 o=b) (B:Option Addr) (m d:Nat) (w:World) (hO:OpIn w o B m d) :
  Calls Tryz.prog 55 #[opV o B m d,.int .i64 126] w fun e w'=>e=.returned (.bool b)∧Below w.heap.size w w':=zRV h B m d w hO
theorem zNE {L:List Fg} {o o':Og} {b:Bool} (h1:zSo L o=o') (h2:zSp L o=b) {A:Option Addr} {n c:Nat} {re lo:Int} {B:Option Addr} {m d:Nat} (w:World) (hA:Fgs w A n L) (hO:Stps w B m o.path) (hr:zAh 126 o=true) (hm:m≤10000) :
  Calls Tryz.prog 57 #[frV A n c re lo,opV o B m d] w (SetGives w o' b):=by
 subst h1;subst h2;exact zKr A n c L re lo o B m d w hA hO hr hm
set_option maxHeartbeats 800000 in
theorem zNF (A:Option Addr) (n c:Nat) (L:List Fg) (re lo:Int) (s:Sg) (w:World) (hA:Fgs w A n L) (h1:1≤s.f) (h2:s.f≤(n:Int)) :
  Calls Tryz.prog 70 #[frV A n c re lo,sgV s] w fun e w'=>e=.returned (.bool (zAU L s))∧Below w.heap.size w w':=by
 have hle:=hA.le;have hb0:Below w.heap.size w ((w.alloc (.cells #[.slice A n c,.int .i64 re,.int .i64 lo] 24)).alloc (.cells #[.int .i64 s.f,.int .i64 s.l,.bool s.far,.int .i64 s.pc] 29)):=((Below.refl _ _).alloc (Nat.le_refl _) _).alloc (by simp) _;have hA0:=hA.below hb0;obtain ⟨i,hi⟩:∃i:Nat,s.f=(i:Int)+1:=⟨(s.f-1).toNat,by omega⟩
 have hin:i < n:=by omega
 obtain ⟨g,o,rfl,hg,⟨x0,x1,x2⟩,_⟩:=hA0.at_ hin;have hs:zAU L s=(decide ((fa L i).p=1)&&decide (s.l=0)&&decide (s.pc=0)):=by unfold zAU;rw [hi,show ((i:Int)+1-1).toNat=i by omega]
 have q1:wrap64 (s.f-1)=(i:Int):=by unfold wrap64;omega
 have q2:s.f-1=(i:Int):=by omega
 have j0:(0:Int)≤(i:Int):=by omega
 have j1:(i:Int) < (n:Int):=by omega
 generalize fa L i=x at x0 x1 x2 hs;obtain ⟨f,l,far,pc⟩:=s;obtain ⟨p,r,dg⟩:=x;simp only at x0 hs q1 q2 hb0 hg ⊢;clear hi hA0 hA hin h1 h2 x1 x2;by_cases e2:l=0
 ·subst e2;by_cases e3:pc=0
  ·subst e3;by_cases e1:p=1
   ·subst e1;have HS:=qH hs;clear hs;go_enter Tryz.func70,Tryz.ntmps70;go_wp2_with fail
    go_ret;exact ⟨zBz (by rw [HS.out];rfl),hb0⟩
   ·have k3:(p==1)=false:=by simpa using e1
    have HS:=qH (hs.trans (show _=false by simp [e1]));clear hs e1;go_enter Tryz.func70,Tryz.ntmps70;go_wp2_with fail
    go_ret;exact ⟨zBz (by rw [HS.out]),hb0⟩
  ·have k3:(pc==0)=false:=by simpa using e3
   have HS:=qH (hs.trans (show _=false by simp [e3]));clear hs e3;go_enter Tryz.func70,Tryz.ntmps70;go_wp2_with fail
   go_ret;exact ⟨zBz (by rw [HS.out]),hb0⟩
 ·have k2:(l==0)=false:=by simpa using e2
  have HS:=qH (hs.trans (show _=false by simp [e2]));clear hs e2;go_enter Tryz.func70,Tryz.ntmps70;go_wp2_with fail
  go_ret;exact ⟨zBz (by rw [HS.out]),hb0⟩
theorem zMz {A:Option Addr} {n c:Nat} {L:List Fg} {re lo:Int} {s:Sg} {b:Bool} (h:zAU L s=b) (w:World) (hA:Fgs w A n L) (h1:1≤s.f) (h2:s.f≤(n:Int)) :
  Calls Tryz.prog 70 #[frV A n c re lo,sgV s] w fun e w'=>e=.returned (.bool b)∧Below w.heap.size w w':=by
 subst h;exact zNF A n c L re lo s w hA h1 h2
set_option maxHeartbeats 6400000 in
set_option maxRecDepth 100000 in
theorem zRX (A:Option Addr) (n c:Nat) (L:List Fg) (re lo:Int) (o:Og) (B:Option Addr) (m d:Nat) (w:World) (hA:Fgs w A n L) (hO:OpIn w o B m d) (hr:zAh n o=true) :
  Calls Tryz.prog 29 #[frV A n c re lo,opV o B m d] w fun e w'=>e=.returned (.bool (zCl L o))∧Below w.heap.size w w':=by
 have hle:=hA.le;have hmle:=hO.path.le;obtain ⟨h1,h8,hf1,hf2,hpn,_⟩:=zAS hr;obtain ⟨hff1,hff2⟩:=zCV hr;have hP:=hO.path;have hlen:=hO.path.len;have hpf:∀x∈o.path,1≤x.s.f∧x.s.f≤(n:Int):=fun x hx=>by have:=zAj.1 (hpn x hx);exact ⟨this.1,this.2.1⟩
 have hcan:zCl L o=(decide ((fa L (o.f-1).toNat).p=1)&&(decide (¬0 < o.fr.f)||zAU L o.fr)&&o.path.all fun x=>zAU L x.s):=rfl;obtain ⟨kind,f,⟨ff,fl,ffar,fpc⟩,path,over⟩:=o;simp only at h1 h8 hf1 hf2 hff1 hff2 hP hpf hcan hlen ⊢;obtain ⟨i,hi⟩:∃i:Nat,f=(i:Int)+1:=⟨(f-1).toNat,by omega⟩
 have hin:i < n:=by omega
 rw [show (f-1).toNat=i by omega] at hcan;have q1:wrap64 (f-1)=(i:Int):=by unfold wrap64;omega
 have q2:f-1=(i:Int):=by omega
 have j0:(0:Int)≤(i:Int):=by omega
 have j1:(i:Int) < (n:Int):=by omega
 obtain ⟨qs,hqs⟩:∃q,zAU L ⟨ff,fl,ffar,fpc⟩=q:=⟨_,rfl⟩
 rw [hqs] at hcan;have HQS:=qH hqs;have HFF:=qH (And.intro hff1 hff2);have HPF:=qH hpf;have HLEN:=qH hlen;have HCAN:=qH hcan;have HIN:=qH hin;have HA:=qH hA;have HP:=qH hP;have HB:=qH (Below.refl w.heap.size w);clear hqs hff1 hff2 hpf hlen hcan hin hA hP hi hpn h1 h8 hf1 hf2 hO hr;go_enter Tryz.func29,Tryz.ntmps29;have hba:Below w.heap.size w ((w.alloc (.cells #[.slice A n c,.int .i64 re,.int .i64 lo] 24)).alloc (.cells #[.int .i64 kind,.int .i64 f,.int .i64 ff,.int .i64 fl,.bool ffar,.int .i64 fpc,.slice B m d,.bool over] 32)):=((Below.refl _ _).alloc (Nat.le_refl _) _).alloc (by simp) _;replace HA:=qH (HA.out.below hba);replace HP:=qH (HP.out.below hba);replace HB:=qH (zAa HB.out hba HB.out.size);have kf:=(Blk.new w 24 #[.slice A n c,.int .i64 re,.int .i64 lo]).alloc (.cells #[.int .i64 kind,.int .i64 f,.int .i64 ff,.int .i64 fl,.bool ffar,.int .i64 fpc,.slice B m d,.bool over] 32);have ks:Blk ((w.alloc (.cells #[.slice A n c,.int .i64 re,.int .i64 lo] 24)).alloc (.cells #[.int .i64 kind,.int .i64 f,.int .i64 ff,.int .i64 fl,.bool ffar,.int .i64 fpc,.slice B m d,.bool over] 32)) (w.heap.size+1) 32 #[.int .i64 kind,.int .i64 f,.int .i64 ff,.int .i64 fl,.bool ffar,.int .i64 fpc,.slice B m d,.bool over]:=heap_alloc2_new w _ _;clear hba;go_upto_region 1 with fail
 generalize (w.alloc (.cells #[.slice A n c,.int .i64 re,.int .i64 lo] 24)).alloc (.cells #[.int .i64 kind,.int .i64 f,.int .i64 ff,.int .i64 fl,.bool ffar,.int .i64 fpc,.slice B m d,.bool over] 32)=X at HA HP HB kf ks ⊢;obtain ⟨g,p,hAe,hg,⟨x0,_,_⟩,_⟩:=HA.out.at_ HIN.out;generalize fa L i=x at x0 HCAN;obtain ⟨xp,xr,xd⟩:=x;simp only at x0 HCAN;subst hAe;have HX:=qH (And.intro hg x0);clear x0 hg;obtain ⟨y,hy⟩:∃y,(decide (xp=1)&&(decide (¬0 < ff)||qs))=y:=⟨_,rfl⟩
 have HY:=qH hy;clear hy;go_cut [27] (fun v wv=>v=.bool (!y)∧∃V:World,V=wv∧Below X.heap.size X V)
 case first =>
  have x0:=HX.out.2;have a0:X.cell? ⟨w.heap.size,0,none⟩=some (.slice (some ⟨g,p,none⟩) n c):=(kf.cell 0).trans rfl;have a1:X.cell? ⟨w.heap.size,1,none⟩=some (.int .i64 re):=(kf.cell 1).trans rfl;have a2:X.cell? ⟨w.heap.size,2,none⟩=some (.int .i64 lo):=(kf.cell 2).trans rfl;have e0:X.cell? ⟨w.heap.size+1,0,none⟩=some (.int .i64 kind):=(ks.cell 0).trans rfl;have e1:X.cell? ⟨w.heap.size+1,1,none⟩=some (.int .i64 f):=(ks.cell 1).trans rfl;have e2:X.cell? ⟨w.heap.size+1,2,none⟩=some (.int .i64 ff):=(ks.cell 2).trans rfl;have e3:X.cell? ⟨w.heap.size+1,3,none⟩=some (.int .i64 fl):=(ks.cell 3).trans rfl;have e4:X.cell? ⟨w.heap.size+1,4,none⟩=some (.bool ffar):=(ks.cell 4).trans rfl;have e5:X.cell? ⟨w.heap.size+1,5,none⟩=some (.int .i64 fpc):=(ks.cell 5).trans rfl;have e6:X.cell? ⟨w.heap.size+1,6,none⟩=some (.slice B m d):=(ks.cell 6).trans rfl;have e7:X.cell? ⟨w.heap.size+1,7,none⟩=some (.bool over):=(ks.cell 7).trans rfl;by_cases e1:xp=1
  ·subst e1;by_cases e2:0 < ff
   ·have HE2:=qH (show (1:Int)≤ff by omega);go_wp2_with fail
    refine (zMz HQS.out _ HA.out HE2.out HFF.out.2).mono ?_;rintro e V ⟨rfl,hb⟩;have hyq:Hid (y=qs):=qH (by have hn:¬ff≤0:=(by omega);rw [←HY.out];simp [hn]);clear x0 a0 a1 a2 e0 e1 e2 e3 e4 e5 e6 e7;go_wp2_with fail
    go_meet
    case rel=>exact ⟨by rw [hyq.out],_,rfl,hb⟩
   ·have hyq:Hid (y=true):=qH (by rw [←HY.out];simp [e2]);go_wp2_with fail
    go_meet
    case rel=>exact ⟨by rw [hyq.out];rfl,_,rfl,Below.refl _ _⟩
  ·have k1:(xp != 1)=true:=by simpa using e1
   have hyq:Hid (y=false):=qH (by rw [←HY.out];simp [e1]);clear e1;go_wp2_with fail
   go_meet
   case rel=>exact ⟨by rw [hyq.out];rfl,_,rfl,Below.refl _ _⟩
 case rest =>
  obtain ⟨rfl,V,hV,hb⟩:=hcut;subst hV;replace HA:=qH (HA.out.below hb);replace HP:=qH (HP.out.below hb);replace HB:=qH (zAa HB.out hb HB.out.size);replace kf:=kf.below hb kf.lt;replace ks:=ks.below hb ks.lt;clear hb
  cases y with
  | false =>
   have HR:=qH (show zCl L ⟨kind,f,⟨ff,fl,ffar,fpc⟩,path,over⟩=false by rw [HCAN.out,HY.out];rfl);go_wp2_with fail
   go_ret;exact ⟨zBz (by rw [HR.out]),HB.out⟩
  | true =>
   have HC2:=qH (show zCl L ⟨kind,f,⟨ff,fl,ffar,fpc⟩,path,over⟩=path.all fun x=>zAU L x.s by rw [HCAN.out,HY.out,Bool.true_and]);clear HCAN HY;go_wp2_with fail
   go_loopw [5] (fun v wr=>∃j:Nat,j≤m∧v=.int .i64 j∧Below V.heap.size V wr∧Hid (∀k:Nat,k < j→zAU L (pa path k).s=true)) (fun v _=>m-(intOf v).toNat)
   case atStart=>exact ⟨0,Nat.zero_le _,rfl,Below.refl _ _,qH (fun j hj=>by omega)⟩
   case round =>
    obtain ⟨j,hj,rfl,hbr,HS⟩:=hrel;have HBR:=qH hbr;replace HA:=qH (HA.out.below hbr);replace HP:=qH (HP.out.below hbr);replace HB:=qH (zAa HB.out hbr HB.out.size);replace kf:=kf.below hbr kf.lt;replace ks:=ks.below hbr ks.lt;clear hbr j0 j1;by_cases hlt:j < m
    ·have j0:(0:Int)≤(j:Int):=by omega
     have j1:(j:Int) < (m:Int):=by omega
     obtain ⟨g2,p2,rfl,hg,⟨x0,x1,x2,x3,x4⟩,_⟩:=HP.out.at_ hlt;have hpj:=HPF.out _ (List.mem_of_getElem? (zBS (i:=j) (by rw [HLEN.out];exact hlt)));obtain ⟨bx,hbx⟩:∃b,zAU L (pa path j).s=b:=⟨_,rfl⟩
     have HBX:=qH hbx;clear hbx;generalize hpx:pa path j=x at x0 x1 x2 x3 x4 HBX hpj;have HPX:=qH hpx;obtain ⟨⟨xf,xl,xfar,xpc⟩,xo⟩:=x;simp only at x0 x1 x2 x3 x4 hpj;have HPJ:=qH hpj;have HX2:=qH (show g2 < wr.heap.size∧wr.cell? ⟨g2,p2+j*5,none⟩=some (.int .i64 xf)∧wr.cell? ⟨g2,p2+j*5+1,none⟩=some (.int .i64 xl)∧wr.cell? ⟨g2,p2+j*5+2,none⟩=some (.bool xfar)∧wr.cell? ⟨g2,p2+j*5+3,none⟩=some (.int .i64 xpc) from ⟨hg,x0,x1,x2,x3⟩);have c6:wr.cell? ⟨w.heap.size+1,6,none⟩=some (.slice (some ⟨g2,p2,none⟩) m d):=(ks.cell 6).trans rfl;clear hpx hpj x0 x1 x2 x3 x4 hg;go_upto_region 6 with fail
     clear c6;go_cut [43] (fun v wv=>v=.bool (!bx)∧∃U:World,U=wv∧Below wr.heap.size wr U)
     case first =>
      have k0:∀wx,Below wr.heap.size wr wx→(Below wr.heap.size wr wx∧wx.cell? ⟨w.heap.size,0,none⟩=some (.slice (some ⟨g,p,none⟩) n c)∧wx.cell? ⟨w.heap.size,1,none⟩=some (.int .i64 re)∧wx.cell? ⟨w.heap.size,2,none⟩=some (.int .i64 lo)∧wx.cell? ⟨w.heap.size+1,6,none⟩=some (.slice (some ⟨g2,p2,none⟩) m d)∧wx.cell? ⟨g2,p2+j*5,none⟩=some (.int .i64 xf)∧wx.cell? ⟨g2,p2+j*5+1,none⟩=some (.int .i64 xl)∧wx.cell? ⟨g2,p2+j*5+2,none⟩=some (.bool xfar)∧wx.cell? ⟨g2,p2+j*5+3,none⟩=some (.int .i64 xpc)):=fun wx h=>⟨h,((kf.below h kf.lt).cell 0).trans rfl,((kf.below h kf.lt).cell 1).trans rfl,((kf.below h kf.lt).cell 2).trans rfl,((ks.below h ks.lt).cell 6).trans rfl,(h.cell (p:=⟨g2,p2+j*5,none⟩) HX2.out.1).trans HX2.out.2.1,(h.cell (p:=⟨g2,p2+j*5+1,none⟩) HX2.out.1).trans HX2.out.2.2.1,(h.cell (p:=⟨g2,p2+j*5+2,none⟩) HX2.out.1).trans HX2.out.2.2.2.1,(h.cell (p:=⟨g2,p2+j*5+3,none⟩) HX2.out.1).trans HX2.out.2.2.2.2⟩
      have KP:=qH k0;clear k0;have gq0:=(KP.out wr (Below.refl _ _)).2.1;have gq1:=(KP.out wr (Below.refl _ _)).2.2.1;have gq2:=(KP.out wr (Below.refl _ _)).2.2.2.1;have gq3:=(KP.out wr (Below.refl _ _)).2.2.2.2.1;have gq4:=(KP.out wr (Below.refl _ _)).2.2.2.2.2.1;have gq5:=(KP.out wr (Below.refl _ _)).2.2.2.2.2.2.1;have gq6:=(KP.out wr (Below.refl _ _)).2.2.2.2.2.2.2.1;have gq7:=(KP.out wr (Below.refl _ _)).2.2.2.2.2.2.2.2
      first
       | go_region_held3 (fun wx=>Below wr.heap.size wr wx∧wx.cell? ⟨w.heap.size,0,none⟩=some (.slice (some ⟨g,p,none⟩) n c)∧wx.cell? ⟨w.heap.size,1,none⟩=some (.int .i64 re)∧wx.cell? ⟨w.heap.size,2,none⟩=some (.int .i64 lo)∧wx.cell? ⟨w.heap.size+1,6,none⟩=some (.slice (some ⟨g2,p2,none⟩) m d)∧wx.cell? ⟨g2,p2+j*5,none⟩=some (.int .i64 xf)∧wx.cell? ⟨g2,p2+j*5+1,none⟩=some (.int .i64 xl)∧wx.cell? ⟨g2,p2+j*5+2,none⟩=some (.bool xfar)∧wx.cell? ⟨g2,p2+j*5+3,none⟩=some (.int .i64 xpc)) (first | assumption | exact KP.out _ (Below.refl _ _).drew | exact KP.out _ (zAa (And.left (by assumption)) (by assumption) (Below.size (And.left (by assumption)))))
         (first
          | (go_at_call 70;refine (zMz HBX.out _ (HA.out.below (And.left (by assumption))) HPJ.out.1 HPJ.out.2).mono ?_;rintro e wd ⟨rfl,hbd⟩))
       | fail
      all_goals
       have hbf:=And.left (show Below wr.heap.size wr _∧_ by assumption);clear gq0 gq1 gq2 gq3 gq4 gq5 gq6 gq7;go_wp2_with fail
       go_meet
       case rel=>exact ⟨rfl,_,rfl,hbf⟩
     case rest =>
      obtain ⟨rfl,U,hU,hb⟩:=hcut;subst hU
      cases bx with
      | true =>
       have HS1:=qH (show ∀k:Nat,k < j+1→zAU L (pa path k).s=true from fun k hk=>by
        rcases Nat.decEq k j with e | e
        ·exact HS.out k (by omega)
        ·subst e;rw [HPX.out];exact HBX.out)
       have hb2:=zAa HBR.out hb HBR.out.size;clear HS HBX;go_wp2_with fail
       go_roundw
       case rel=>exact ⟨j+1,by omega,by go_num,hb2,HS1⟩
       case measure=>simp [intOf];omega
      | false =>
       have HR:=qH (show zCl L ⟨kind,f,⟨ff,fl,ffar,fpc⟩,path,over⟩=false by
        rw [HC2.out,List.all_eq_false]
        exact ⟨_,List.mem_of_getElem? (zBS (i:=j) (by rw [HLEN.out];exact hlt)),by rw [HPX.out,HBX.out];simp⟩)
       have hb2:=zAa HB.out hb HB.out.size;clear HS HBX;go_wp2_with fail
       go_ret;exact ⟨zBz (by rw [HR.out]),hb2⟩
    ·have j1:¬(j:Int) < (m:Int):=by omega
     have HR:=qH (show zCl L ⟨kind,f,⟨ff,fl,ffar,fpc⟩,path,over⟩=true by
      rw [HC2.out,List.all_eq_true]
      intro x hx
      obtain ⟨k,hk⟩:=List.getElem?_of_mem hx
      have hl:=(List.getElem?_eq_some_iff.1 hk).1
      have hy:=zBS hl
      rw [hk] at hy
      injection hy with hy
      rw [hy]
      exact HS.out k (by rw [HLEN.out] at hl;omega))
     have c6:wr.cell? ⟨w.heap.size+1,6,none⟩=some (.slice B m d):=(ks.cell 6).trans rfl;clear HS;go_wp2_with fail
     go_ret;exact ⟨zBz (by rw [HR.out]),HB.out⟩
theorem zPV {A:Option Addr} {n c:Nat} {L:List Fg} {re lo:Int} {o:Og} {b:Bool} (h:zCl L o=b) (B:Option Addr) (m d:Nat) (w:World) (hA:Fgs w A n L) (hO:OpIn w o B m d) (hr:zAh n o=true) :
  Calls Tryz.prog 29 #[frV A n c re lo,opV o B m d] w fun e w'=>e=.returned (.bool b)∧Below w.heap.size w w':=by
 subst h;exact zRX A n c L re lo o B m d w hA hO hr
theorem zHp {n:Nat} {b:Bool} (h:decide (n≤60)=b) (A:Option Addr) (c:Nat) (re lo:Int) (w:World) :
  Calls Tryz.prog 15 #[frV A n c re lo] w fun e w'=>e=.returned (.bool b)∧Below w.heap.size w w':=by
 subst h;exact zPI A n c re lo w
theorem zNG {Es Ds:List Oe} (h:ogs Es=ogs Ds) (A:Option Addr) (n c:Nat) (B:Option Addr) (m d:Nat) (w:World) (hA:Oprs w A n Es) (hB:Oprs w B m Ds) :
  Calls Tryz.prog 27 #[.slice A n c,.slice B m d] w fun e w'=>e=.returned (.bool true)∧Below w.heap.size w w':=by
 have:=zKm A n c Es B m d Ds w hA hB;rw [decide_eq_true h] at this;exact this
theorem zKs {A:Option Addr} {n c:Nat} {L:List Fg} {re lo:Int} {S:List UInt8} {O:List Og} {E:Int} (h1:rsE L re lo S=E) (h2:rsO L re lo S=O) (w:World) (hA:Fgs w A n L) (hc:n≤c) (ht:Tabs w) :
  Calls Tryz.prog 31 #[frV A n c re lo,.string (bA S)] w (zDj w O E):=by
 subst h1;subst h2;exact zDD ⟨A,n,c,L,re,lo⟩ S w hA hc ht
end Go.Proofs.YtlmdfmnbcndhoaaGreatDoor
