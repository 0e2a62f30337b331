/-
  Lemmas, part 45. Conditions: each theorem's own.
-/
import Derived.Test.YtlmdfmnbcndhoaaGreatDoorRl25
import Derived.Test.YtlmdfmnbcndhoaaGreatDoorRl40
import Derived.Test.YtlmdfmnbcndhoaaGreatDoorRl38
import Derived.Test.YtlmdfmnbcndhoaaGreatDoorRl04
namespace Go.Proofs.YtlmdfmnbcndhoaaGreatDoor
open Go.RowKit
theorem zXD (S:List UInt8):fnA S≤126:=by
 unfold fnA zDj
 cases zGb S with
 | none=>simp
 | some f=>rw [←zKo];exact zDp
theorem zWA (S:List UInt8):0≤zJf S∧zJf S≤999999999:=by
 unfold zJf;by_cases h:S≠[]∧S.length≤9∧S.head?≠some 48∧S.all zJE=true
 ·have h2:zAq S=((zAq S).1,true):=by
   have:(zAq S).2=true:=by unfold zAq;rw [if_pos h]
   rw [←this]
  have:=zCn h2;omega
 ·rw [zDc h];simp
theorem zKL:SgOk s0:=⟨zBe (by decide) (by decide),zBe (by decide) (by decide),zBe (by decide) (by decide)⟩
theorem zWB (S:List UInt8):I64 (zJf S):=by have:=zWA S;exact ⟨by omega,by omega⟩
theorem zWC (S:List UInt8):I64 (fnA S:Int):=by have:=zXD S;exact zBe (by omega) (by omega)
theorem zHB:I64 0:=zBe (by decide) (by decide)
theorem zQz (T:List (List UInt8)):SgOk (zGd T).1:=by
 unfold zGd;split
 ·exact zKL
 ·refine ⟨zWC _,?_,?_⟩
  ·show I64 (loF T).1;unfold loF;split
   ·exact zWB _
   ·exact zHB
  ·show I64 (piF T (loF T).2).1;unfold piF;split
   ·exact zWB _
   ·exact zHB
theorem zTv:∀(n:Nat) (P:List Sp) (T:List (List UInt8)) (Q:List Sp) (s:Sg),zGw n P T=some (Q,s)→(∀x∈P,SgOk x.s)→(∀x∈Q,SgOk x.s)∧SgOk s∧Q.length≤P.length+T.length
 | 0,P,T,Q,s,h,_=>by simp [zGw] at h
 | n+1,P,T,Q,s,h,hP=>by
  rw [zGw] at h;split at h
  ·injection h with h;injection h with h1 h2
   rw [←h1,←h2];exact ⟨hP,zKL,by omega⟩
  ·rename_i hT;split at h
   ·injection h with h;injection h with h1 h2
    rw [←h1,←h2];exact ⟨hP,zQz _,by omega⟩
   ·split at h
    ·cases h
    ·obtain ⟨a,b,c⟩:=zTv n _ _ Q s h (fun x hx=>by
      rcases List.mem_append.1 hx with hx | hx
      ·exact hP x hx
      ·rw [List.mem_singleton.1 hx];exact zQz _)
     refine ⟨a,b,?_⟩;have:0 < T.length:=List.length_pos_iff.2 hT;simp only [List.length_append,List.length_cons,List.length_nil,List.length_drop] at c;omega
theorem zWD {k:Int} (h1:0≤k) (h2:k≤8):I64 k:=zBe h1 (by omega)
theorem zJy {k f:Int} {s:Sg} {b:Bool} (h1:0≤k) (h2:k≤8) (hf:I64 f) (hs:SgOk s) {P:List Sp} (hP:∀x∈P,SgOk x.s):OgOk ⟨k,f,s,P,b⟩∧∀x∈(⟨k,f,s,P,b⟩:Og).path,SgOk x.s:=⟨⟨zWD h1 h2,hf,hs⟩,hP⟩
theorem zFm:∀x∈([]:List Sp),SgOk x.s:=fun x hx=>by simp at hx
theorem zTw {f:Int} (h:I64 f):SgOk ⟨f,0,false,0⟩:=⟨h,zHB,zHB⟩
def zQA (o:Og) (m:Nat):Prop:=(OgOk o∧∀x∈o.path,SgOk x.s)∧o.path.length≤m
theorem zWE (f:Int) (hf:I64 f) (T:List (List UInt8)):zQA (zOq f T) T.length:=by
 unfold zOq
 cases h:zGw (T.length+1) [] T with
 | none=>exact ⟨zPt,by simp [o0]⟩
 | some R =>
  obtain ⟨P,s⟩:=R;obtain ⟨a,b,c⟩:=zTv _ _ _ _ _ h zFm;exact ⟨zJy (by omega) (by omega) hf b a,by simpa using c⟩
theorem zVi (T:List (List UInt8)):zQA (zJg T) T.length:=by
 have hf:=zWC (xa T 1);have h3:I64 (if 3 < T.length then (fnA (xa T 3):Int) else 0):=by split;exact zWC _;exact zHB
 have h5:SgOk (if 3 < T.length then (zGd (T.drop 3)).1 else s0):=by split;exact zQz _;exact zKL
 unfold zJg;split;exact ⟨zPt,by simp [o0]⟩
 split;exact ⟨zJy (by omega) (by omega) hf zKL zFm,by simp⟩
 split;exact ⟨zJy (by omega) (by omega) hf zKL zFm,by simp⟩
 split;exact ⟨zJy (by omega) (by omega) hf zKL zFm,by simp⟩
 split;exact ⟨zJy (by omega) (by omega) hf zKL zFm,by simp⟩
 split;exact ⟨zJy (by omega) (by omega) hf h5 zFm,by simp⟩
 split
 ·refine ⟨zJy (by omega) (by omega) hf (zTw ?_) zFm,by simp⟩;split
  ·exact zWC _
  ·exact zHB
 split
 ·refine ⟨zJy (by omega) (by omega) hf (zTw ?_) zFm,by simp⟩;split
  ·exact zWC _
  ·exact zHB
 split
 ·have:=zWE _ hf (T.drop 2);exact ⟨this.1,by have:=this.2;simp only [List.length_drop] at this;omega⟩
 ·exact ⟨zJy (by omega) (by omega) hf zKL zFm,by simp⟩
theorem zWF (S:List UInt8):zQA (zKU S) (S.length+1):=by
 have:=zVi (zAR 32 S);have h2:=zBu S;exact ⟨this.1,by have:=this.2;unfold zKU;omega⟩
theorem zSD (c:UInt8) (S:List UInt8):(zAR c S).length≤S.length+1:=by
 rw [zEK];have:=List.count_le_length (a:=c) (l:=S);omega
theorem zOe (s:Sg) (k:Nat) (w:World) :
  Calls Tryz.prog 102 #[sgV s,.int .i64 (k:Int)] w fun e w'=>e=.returned (.bool (zAm k s))∧Below w.heap.size w w':=by
 have ah:Below w.heap.size w (w.alloc (.cells #[.int .i64 s.f,.int .i64 s.l,.bool s.far,.int .i64 s.pc] 29)):=(Below.refl _ _).alloc (Nat.le_refl _) _;have HB:=qH ah;have hr:=qH (show zAm k s=(decide (1≤s.f)&&decide (s.f≤(k:Int))&&decide (0≤s.l)&&decide (s.l≤999999999)&&decide (0≤s.pc)&&decide (s.pc≤999999999)) from rfl);clear ah;go_enter Tryz.func102,Tryz.ntmps102;go_wp2_with fail
 all_goals
  go_ret;refine ⟨zBU ?_,HB.out⟩;rw [hr.out];simp
  try omega
theorem zJz {k:Nat} {s:Sg} {b:Bool} (h:zAm k s=b) (w:World) :
  Calls Tryz.prog 102 #[sgV s,.int .i64 (k:Int)] w fun e w'=>e=.returned (.bool b)∧Below w.heap.size w w':=by
 subst h;exact zOe s k w
theorem zOf {k:Nat} {o:Og} (h1:1≤o.f) (h2:o.f≤(k:Int)) (hp:o.path=[]):zAg k o=zBi k o:=by
 unfold zAg;simp [h1,h2,hp]
theorem zOg {k:Nat} {o:Og} (h:o.kind≠3) (hp:o.path≠[]):zAg k o=false:=zGL fun e=>by
 rcases e.2.2 with e | e
 ·exact h e
 ·exact hp e
theorem zQB {k:Nat} {f:Int}:zAm k ⟨f,0,false,0⟩=(decide (1≤f)&&decide (f≤(k:Int))):=by unfold zAm;simp
set_option maxRecDepth 100000 in
set_option maxHeartbeats 6400000 in
theorem zOh (k:Nat) (o:Og) (B:Option Addr) (m d:Nat) (w:World) (hO:OpIn w o B m d) :
  Calls Tryz.prog 55 #[opV o B m d,.int .i64 (k:Int)] w fun e w'=>e=.returned (.bool (zAg k o))∧Below w.heap.size w w':=by
 have hlen:=hO.path.len;have hle:=hO.path.le;obtain ⟨kind,f,⟨ff,fl,far,fpc⟩,path,over⟩:=o;simp only at hlen hle ⊢;have hP:Stps w B m path:=hO.path;have ah:Below w.heap.size w (w.alloc (.cells #[.int .i64 kind,.int .i64 f,.int .i64 ff,.int .i64 fl,.bool far,.int .i64 fpc,.slice B m d,.bool over] 32)):=(Below.refl _ _).alloc (Nat.le_refl _) _;have hk0:Blk (w.alloc (.cells #[.int .i64 kind,.int .i64 f,.int .i64 ff,.int .i64 fl,.bool far,.int .i64 fpc,.slice B m d,.bool over] 32)) w.heap.size 32 #[.int .i64 kind,.int .i64 f,.int .i64 ff,.int .i64 fl,.bool far,.int .i64 fpc,.slice B m d,.bool over]:=Blk.new _ _ _;have eB:=qH ah;have aM:=qH hlen;have bs0:=zKk;have bs1:=zPp;obtain ⟨q,hq⟩:∃q,sgB ⟨ff,fl,far,fpc⟩ s0=q:=⟨_,rfl⟩
 have hqs:=fun w=>zVz ⟨ff,fl,far,fpc⟩ s0 w
 simp only [hq] at hqs;rw [show sgV s0=.agg #[.int .i64 0,.int .i64 0,.bool false,.int .i64 0] from rfl] at hqs;have HQ:=qH hq;clear hO hq ah hlen;by_cases hf:1≤f∧f≤(k:Int)
 ·obtain ⟨h1,h2⟩:=hf;have i1:¬f < 1:=by omega
  have i2:¬(k:Int) < f:=by omega
  have HF:=qH (And.intro h1 h2);clear h1 h2;by_cases h3:kind=3
  ·subst h3;obtain ⟨b,hbd⟩:∃b,zAm k ⟨ff,fl,far,fpc⟩=b:=⟨_,rfl⟩
   have nP:=qH hbd;clear hbd;go_enter Tryz.func55,Tryz.ntmps55;go_wp2_with fail
   generalize w.alloc (.cells #[.int .i64 3,.int .i64 f,.int .i64 ff,.int .i64 fl,.bool far,.int .i64 fpc,.slice B m d,.bool over] 32)=Y at eB hk0 ⊢;go_loopw [6] (fun v wr=>∃i:Nat,i≤m∧v=.int .i64 i∧Below Y.heap.size Y wr∧Hid (∀j:Nat,j < i→zAm k (pa path j).s=true)) (fun v _=>m-(intOf v).toNat)
   case atStart=>exact ⟨0,Nat.zero_le _,rfl,Below.refl _ _,qH (fun j hj=>by omega)⟩
   case round =>
    obtain ⟨i,hi,rfl,hbr,HS⟩:=hrel;have hkr:=hk0.below hbr hk0.lt;have hbw:=zAa eB.out hbr eB.out.size;have c2:wr.cell? ⟨w.heap.size,2,none⟩=some (.int .i64 ff):=(hkr.cell 2).trans rfl;have c3:wr.cell? ⟨w.heap.size,3,none⟩=some (.int .i64 fl):=(hkr.cell 3).trans rfl;have c4:wr.cell? ⟨w.heap.size,4,none⟩=some (.bool far):=(hkr.cell 4).trans rfl;have c5:wr.cell? ⟨w.heap.size,5,none⟩=some (.int .i64 fpc):=(hkr.cell 5).trans rfl;have c6:wr.cell? ⟨w.heap.size,6,none⟩=some (.slice B m d):=(hkr.cell 6).trans rfl;by_cases hlt:i < m
    ·obtain ⟨g,p,rfl,hg,⟨x0,x1,x2,x3,x4⟩,_⟩:=(hP.below hbw).at_ hlt;have j0:(0:Int)≤(i:Int):=by omega
     have j1:(i:Int) < (m:Int):=by omega
     obtain ⟨bx,hbx⟩:∃b,zAm k (pa path i).s=b:=⟨_,rfl⟩
     have gW:=qH hbx;clear hbx;generalize hpx:pa path i=x at x0 x1 x2 x3 x4 gW;have ti:=qH hpx;clear hpx;go_wp2_with fail
     refine (zJz gW.out _).mono ?_;rintro e wb ⟨rfl,hbb⟩;have ai:=zAa hbr hbb hbr.size;clear x0 x1 x2 x3 x4 c2 c3 c4 c5 c6 hbr hbb hg
     cases bx with
     | true =>
      have cn:=qH (show ∀j:Nat,j < i+1→zAm k (pa path j).s=true from fun j hj=>by
       rcases Nat.decEq j i with e | e
       ·exact HS.out j (by omega)
       ·subst e;rw [ti.out];exact gW.out)
      clear HS gW;go_wp2_with fail
      go_roundw
      case rel=>exact ⟨i+1,by omega,by go_num,ai,cn⟩
      case measure=>simp [intOf];omega
     | false =>
      have HR:=qH (show zAg k ⟨3,f,⟨ff,fl,far,fpc⟩,path,over⟩=false from zGM (i:=i) (by rw [aM.out];exact hlt) (by rw [ti.out];exact gW.out));clear HS gW;go_wp2_with fail
      go_ret;exact ⟨zBU (by rw [HR.out]),zAa eB.out ai eB.out.size⟩
    ·have j1:¬(i:Int) < (m:Int):=by omega
     have HR:=qH (show zAg k ⟨3,f,⟨ff,fl,far,fpc⟩,path,over⟩=(b&&!over) by
      rw [zEi ⟨HF.out.1,HF.out.2,.inl rfl⟩ (fun j hj=>HS.out j (by rw [aM.out] at hj;omega))]
      unfold zBi
      rw [if_neg (by simp),if_neg (by simp),if_pos rfl]
      simp only
      rw [nP.out]
      cases b<;>cases over<;>rfl)
     have c7:wr.cell? ⟨w.heap.size,7,none⟩=some (.bool over):=(hkr.cell 7).trans rfl;clear HS;go_wp2_with fail
     refine (zJz nP.out _).mono ?_;rintro e wb ⟨rfl,hbb⟩;have ai:=zAa hbw hbb hbw.size;have c7:wb.cell? ⟨w.heap.size,7,none⟩=some (.bool over):=((hkr.below hbb hkr.lt).cell 7).trans rfl;clear c2 c3 c4 c5 c6
     cases b with
     | true =>
      go_wp2_with fail
      go_ret;exact ⟨zBU (by rw [HR.out];simp),ai⟩
     | false =>
      go_wp2_with fail
      go_ret;exact ⟨zBU (by rw [HR.out];simp),ai⟩
  ·obtain ⟨z,hz⟩:∃z,((m:Int)==0)=z:=⟨_,rfl⟩
   have HZ:=qH (show z=decide (path=[]) by
    rw [←hz]
    cases path with
    | nil=>rw [show m=0 from aM.out.symm];rfl
    | cons x P=>rw [←aM.out];simp;omega)
   have HR:=qH (show zAg k ⟨kind,f,⟨ff,fl,far,fpc⟩,path,over⟩=(z&&zBi k ⟨kind,f,⟨ff,fl,far,fpc⟩,path,over⟩) by
    rw [HZ.out]
    by_cases hp:path=[]
    ·rw [zOf HF.out.1 HF.out.2 hp];simp [hp]
    ·rw [zOg h3 hp];simp [hp])
   clear HZ aM hP hle;by_cases h1:kind=1∨kind=2∨kind=8
   ·have HE:=qH (show zBi k ⟨kind,f,⟨ff,fl,far,fpc⟩,path,over⟩=(!over&&q) by
     unfold zBi
     rw [if_pos h1]
     simp only
     rw [HQ.out])
    rcases h1 with rfl | rfl | rfl
    all_goals
     cases q
     ·go_enter Tryz.func55,Tryz.ntmps55;go_wp2_with fail
      go_ret;exact ⟨zBU (by rw [HR.out,HE.out];simp),eB.out⟩
     ·cases z
      ·go_enter Tryz.func55,Tryz.ntmps55;go_wp2_with fail
       go_ret;exact ⟨zBU (by rw [HR.out];rfl),eB.out⟩
      ·go_enter Tryz.func55,Tryz.ntmps55;go_wp2_with fail
       go_ret;exact ⟨zBU (by rw [HR.out,HE.out];simp),eB.out⟩
   by_cases h4:kind=4
   ·subst h4
    have HE:=qH (show zBi k ⟨4,f,⟨ff,fl,far,fpc⟩,path,over⟩=q by
     unfold zBi
     rw [if_neg (by simp),if_pos rfl]
     simp only
     rw [HQ.out])
    cases q
    ·go_enter Tryz.func55,Tryz.ntmps55;go_wp2_with fail
     go_ret;exact ⟨zBU (by rw [HR.out,HE.out];simp),eB.out⟩
    ·go_enter Tryz.func55,Tryz.ntmps55;go_wp2_with fail
     go_ret;exact ⟨zBU (by rw [HR.out,HE.out,←hz];simp),eB.out⟩
   by_cases h5:kind=5
   ·subst h5;obtain ⟨b,hbd⟩:∃b,zAm k ⟨ff,fl,far,fpc⟩=b:=⟨_,rfl⟩
    have nP:=qH hbd;clear hbd
    have HE:=qH (show zBi k ⟨5,f,⟨ff,fl,far,fpc⟩,path,over⟩=b by
     unfold zBi
     rw [if_neg (by simp),if_neg (by simp),if_neg (by simp),if_pos rfl]
     exact nP.out)
    go_enter Tryz.func55,Tryz.ntmps55;go_wp2_with fail
    refine (zJz nP.out _).mono ?_;rintro e wb ⟨rfl,hbb⟩;have ai:=zAa eB.out hbb eB.out.size;have hkb:=hk0.below hbb hk0.lt;have c6:wb.cell? ⟨w.heap.size,6,none⟩=some (.slice B m d):=(hkb.cell 6).trans rfl
    cases b
    ·go_wp2_with fail
     go_ret;exact ⟨zBU (by rw [HR.out,HE.out];simp),ai⟩
    ·go_wp2_with fail
     go_ret;exact ⟨zBU (by rw [HR.out,HE.out,←hz];simp),ai⟩
   by_cases h6:kind=6∨kind=7
   ·obtain ⟨q2,fN⟩:∃q,sgB ⟨ff,fl,far,fpc⟩ ⟨ff,0,false,0⟩=q:=⟨_,rfl⟩
    have BG:=fun w=>zVz ⟨ff,fl,far,fpc⟩ ⟨ff,0,false,0⟩ w
    simp only [fN] at BG
    have HE:=qH (show zBi k ⟨kind,f,⟨ff,fl,far,fpc⟩,path,over⟩=(decide (1≤ff)&&decide (ff≤(k:Int))&&q2) by
     unfold zBi
     rw [if_neg (by omega),if_neg (by omega),if_neg (by omega),if_neg (by omega),if_pos h6]
     simp only
     rw [fN]
     cases q2 with
     | false=>simp
     | true=>rw [zCC.1 fN,zQB])
    clear fN HQ;by_cases a1:1≤ff
    ·by_cases a2:ff≤(k:Int)
     ·have qz:=qH (show zBi k ⟨kind,f,⟨ff,fl,far,fpc⟩,path,over⟩=q2 by rw [HE.out];simp [a1,a2]);rcases h6 with rfl | rfl
      all_goals
       cases q2
       ·go_enter Tryz.func55,Tryz.ntmps55;go_wp2_with fail
        go_ret;exact ⟨zBU (by rw [HR.out,qz.out];simp),eB.out⟩
       ·go_enter Tryz.func55,Tryz.ntmps55;go_wp2_with fail
        go_ret;exact ⟨zBU (by rw [HR.out,qz.out,←hz];simp),eB.out⟩
     ·have qz:=qH (show zBi k ⟨kind,f,⟨ff,fl,far,fpc⟩,path,over⟩=false by rw [HE.out];simp [a2]);rcases h6 with rfl | rfl
      all_goals
       go_enter Tryz.func55,Tryz.ntmps55;go_wp2_with fail
       go_ret;exact ⟨zBU (by rw [HR.out,qz.out];simp),eB.out⟩
    ·have qz:=qH (show zBi k ⟨kind,f,⟨ff,fl,far,fpc⟩,path,over⟩=false by rw [HE.out];simp [a1]);rcases h6 with rfl | rfl
     all_goals
      go_enter Tryz.func55,Tryz.ntmps55;go_wp2_with fail
      go_ret;exact ⟨zBU (by rw [HR.out,qz.out];simp),eB.out⟩
   have HE:=qH (show zBi k ⟨kind,f,⟨ff,fl,far,fpc⟩,path,over⟩=false by
    unfold zBi
    rw [if_neg h1,if_neg h4,if_neg h3,if_neg h5,if_neg h6])
   have k1:(kind==1)=false:=by simp;omega
   have k2:(kind==2)=false:=by simp;omega
   have k8:(kind==8)=false:=by simp;omega
   have k4:(kind==4)=false:=by simp;omega
   have k3:(kind==3)=false:=by simp;omega
   have k5:(kind==5)=false:=by simp;omega
   have k6:(kind==6)=false:=by simp;omega
   have k7:(kind==7)=false:=by simp;omega
   clear h1 h3 h4 h5 h6;go_enter Tryz.func55,Tryz.ntmps55;go_wp2_with fail
   go_ret;exact ⟨zBU (by rw [HR.out,HE.out];simp),eB.out⟩
 ·have HR:=qH (show zAg k ⟨kind,f,⟨ff,fl,far,fpc⟩,path,over⟩=false from zGL fun e=>hf ⟨e.1,e.2.1⟩);by_cases h1:f < 1
  ·go_enter Tryz.func55,Tryz.ntmps55;go_wp2_with fail
   go_ret;exact ⟨zBU (by rw [HR.out]),eB.out⟩
  ·have h2:(k:Int) < f:=by omega
   go_enter Tryz.func55,Tryz.ntmps55;go_wp2_with fail
   go_ret;exact ⟨zBU (by rw [HR.out]),eB.out⟩
theorem zHC {A:Option Addr} {n c:Nat} {L:List Fg} {re lo:Int} {b:Bool} (h:frB L re lo=b) (w:World) (hA:Fgs w A n L) :
  Calls Tryz.prog 18 #[frV A n c re lo] w fun e w'=>e=.returned (.bool b)∧Below w.heap.size w w':=by
 subst h;exact zNq A n c L re lo w hA
theorem zNe {k:Nat} {o:Og} {b:Bool} (h:zAg k o=b) (B:Option Addr) (m d:Nat) (w:World) (hO:OpIn w o B m d) :
  Calls Tryz.prog 55 #[opV o B m d,.int .i64 (k:Int)] w fun e w'=>e=.returned (.bool b)∧Below w.heap.size w w':=by
 subst h;exact zOh k o B m d w hO
set_option maxRecDepth 100000 in
set_option maxHeartbeats 6400000 in
theorem zMa (A:Option Addr) (n c:Nat) (L:List Fg) (re lo:Int) (B:Option Addr) (m d:Nat) (Es:List Oe) (w:World) (hA:Fgs w A n L) (hO:Oprs w B m Es) :
  Calls Tryz.prog 24 #[frV A n c re lo,.slice B m d] w fun e w'=>e=.returned (.int .i64 (zAF L re lo (ogs Es)))∧Below w.heap.size w w':=by
 have HA:=qH hA;have HO:=qH hO;have HB:=qH (Below.refl w.heap.size w);have aR:=qH hO.len;have eQ:=qH hA.len;have hmle:=hO.le;obtain ⟨b,hb⟩:∃b,frB L re lo=b:=⟨_,rfl⟩
 have HV:=qH hb;clear hA hO hb;go_enter Tryz.func24,Tryz.ntmps24;have hba:=(Below.refl w.heap.size w).alloc (Nat.le_refl _) (.cells #[.slice A n c,.int .i64 re,.int .i64 lo] 24);replace HA:=qH (HA.out.below hba);replace HO:=qH (HO.out.below hba);replace HB:=qH (zAa HB.out hba HB.out.size);have kf:=Blk.new w 24 #[.slice A n c,.int .i64 re,.int .i64 lo];clear hba;go_upto_region 1 with fail
 generalize w.alloc (.cells #[.slice A n c,.int .i64 re,.int .i64 lo] 24)=X at HA HO HB kf ⊢;have c0:X.cell? ⟨w.heap.size,0,none⟩=some (.slice A n c):=(kf.cell 0).trans rfl;have c1:X.cell? ⟨w.heap.size,1,none⟩=some (.int .i64 re):=(kf.cell 1).trans rfl;have c2:X.cell? ⟨w.heap.size,2,none⟩=some (.int .i64 lo):=(kf.cell 2).trans rfl;go_wp2_with fail
 refine (zHC HV.out _ HA.out).mono ?_;rintro e u1 ⟨rfl,hb⟩;clear c0 c1 c2;replace HA:=qH (HA.out.below hb);replace HO:=qH (HO.out.below hb);replace HB:=qH (zAa HB.out hb HB.out.size);replace kf:=kf.below hb kf.lt;clear hb
 cases b with
 | false =>
  have HR:=qH (show zAF L re lo (ogs Es)=2 from zIc HV.out);go_wp2_with fail
  go_ret;exact ⟨zFs (by rw [HR.out]),HB.out⟩
 | true =>
  go_wp2_with fail
  go_loopw [5] (fun v wr=>∃i:Nat,i≤m∧v=.int .i64 i∧Below u1.heap.size u1 wr∧Hid (∀j:Nat,j < i→zAg L.length (oa Es j).o=true)) (fun v _=>m-(intOf v).toNat)
  case atStart=>exact ⟨0,Nat.zero_le _,rfl,Below.refl _ _,qH (fun j hj=>by omega)⟩
  case round =>
   obtain ⟨i,hi,rfl,hbr,HS⟩:=hrel;have tu:=qH hbr;replace HA:=qH (HA.out.below hbr);replace HO:=qH (HO.out.below hbr);replace HB:=qH (zAa HB.out hbr HB.out.size);replace kf:=kf.below hbr kf.lt;clear hbr;by_cases hlt:i < m
   ·have j0:(0:Int)≤(i:Int):=by omega
    have j1:(i:Int) < (m:Int):=by omega
    obtain ⟨g,p,rfl,hg,⟨x0,x1,x2,x3,x4,x5,x6,x7⟩,hin⟩:=HO.out.at_ hlt;obtain ⟨bx,hbx⟩:∃b,zAg L.length (oa Es i).o=b:=⟨_,rfl⟩
    have gW:=qH hbx;have ze:=qH hin;have hnn:Hid (L.length=n):=eQ;generalize hoe:oa Es i=e at x0 x1 x2 x3 x4 x5 x6 x7 gW ze;have AJ:=qH hoe;obtain ⟨⟨kk,ff,⟨gf,gl,gfar,gpc⟩,gp,go⟩,eA,en,ec⟩:=e;simp only at x0 x1 x2 x3 x4 x5 x6 x7;clear hbx hin hoe hnn;have HX:=qH (show g < wr.heap.size∧wr.cell? ⟨g,p+i*8,none⟩=some (.int .i64 kk)∧wr.cell? ⟨g,p+i*8+1,none⟩=some (.int .i64 ff)∧wr.cell? ⟨g,p+i*8+2,none⟩=some (.int .i64 gf)∧wr.cell? ⟨g,p+i*8+3,none⟩=some (.int .i64 gl)∧wr.cell? ⟨g,p+i*8+4,none⟩=some (.bool gfar)∧wr.cell? ⟨g,p+i*8+5,none⟩=some (.int .i64 gpc)∧wr.cell? ⟨g,p+i*8+6,none⟩=some (.slice eA en ec)∧wr.cell? ⟨g,p+i*8+7,none⟩=some (.bool go) from ⟨hg,x0,x1,x2,x3,x4,x5,x6,x7⟩);clear x0 x1 x2 x3 x4 x5 x6 x7 hg;go_upto_region 6 with fail
    go_cut [23] (fun v wv=>v=.bool (!bx)∧∃V:World,V=wv∧Below wr.heap.size wr V)
    case first =>
     have HBY:=qH (show zAg n ⟨kk,ff,⟨gf,gl,gfar,gpc⟩,gp,go⟩=bx by rw [←eQ.out];exact gW.out);have k0:∀wx,Below wr.heap.size wr wx→(Below wr.heap.size wr wx∧wx.cell? ⟨w.heap.size,0,none⟩=some (.slice A n c)∧wx.cell? ⟨g,p+i*8,none⟩=some (.int .i64 kk)∧wx.cell? ⟨g,p+i*8+1,none⟩=some (.int .i64 ff)∧wx.cell? ⟨g,p+i*8+2,none⟩=some (.int .i64 gf)∧wx.cell? ⟨g,p+i*8+3,none⟩=some (.int .i64 gl)∧wx.cell? ⟨g,p+i*8+4,none⟩=some (.bool gfar)∧wx.cell? ⟨g,p+i*8+5,none⟩=some (.int .i64 gpc)∧wx.cell? ⟨g,p+i*8+6,none⟩=some (.slice eA en ec)∧wx.cell? ⟨g,p+i*8+7,none⟩=some (.bool go)):=fun wx h=>⟨h,((kf.below h kf.lt).cell 0).trans rfl,(h.cell (p:=⟨g,p+i*8,none⟩) HX.out.1).trans HX.out.2.1,(h.cell (p:=⟨g,p+i*8+1,none⟩) HX.out.1).trans HX.out.2.2.1,(h.cell (p:=⟨g,p+i*8+2,none⟩) HX.out.1).trans HX.out.2.2.2.1,(h.cell (p:=⟨g,p+i*8+3,none⟩) HX.out.1).trans HX.out.2.2.2.2.1,(h.cell (p:=⟨g,p+i*8+4,none⟩) HX.out.1).trans HX.out.2.2.2.2.2.1,(h.cell (p:=⟨g,p+i*8+5,none⟩) HX.out.1).trans HX.out.2.2.2.2.2.2.1,(h.cell (p:=⟨g,p+i*8+6,none⟩) HX.out.1).trans HX.out.2.2.2.2.2.2.2.1,(h.cell (p:=⟨g,p+i*8+7,none⟩) HX.out.1).trans HX.out.2.2.2.2.2.2.2.2⟩
     have KP:=qH k0;clear k0;have g0:=(KP.out wr (Below.refl _ _)).2.1;have g1:=(KP.out wr (Below.refl _ _)).2.2.1;have g2:=(KP.out wr (Below.refl _ _)).2.2.2.1;have g3:=(KP.out wr (Below.refl _ _)).2.2.2.2.1;have g4:=(KP.out wr (Below.refl _ _)).2.2.2.2.2.1;have g5:=(KP.out wr (Below.refl _ _)).2.2.2.2.2.2.1;have g6:=(KP.out wr (Below.refl _ _)).2.2.2.2.2.2.2.1;have g7:=(KP.out wr (Below.refl _ _)).2.2.2.2.2.2.2.2.1;have g8:=(KP.out wr (Below.refl _ _)).2.2.2.2.2.2.2.2.2
     first
      | go_region_held3 (fun wx=>Below wr.heap.size wr wx∧wx.cell? ⟨w.heap.size,0,none⟩=some (.slice A n c)∧wx.cell? ⟨g,p+i*8,none⟩=some (.int .i64 kk)∧wx.cell? ⟨g,p+i*8+1,none⟩=some (.int .i64 ff)∧wx.cell? ⟨g,p+i*8+2,none⟩=some (.int .i64 gf)∧wx.cell? ⟨g,p+i*8+3,none⟩=some (.int .i64 gl)∧wx.cell? ⟨g,p+i*8+4,none⟩=some (.bool gfar)∧wx.cell? ⟨g,p+i*8+5,none⟩=some (.int .i64 gpc)∧wx.cell? ⟨g,p+i*8+6,none⟩=some (.slice eA en ec)∧wx.cell? ⟨g,p+i*8+7,none⟩=some (.bool go)) (first | assumption | exact KP.out _ (Below.refl _ _).drew | exact KP.out _ (zAa (And.left (by assumption)) (by assumption) (Below.size (And.left (by assumption)))))
        (first
         | (go_at_call 55;refine (zNe HBY.out _ _ _ _ (ze.out.below (And.left (by assumption)))).mono ?_;rintro e zz ⟨rfl,hzz⟩))
      | fail
     all_goals
      have hbf:=And.left (show Below wr.heap.size wr _∧_ by assumption);clear g0 g1 g2 g3 g4 g5 g6 g7 g8;go_wp2_with fail
      go_meet
      case rel=>exact ⟨rfl,_,rfl,hbf⟩
    case rest =>
     obtain ⟨rfl,V,hV,hb⟩:=hcut;subst hV;have kX:=qH hb
     cases bx with
     | true =>
      have cn:=qH (show ∀j:Nat,j < i+1→zAg L.length (oa Es j).o=true from fun j hj=>by
       rcases Nat.decEq j i with e | e
       ·exact HS.out j (by omega)
       ·subst e;rw [AJ.out];exact gW.out)
      have ai:=zAa tu.out hb tu.out.size;clear HS gW;go_wp2_with fail
      go_roundw
      case rel=>exact ⟨i+1,by omega,by go_num,ai,cn⟩
      case measure=>simp [intOf];omega
     | false =>
      have HR:=qH (show zAF L re lo (ogs Es)=2 from zFZ (i:=i) (by rw [aR.out];exact hlt) (by rw [AJ.out];exact gW.out));have ai:=zAa HB.out hb HB.out.size;clear HS gW;go_wp2_with fail
      go_ret;exact ⟨zFs (by rw [HR.out]),ai⟩
   ·have j1:¬(i:Int) < (m:Int):=by omega
    have HR:=qH (show zAF L re lo (ogs Es)=0 by
     unfold zAF
     have:(ogs Es).all (zAg L.length)=true:=by
      rw [List.all_eq_true]
      intro o ho
      obtain ⟨e,he,rfl⟩:=List.mem_map.1 ho
      obtain ⟨j,hj⟩:=List.getElem?_of_mem he
      have hl:=(List.getElem?_eq_some_iff.1 hj).1
      have hx:=zBn hl
      rw [hj] at hx
      injection hx with hx
      rw [hx]
      exact HS.out j (by rw [aR.out] at hl;omega)
     rw [HV.out,this];rfl)
    clear HS;go_wp2_with fail
    go_ret;exact ⟨zFs (by rw [HR.out]),HB.out⟩
theorem zOi {A:Option Addr} {n c:Nat} {L:List Fg} {re lo:Int} {B:Option Addr} {m:Nat} {Es:List Oe} {E:Int} (h:zAF L re lo (ogs Es)=E) (d:Nat) (w:World) (hA:Fgs w A n L) (hO:Oprs w B m Es) :
  Calls Tryz.prog 24 #[frV A n c re lo,.slice B m d] w fun e w'=>e=.returned (.int .i64 E)∧Below w.heap.size w w':=by
 subst h;exact zMa A n c L re lo B m d Es w hA hO
def TOk (L:List Fg):Prop:=∀i,i < L.length→zAl (fa L i)=true
theorem frOk.tok {L:List Fg} {re lo:Int} (h:frOk L re lo):TOk L:=fun _ hi=>h.there hi
theorem TOk.len {L:List Fg} (h:TOk L) {f:Int} (h1:1≤f) (h2:f≤(L.length:Int)):(nmF L f).length≤43:=zJR (zGr (h (f-1).toNat (by omega)))
set_option maxHeartbeats 800000 in
theorem zQC (A:Option Addr) (n c:Nat) (L:List Fg) (re lo:Int) (f:Int) (w:World) (hA:Fgs w A n L) (hv:TOk L) (h1:1≤f) (h2:f≤(n:Int)) :
  Calls Tryz.prog 63 #[frV A n c re lo,.int .i64 f] w fun e w'=>e=.returned (.string (bA (nmF L f)))∧Below w.heap.size w w':=by
 have hle:=hA.le;have ah:Below w.heap.size w (w.alloc (.cells #[.slice A n c,.int .i64 re,.int .i64 lo] 24)):=(Below.refl _ _).alloc (Nat.le_refl _) _;have hA0:=hA.alloc (.cells #[.slice A n c,.int .i64 re,.int .i64 lo] 24);obtain ⟨i,hi⟩:∃i:Nat,f=(i:Int)+1:=⟨(f-1).toNat,by omega⟩
 have hin:i < n:=by omega
 obtain ⟨g,o,rfl,hg,⟨x0,x1,x2⟩,_⟩:=hA0.at_ hin;have hth:=hv i (by rw [hA.len];exact hin);have hnm:nmF L f=zAi (fa L i):=by unfold nmF;rw [hi,show ((i:Int)+1-1).toNat=i by omega]
 rw [hnm];have q0:IntKind.i64.wrap (f-1)=(i:Int):=by rw [hi,show (i:Int)+1-1=(i:Int) by omega];exact IntWalk.i64_in _ (by omega)
 have q1:wrap64 (f-1)=(i:Int):=by unfold wrap64;omega
 have q2:f-1=(i:Int):=by omega
 have j0:(0:Int)≤(i:Int):=by omega
 have j1:(i:Int) < (n:Int):=by omega
 generalize fa L i=x at x0 x1 x2 hth ⊢;have HN:=qH (zJT x hth (w.alloc (.cells #[.slice (some ⟨g,o,none⟩) n c,.int .i64 re,.int .i64 lo] 24)));clear hi hnm hth hA0 hA hin h1 h2;go_enter Tryz.func63,Tryz.ntmps63;go_wp2_with fail
 refine HN.out.mono ?_;rintro e w2 ⟨rfl,ai⟩;have al:=zAa ah ai ah.size;go_wp2_with fail
 go_ret;exact ⟨rfl,al⟩
theorem zGF {A:Option Addr} {n:Nat} {c:Nat} {L:List Fg} {re lo:Int} {f:Int} {S:List UInt8} (h:nmF L f=S) (w:World) (hA:Fgs w A n L) (hv:TOk L) (h1:1≤f) (h2:f≤(n:Int)) :
  Calls Tryz.prog 63 #[frV A n c re lo,.int .i64 f] w fun e w'=>e=.returned (.string (bA S))∧Below w.heap.size w w':=by
 subst h;exact zQC A n c L re lo f w hA hv h1 h2
theorem zMb (b:Bool) (Y Z:ByteArray) (w:World):Calls Tryz.prog 64 #[.bool b,.string Y,.string Z] w fun e w'=>e=.returned (.string (if b then Y else Z))∧w'=w:=by
 cases b
 all_goals
  go_enter Tryz.func64,Tryz.ntmps64;go_wp2_with fail
  go_ret;exact ⟨rfl,rfl⟩
theorem zHD {b:Bool} {Y Z:ByteArray} {S:List UInt8} (h:(if b then Y else Z)=bA S) (w:World):Calls Tryz.prog 64 #[.bool b,.string Y,.string Z] w fun e w'=>e=.returned (.string (bA S))∧w'=w:=by
 have:=zMb b Y Z w;rw [h] at this;exact this
theorem zKM {x:Int} {S:List UInt8} (h:Lib.itoa x=S) (hx:I64 x) (w:World):Calls Tryz.prog 78 #[.int .i64 x] w fun e w'=>e=.returned (.string (bA S))∧Below w.heap.size w w':=by
 subst h;exact zBh x hx w
set_option maxHeartbeats 6400000 in
set_option maxRecDepth 100000 in
theorem zQD (A:Option Addr) (n c:Nat) (L:List Fg) (re lo:Int) (s:Sg) (w:World) (hA:Fgs w A n L) (hv:TOk L) (hs:zAm n s=true) :
  Calls Tryz.prog 65 #[frV A n c re lo,sgV s] w fun e w'=>e=.returned (.string (bA (zAJ L s)))∧Below w.heap.size w w':=by
 obtain ⟨h1,h2,h3,h4,h5,h6⟩:=zAj.1 hs;have gz:=hv.len h1 (by rw [hA.len];exact h2);have uf:=zAM (x:=s.l) ⟨by omega,by omega⟩;have ue:=zAM (x:=s.pc) ⟨by omega,by omega⟩;obtain ⟨f,l,far,pc⟩:=s;simp only at h1 h2 h3 h4 h5 h6 gz uf ue ⊢;have hf:zAJ L ⟨f,l,far,pc⟩=nmF L f++([32]++zBx far)++(if l=0 then [] else [32,108,111,111,112,32]++Lib.itoa l)++(if pc=0 then [] else [32,112,105,101,99,101,32]++Lib.itoa pc):=by unfold zAJ;simp
 have vI:([32]++zBx far).length≤5:=by cases far<;>decide
 obtain ⟨NM,ey⟩:∃NM,nmF L f=NM:=⟨_,rfl⟩
 obtain ⟨SD,ng⟩:∃SD,[32]++zBx far=SD:=⟨_,rfl⟩
 have yd:(if far then (⟨#[32,102,97,114]⟩:ByteArray) else ⟨#[32,110,101,97,114]⟩)=bA SD:=by rw [←ng];cases far<;>rfl
 obtain ⟨IL,qg⟩:∃IL,Lib.itoa l=IL:=⟨_,rfl⟩
 obtain ⟨IP,qf⟩:∃IP,Lib.itoa pc=IP:=⟨_,rfl⟩
 rw [ey,ng,qg,qf] at hf;rw [ey] at gz;rw [ng] at vI;rw [qg] at uf;rw [qf] at ue;obtain ⟨T1,cD⟩:∃T,NM++SD=T:=⟨_,rfl⟩
 obtain ⟨Q1,dh⟩:∃T,T1++[32,108,111,111,112,32]=T:=⟨_,rfl⟩
 obtain ⟨T2,gn⟩:∃T,Q1++IL=T:=⟨_,rfl⟩
 obtain ⟨Q2,de⟩:∃T,T1++[32,112,105,101,99,101,32]=T:=⟨_,rfl⟩
 obtain ⟨T3,pD⟩:∃T,Q2++IP=T:=⟨_,rfl⟩
 obtain ⟨Q3,cJ⟩:∃T,T2++[32,112,105,101,99,101,32]=T:=⟨_,rfl⟩
 obtain ⟨T4,pC⟩:∃T,Q3++IP=T:=⟨_,rfl⟩
 have l1:T1.length≤48:=by rw [←cD];simp;omega
 have l2:Q1.length≤54:=by rw [←dh];simp;omega
 have l3:T2.length≤75:=by rw [←gn];simp;omega
 have l4:Q2.length≤55:=by rw [←de];simp;omega
 have l5:Q3.length≤82:=by rw [←cJ];simp;omega
 have s1:=zAp cD _ _ rfl rfl (by omega) (by omega);have s2:=zAp dh _ ⟨#[32,108,111,111,112,32]⟩ rfl rfl (by omega) (by simp);have s3:=zAp gn _ _ rfl rfl (by omega) (by omega);have s4:=zAp de _ ⟨#[32,112,105,101,99,101,32]⟩ rfl rfl (by omega) (by simp);have s5:=zAp pD _ _ rfl rfl (by omega) (by omega);have s6:=zAp cJ _ ⟨#[32,112,105,101,99,101,32]⟩ rfl rfl (by omega) (by simp);have s7:=zAp pC _ _ rfl rfl (by omega) (by omega)
 have HF:=qH (show zAJ L ⟨f,l,far,pc⟩=(if l=0 then (if pc=0 then T1 else T3) else (if pc=0 then T2 else T4)) by
  rw [hf,←pC,←pD,←cJ,←de,←gn,←dh,←cD]
  split<;>split<;>simp)
 clear hf cD gn pD pC dh de cJ l1 l2 l3 l4 l5;have jz:=qH ey;have AT:=qH yd;have nz:=qH (fun w=>zKM qg ⟨by omega,by omega⟩ w);have vx:=qH (fun w=>zKM qf ⟨by omega,by omega⟩ w);have tw:=qH (show 1≤f∧f≤(n:Int) from ⟨h1,h2⟩);have HA:=qH hA;have HB:=qH (Below.refl w.heap.size w);clear ey ng qg qf gz vI uf ue h1 h2 h3 h4 h5 h6 hs yd hA;go_enter Tryz.func65,Tryz.ntmps65;have hba:Below w.heap.size w ((w.alloc (.cells #[.slice A n c,.int .i64 re,.int .i64 lo] 24)).alloc (.cells #[.int .i64 f,.int .i64 l,.bool far,.int .i64 pc] 29)):=((Below.refl _ _).alloc (Nat.le_refl _) _).alloc (by simp) _;replace HA:=qH (HA.out.below hba);replace HB:=qH (zAa HB.out hba HB.out.size);have kf:=(Blk.new w 24 #[.slice A n c,.int .i64 re,.int .i64 lo]).alloc (.cells #[.int .i64 f,.int .i64 l,.bool far,.int .i64 pc] 29);have ks:Blk ((w.alloc (.cells #[.slice A n c,.int .i64 re,.int .i64 lo] 24)).alloc (.cells #[.int .i64 f,.int .i64 l,.bool far,.int .i64 pc] 29)) (w.heap.size+1) 29 #[.int .i64 f,.int .i64 l,.bool far,.int .i64 pc]:=heap_alloc2_new w _ _;clear hba;go_upto_region 1 with fail
 generalize (w.alloc (.cells #[.slice A n c,.int .i64 re,.int .i64 lo] 24)).alloc (.cells #[.int .i64 f,.int .i64 l,.bool far,.int .i64 pc] 29)=X at HA HB kf ks ⊢;go_cut [5] (fun v wv=>v=.string (bA T1)∧∃V:World,V=wv∧Below X.heap.size X V)
 case first =>
  have k0:∀wx,Below X.heap.size X wx→(Below X.heap.size X wx∧wx.cell? ⟨w.heap.size,0,none⟩=some (.slice A n c)∧wx.cell? ⟨w.heap.size,1,none⟩=some (.int .i64 re)∧wx.cell? ⟨w.heap.size,2,none⟩=some (.int .i64 lo)∧wx.cell? ⟨w.heap.size+1,0,none⟩=some (.int .i64 f)∧wx.cell? ⟨w.heap.size+1,2,none⟩=some (.bool far)):=fun wx h=>⟨h,((kf.below h kf.lt).cell 0).trans rfl,((kf.below h kf.lt).cell 1).trans rfl,((kf.below h kf.lt).cell 2).trans rfl,((ks.below h ks.lt).cell 0).trans rfl,((ks.below h ks.lt).cell 2).trans rfl⟩
  have KP:=qH k0;clear k0;have g0:=(KP.out X (Below.refl _ _)).2.1;have g1:=(KP.out X (Below.refl _ _)).2.2.1;have g2:=(KP.out X (Below.refl _ _)).2.2.2.1;have g3:=(KP.out X (Below.refl _ _)).2.2.2.2.1;have g4:=(KP.out X (Below.refl _ _)).2.2.2.2.2
  first
   | go_region_held3 (fun wx=>Below X.heap.size X wx∧wx.cell? ⟨w.heap.size,0,none⟩=some (.slice A n c)∧wx.cell? ⟨w.heap.size,1,none⟩=some (.int .i64 re)∧wx.cell? ⟨w.heap.size,2,none⟩=some (.int .i64 lo)∧wx.cell? ⟨w.heap.size+1,0,none⟩=some (.int .i64 f)∧wx.cell? ⟨w.heap.size+1,2,none⟩=some (.bool far)) (first | assumption | exact KP.out _ (Below.refl _ _).drew | exact KP.out _ (zAa (And.left (by assumption)) (by assumption) (Below.size (And.left (by assumption)))))
     (first
      | (go_at_call 63;refine (zGF jz.out _ (HA.out.below (And.left (by assumption))) hv tw.out.1 tw.out.2).mono ?_;rintro e wa ⟨rfl,hba⟩)
      | (go_at_call 64;refine (zHD AT.out _).mono ?_;rintro e wc ⟨rfl,rfl⟩))
   | fail
  all_goals
   have hbf:=And.left (show Below X.heap.size X _∧_ by assumption);clear g0 g1 g2 g3 g4;go_wp2_with fail
   go_meet
   case rel=>exact ⟨rfl,_,rfl,hbf⟩
 case rest =>
  obtain ⟨rfl,V,hV,hb⟩:=hcut;subst hV;replace HA:=qH (HA.out.below hb);replace HB:=qH (zAa HB.out hb HB.out.size);replace kf:=kf.below hb kf.lt;replace ks:=ks.below hb ks.lt;clear hb;by_cases ql:l=0
  ·have q0:(l != 0)=false:=by simp [ql]
   by_cases qp:pc=0
   ·have q1:(pc != 0)=false:=by simp [qp]
    have HR:=qH (show bA T1=bA (zAJ L ⟨f,l,far,pc⟩) by rw [HF.out,if_pos ql,if_pos qp]);clear ql qp;have c1:V.cell? ⟨w.heap.size+1,1,none⟩=some (.int .i64 l):=(ks.cell 1).trans rfl;have c3:V.cell? ⟨w.heap.size+1,3,none⟩=some (.int .i64 pc):=(ks.cell 3).trans rfl;go_wp2_with fail
    go_ret;exact ⟨zDl HR.out,HB.out⟩
   ·have q1:(pc != 0)=true:=by simpa using qp
    have HR:=qH (show bA T3=bA (zAJ L ⟨f,l,far,pc⟩) by rw [HF.out,if_pos ql,if_neg qp]);clear ql qp;have c1:V.cell? ⟨w.heap.size+1,1,none⟩=some (.int .i64 l):=(ks.cell 1).trans rfl;have c3:V.cell? ⟨w.heap.size+1,3,none⟩=some (.int .i64 pc):=(ks.cell 3).trans rfl;go_wp2_with fail
    refine (vx.out _).mono ?_;rintro e V2 ⟨rfl,hb⟩;clear c1 c3;replace HA:=qH (HA.out.below hb);replace HB:=qH (zAa HB.out hb HB.out.size);replace kf:=kf.below hb kf.lt;replace ks:=ks.below hb ks.lt;clear hb;go_wp2_with fail
    go_ret;exact ⟨zDl HR.out,HB.out⟩
  ·have q0:(l != 0)=true:=by simpa using ql
   by_cases qp:pc=0
   ·have q1:(pc != 0)=false:=by simp [qp]
    have HR:=qH (show bA T2=bA (zAJ L ⟨f,l,far,pc⟩) by rw [HF.out,if_neg ql,if_pos qp]);clear ql qp;have c1:V.cell? ⟨w.heap.size+1,1,none⟩=some (.int .i64 l):=(ks.cell 1).trans rfl;have c3:V.cell? ⟨w.heap.size+1,3,none⟩=some (.int .i64 pc):=(ks.cell 3).trans rfl;go_wp2_with fail
    refine (nz.out _).mono ?_;rintro e V1 ⟨rfl,hb⟩;clear c1 c3;replace HA:=qH (HA.out.below hb);replace HB:=qH (zAa HB.out hb HB.out.size);replace kf:=kf.below hb kf.lt;replace ks:=ks.below hb ks.lt;clear hb;have c3:V1.cell? ⟨w.heap.size+1,3,none⟩=some (.int .i64 pc):=(ks.cell 3).trans rfl;go_wp2_with fail
    go_ret;exact ⟨zDl HR.out,HB.out⟩
   ·have q1:(pc != 0)=true:=by simpa using qp
    have HR:=qH (show bA T4=bA (zAJ L ⟨f,l,far,pc⟩) by rw [HF.out,if_neg ql,if_neg qp]);clear ql qp;have c1:V.cell? ⟨w.heap.size+1,1,none⟩=some (.int .i64 l):=(ks.cell 1).trans rfl;have c3:V.cell? ⟨w.heap.size+1,3,none⟩=some (.int .i64 pc):=(ks.cell 3).trans rfl;go_wp2_with fail
    refine (nz.out _).mono ?_;rintro e V1 ⟨rfl,hb⟩;clear c1 c3;replace HA:=qH (HA.out.below hb);replace HB:=qH (zAa HB.out hb HB.out.size);replace kf:=kf.below hb kf.lt;replace ks:=ks.below hb ks.lt;clear hb;have c3:V1.cell? ⟨w.heap.size+1,3,none⟩=some (.int .i64 pc):=(ks.cell 3).trans rfl;go_wp2_with fail
    refine (vx.out _).mono ?_;rintro e V2 ⟨rfl,hb⟩;clear c3;replace HA:=qH (HA.out.below hb);replace HB:=qH (zAa HB.out hb HB.out.size);replace kf:=kf.below hb kf.lt;replace ks:=ks.below hb ks.lt;clear hb;go_wp2_with fail
    go_ret;exact ⟨zDl HR.out,HB.out⟩
theorem zMc {A:Option Addr} {n c:Nat} {L:List Fg} {re lo:Int} {s:Sg} {S:List UInt8} (h:zAJ L s=S) (w:World) (hA:Fgs w A n L) (hv:TOk L) (hs:zAm n s=true) :
  Calls Tryz.prog 65 #[frV A n c re lo,sgV s] w fun e w'=>e=.returned (.string (bA S))∧Below w.heap.size w w':=by
 subst h;exact zQD A n c L re lo s w hA hv hs
end Go.Proofs.YtlmdfmnbcndhoaaGreatDoor
