/-
  Lemmas, part 9. Conditions: each theorem's own.
-/
import Derived.Test.YtlmdfmnbcndhoaaGreatDoorRc08
open Go.Value renaming bool→G,int→D,slice→H,string→W
open Go.IntKind renaming i64→J
open Bool renaming false→E,true→Q
open Option renaming none→U,some→Z
namespace Go.Proofs.YtlmdfmnbcndhoaaGreatDoor
open Go.RowKit
def zCk (L:List Fg) (s:Sg):Bool:=decide ((fa L (s.f-1).toNat).p=1)&&decide (s.l=0)&&decide (s.pc=0)
def zDI (L:List Fg) (o:Og):Bool:=decide ((fa L (o.f-1).toNat).p=1)&&(decide (¬0 < o.fr.f)||zCk L o.fr)&&o.path.all fun x=>zCk L x.s
set_option maxHeartbeats 800000 in
theorem zGt (A:Option Addr) (n c:Nat) (L:List Fg) (re lo:Int) (s:Sg) (w:World) (hA:Fgs w A n L) (h1:1≤s.f) (h2:s.f≤(n:Int)) :
  Calls Tryz.prog 112 #[frV A n c re lo,sgV s] w fun e w'=>e=.returned (G (zCk L s))∧Below w.heap.size w w':=by
 have hle:=hA.le;have aa:Below w.heap.size w ((w.alloc (.cells #[H A n c,D J re,D J lo] 24)).alloc (.cells #[D J s.f,D J s.l,G s.far,D J s.pc] 29)):=((Below.refl _ _).alloc (Nat.le_refl _) _).alloc (by simp) _;have hA0:=hA.below aa;obtain ⟨i,hi⟩:∃i:Nat,s.f=(i:Int)+1:=⟨(s.f-1).toNat,by omega⟩
 have hin:i < n:=by omega
 obtain ⟨g,o,rfl,hg,⟨x0,x1,x2⟩,_⟩:=hA0.at_ hin;have hs:zCk L s=(decide ((fa L i).p=1)&&decide (s.l=0)&&decide (s.pc=0)):=by unfold zCk;rw [hi,show ((i:Int)+1-1).toNat=i by omega]
 have q1:wrap64 (s.f-1)=(i:Int):=by unfold wrap64;omega
 have q2:s.f-1=(i:Int):=by omega
 have j0:(0:Int)≤(i:Int):=by omega
 have j1:(i:Int) < (n:Int):=by omega
 generalize fa L i=x at x0 x1 x2 hs;obtain ⟨f,l,far,pc⟩:=s;obtain ⟨p,r,dg⟩:=x;simp only at x0 hs q1 q2 aa hg ⊢;clear hi hA0 hA hin h1 h2 x1 x2;by_cases e1:p=1
 ·subst e1;by_cases e2:l=0
  ·subst e2;by_cases e3:pc=0
   ·subst e3;have HS:=qH hs;clear hs;go_enter Tryz.func112,Tryz.ntmps112;go_wp2_with fail
    go_ret;exact ⟨zDL (by rw [HS.out];rfl),aa⟩
   ·have k3:(pc==0)=E:=by simpa using e3
    have HS:=qH (hs.trans (show _=E by simp [e3]));clear hs e3;go_enter Tryz.func112,Tryz.ntmps112;go_wp2_with fail
    go_ret;exact ⟨zDL (by rw [HS.out]),aa⟩
  ·have k2:(l==0)=E:=by simpa using e2
   have HS:=qH (hs.trans (show _=E by simp [e2]));clear hs e2;go_enter Tryz.func112,Tryz.ntmps112;go_wp2_with fail
   go_ret;exact ⟨zDL (by rw [HS.out]),aa⟩
 ·have k1:(p==1)=E:=by simpa using e1
  have HS:=qH (hs.trans (show _=E by simp [e1]));clear hs e1;go_enter Tryz.func112,Tryz.ntmps112;go_wp2_with fail
  go_ret;exact ⟨zDL (by rw [HS.out]),aa⟩
theorem zPd {L:List Fg} {s:Sg} {b:Bool} (h:zCk L s=b) (A:Option Addr) (n c:Nat) (re lo:Int) (w:World) (hA:Fgs w A n L) (h1:1≤s.f) (h2:s.f≤(n:Int)) :
  Calls Tryz.prog 112 #[frV A n c re lo,sgV s] w fun e w'=>e=.returned (G b)∧Below w.heap.size w w':=by
 subst h;exact zGt A n c L re lo s w hA h1 h2
set_option maxHeartbeats 800000 in
theorem zNF (A:Option Addr) (n c:Nat) (L:List Fg) (re lo:Int) (x:Sp) (b:Nat) (w:World) (hA:Fgs w A n L) (hk:Blk w b 24 #[H A n c,D J re,D J lo]) (h1:1≤x.s.f) (h2:x.s.f≤(n:Int)) :
  Calls Tryz.prog 114 #[spV x,.pointer (Z ⟨b,0,U⟩)] w fun e w'=>e=.returned (G (!zCk L x.s))∧Below w.heap.size w w':=by
 have aa:Below w.heap.size w (w.alloc (.cells #[D J x.s.f,D J x.s.l,G x.s.far,D J x.s.pc,G x.over] 86)):=(Below.refl _ _).alloc (Nat.le_refl _) _;have hk2:=hk.alloc (.cells #[D J x.s.f,D J x.s.l,G x.s.far,D J x.s.pc,G x.over] 86);have y0:=(hk2.cell 0).trans rfl;have y1:=(hk2.cell 1).trans rfl;have y2:=(hk2.cell 2).trans rfl;have HC:=qH (zGt A n c L re lo x.s _ (hA.below aa) h1 h2);go_enter Tryz.func114,Tryz.ntmps114;go_wp2_with fail
 refine HC.out.mono ?_;rintro e w2 ⟨rfl,ab⟩;have ac:=zAa aa ab aa.size;clear y0 y1 y2;go_wp2_with fail
 go_ret;exact ⟨rfl,ac⟩
def zOz (q:Bool) (k:Int):Prop:=if q then k = -1 else 0≤k
theorem zUe {L:List Fg} {x:Sp} {q:Bool} (h:zCk L x.s=q) (A:Option Addr) (n c:Nat) (re lo:Int) (b:Nat) (w:World) (hA:Fgs w A n L) (hk:Blk w b 24 #[H A n c,D J re,D J lo]) (h1:1≤x.s.f) (h2:x.s.f≤(n:Int)) :
  Calls Tryz.prog 114 #[spV x,.pointer (Z ⟨b,0,U⟩)] w fun e w'=>e=.returned (G (!q))∧Below w.heap.size w w':=by
 subst h;exact zNF A n c L re lo x b w hA hk h1 h2
theorem zRG {L:List Fg} {P:List Sp} (h:∀j,j < P.length→zCk L (pa P j).s=Q):(P.all fun x=>zCk L x.s)=Q:=by
 rw [List.all_eq_true];intro x hx;obtain ⟨i,hi⟩:=List.getElem?_of_mem hx;have hlt:=(List.getElem?_eq_some_iff.1 hi).1;have h2:=h i hlt;have h3:=zEA hlt;rw [hi] at h3;injection h3 with h3
 rw [h3];exact h2
theorem zLC {L:List Fg} {P:List Sp} {i:Nat} (hi:i < P.length) (h:zCk L (pa P i).s=E):(P.all fun x=>zCk L x.s)=E:=by
 cases e:(P.all fun x=>zCk L x.s) with
 | false=>rfl
 | true=>rw [List.all_eq_true] at e;have:=e _ (List.mem_of_getElem? (zEA hi));rw [h] at this;cases this
set_option maxHeartbeats 1600000 in
theorem zFT (A:Option Addr) (n c:Nat) (L:List Fg) (re lo:Int) (b:Nat) (B:Option Addr) (m d:Nat) (P:List Sp) (w:World) (hA:Fgs w A n L) (hk:Blk w b 24 #[H A n c,D J re,D J lo]) (hP:Stps w B m P) (hf:∀x∈P,1≤x.s.f∧x.s.f≤(n:Int)) :
  Calls Tryz.prog 157 #[H B m d,.func (.func 114) #[] #[.pointer (Z ⟨b,0,U⟩)]] w
   fun e w'=>∃k:Int,e=.returned (D J k)∧zOz (P.all fun x=>zCk L x.s) k∧Below w.heap.size w w':=by
 have hle:=hP.le;have aN:=qH hP.len;have HF:=qH hf;clear hf;go_enter Tryz.func157,Tryz.ntmps157;go_wp2_with fail
 go_loopw [8] (fun v wr=>∃i:Nat,i≤m∧v=D J i∧Below w.heap.size w wr∧Hid (∀j:Nat,j < i→zCk L (pa P j).s=Q)) (fun v _=>m-(intOf v).toNat)
 case atStart=>exact ⟨0,Nat.zero_le _,rfl,Below.refl _ _,qH (fun j hj=>by omega)⟩
 case round =>
  obtain ⟨i,hi,rfl,hbr,HS⟩:=hrel;by_cases hlt:i < m
  ·obtain ⟨g,p,rfl,hg,⟨x0,x1,x2,x3,x4⟩,_⟩:=(hP.below hbr).at_ hlt;have j0:(0:Int)≤(i:Int):=by omega
   have j1:(i:Int) < (m:Int):=by omega
   have hil:i < P.length:=by rw [aN.out];exact hlt
   have hfi:=HF.out _ (List.mem_of_getElem? (zEA hil));obtain ⟨q,hq⟩:∃q,zCk L (pa P i).s=q:=⟨_,rfl⟩
   have HQ:=qH hq;have HC:=qH (zUe hq A n c re lo b wr (hA.below hbr) (hk.below hbr hk.lt) hfi.1 hfi.2);have oM:=qH hil;clear hq hfi hil;generalize pa P i=x at x0 x1 x2 x3 x4 HC;obtain ⟨⟨xf,xl,xfar,xpc⟩,xo⟩:=x;simp only at x0 x1 x2 x3 x4
   cases q with
   | true =>
    have et:=qH (show ∀j:Nat,j < i+1→zCk L (pa P j).s=Q from fun j hj=>by
     rcases Nat.decEq j i with e | e
     ·exact HS.out j (by omega)
     ·subst e;exact HQ.out)
    clear HS HQ oM;go_wp2_with fail
    refine HC.out.mono ?_;rintro e w5 ⟨rfl,ai⟩;have ao:=zAa hbr ai hbr.size;clear x0 x1 x2 x3 x4;go_wp2_with fail
    go_roundw
    case rel=>exact ⟨i+1,by omega,by go_num,ao,et⟩
    case measure=>simp [intOf];omega
   | false =>
    have hr:=qH (show zOz (P.all fun x=>zCk L x.s) (i:Int) by rw [zLC oM.out HQ.out];unfold zOz;rw [if_neg (by decide)];omega);clear HS HQ oM;go_wp2_with fail
    refine HC.out.mono ?_;rintro e w5 ⟨rfl,ai⟩;have ao:=zAa hbr ai hbr.size;clear x0 x1 x2 x3 x4;go_wp2_with fail
    go_ret;exact ⟨_,rfl,hr.out,ao⟩
  ·have j1:¬(i:Int) < (m:Int):=by omega
   have hr:=qH (show zOz (P.all fun x=>zCk L x.s) (-1) by rw [zRG (fun j hj=>HS.out j (by rw [aN.out] at hj;omega))];unfold zOz;rw [if_pos rfl]);clear HS;go_wp2_with fail
   go_ret;exact ⟨_,rfl,hr.out,hbr⟩
theorem zEv (A:Option Addr) (n c:Nat) (L:List Fg) (re lo:Int) (b:Nat) (B:Option Addr) (m d:Nat) (P:List Sp) (w:World) (hA:Fgs w A n L) (hk:Blk w b 24 #[H A n c,D J re,D J lo]) (hP:Stps w B m P) (hf:∀x∈P,1≤x.s.f∧x.s.f≤(n:Int)) :
  Calls Tryz.prog 113 #[H B m d,.func (.func 114) #[] #[.pointer (Z ⟨b,0,U⟩)]] w
   fun e w'=>e=.returned (G (!(P.all fun x=>zCk L x.s)))∧Below w.heap.size w w':=by
 have HC:=qH (zFT A n c L re lo b B m d P w hA hk hP hf);go_enter Tryz.func113,Tryz.ntmps113;go_wp2_with fail
 refine HC.out.mono ?_;rintro e w2 ⟨k,rfl,hk2,ab⟩;have HK:=qH hk2;clear hk2;go_wp2_with fail
 go_ret;refine ⟨zDL ?_,ab⟩;have h:=HK.out;unfold zOz at h
 cases hq:(P.all fun x=>zCk L x.s) with
 | true=>rw [hq,if_pos rfl] at h;simp [h]
 | false=>rw [hq] at h;simp at h;simp [h]
theorem zKp {L:List Fg} {P:List Sp} {q:Bool} (h:(P.all fun x=>zCk L x.s)=q) (A:Option Addr) (n c:Nat) (re lo:Int) (b:Nat) (B:Option Addr) (m d:Nat) (w:World) (hA:Fgs w A n L) (hk:Blk w b 24 #[H A n c,D J re,D J lo]) (hP:Stps w B m P) (hf:∀x∈P,1≤x.s.f∧x.s.f≤(n:Int)) :
  Calls Tryz.prog 113 #[H B m d,.func (.func 114) #[] #[.pointer (Z ⟨b,0,U⟩)]] w
   fun e w'=>e=.returned (G (!q))∧Below w.heap.size w w':=by
 subst h;exact zEv A n c L re lo b B m d P w hA hk hP hf
theorem zLD {k:Nat} {o:Og} (h:zAq k o=Q):0≤o.fr.f∧o.fr.f≤(k:Int):=by
 have hk:=zCe h;by_cases e:o.kind=3∨o.kind=5∨o.kind=6∨o.kind=7
 ·have:=zAC.1 (hk.2.2.2.2.2 e);omega
 ·have h5:zDN k o=Q:=by unfold zAq at h;simp only [Bool.and_eq_true] at h;exact h.2
  have hz:o.fr=s0:=by
   unfold zDN at h5;by_cases e1:o.kind=1∨o.kind=2∨o.kind=8
   ·rw [if_pos e1] at h5;simp only [Bool.and_eq_true] at h5;exact zLx.1 h5.2
   ·rw [if_neg e1] at h5;by_cases e2:o.kind=4
    ·rw [if_pos e2] at h5;exact zLx.1 h5
    ·omega
  rw [hz];simp [s0]
set_option maxHeartbeats 3200000 in
theorem zKq (A:Option Addr) (n c:Nat) (L:List Fg) (re lo:Int) (o:Og) (B:Option Addr) (m d:Nat) (w:World) (hA:Fgs w A n L) (hO:OpIn w o B m d) (hr:zAq n o=Q) :
  Calls Tryz.prog 67 #[frV A n c re lo,opV o B m d] w fun e w'=>e=.returned (G (zDI L o))∧Below w.heap.size w w':=by
 have hle:=hA.le;obtain ⟨h1,h8,eX,aP,hpn,_⟩:=zCe hr;obtain ⟨Bx,wF⟩:=zLD hr;have hP:=hO.path;have hpf:∀x∈o.path,1≤x.s.f∧x.s.f≤(n:Int):=fun x hx=>by have:=zAC.1 (hpn x hx);exact ⟨this.1,this.2.1⟩
 have hcan:zDI L o=(decide ((fa L (o.f-1).toNat).p=1)&&(decide (¬0 < o.fr.f)||zCk L o.fr)&&o.path.all fun x=>zCk L x.s):=rfl;obtain ⟨kind,f,⟨ff,fl,ffar,fpc⟩,path,over⟩:=o;simp only at h1 h8 eX aP Bx wF hP hpf hcan ⊢;have aa:Below w.heap.size w ((w.alloc (.cells #[H A n c,D J re,D J lo] 24)).alloc (.cells #[D J kind,D J f,D J ff,D J fl,G ffar,D J fpc,H B m d,G over] 32)):=((Below.refl _ _).alloc (Nat.le_refl _) _).alloc (by simp) _;have hk0:=(Blk.new w 24 #[H A n c,D J re,D J lo]).alloc (.cells #[D J kind,D J f,D J ff,D J fl,G ffar,D J fpc,H B m d,G over] 32);have ag:Blk ((w.alloc (.cells #[H A n c,D J re,D J lo] 24)).alloc (.cells #[D J kind,D J f,D J ff,D J fl,G ffar,D J fpc,H B m d,G over] 32)) (w.heap.size+1) 32 #[D J kind,D J f,D J ff,D J fl,G ffar,D J fpc,H B m d,G over]:=heap_alloc2_new w _ _;have hA0:=hA.below aa;have mK:=hP.below aa;obtain ⟨i,hi⟩:∃i:Nat,f=(i:Int)+1:=⟨(f-1).toNat,by omega⟩
 have hin:i < n:=by omega
 obtain ⟨g,p,zx,hg,⟨x0,_,_⟩,_⟩:=hA0.at_ hin;rw [show (f-1).toNat=i by omega] at hcan;have q1:wrap64 (f-1)=(i:Int):=by unfold wrap64;omega
 have q2:f-1=(i:Int):=by omega
 have j0:(0:Int)≤(i:Int):=by omega
 have j1:(i:Int) < (n:Int):=by omega
 generalize fa L i=x at x0 hcan;obtain ⟨xp,xr,xd⟩:=x;simp only at x0 hcan;obtain ⟨qa,hqa⟩:∃q,(path.all fun x=>zCk L x.s)=q:=⟨_,rfl⟩
 have GE:=qH (fun wx (eq:Fgs wx A n L) hkx hPx=>zKp hqa A n c re lo w.heap.size B m d wx eq hkx hPx hpf);rw [hqa] at hcan;obtain ⟨qs,hqs⟩:∃q,zCk L ⟨ff,fl,ffar,fpc⟩=q:=⟨_,rfl⟩
 have HFF:=qH wF;have GA:=qH (fun wx (eq:Fgs wx A n L) h1=>zPd hqs A n c re lo wx eq h1 HFF.out);rw [hqs] at hcan;clear hqa hqs hi hin hpn hpf h1 h8 eX aP hO hP hA;by_cases e1:xp=1
 ·subst e1;by_cases e2:0 < ff
  ·have Ae:=qH e2
   cases qs with
   | true =>
    have gA:=qH (hcan.trans (show _=qa by simp));clear hcan;subst zx;go_enter Tryz.func67,Tryz.ntmps67;go_wp2_with fail
    generalize (w.alloc (.cells #[H (Z ⟨g,p,U⟩) n c,D J re,D J lo] 24)).alloc (.cells #[D J kind,D J f,D J ff,D J fl,G ffar,D J fpc,H B m d,G over] 32)=ZR at aa hk0 ag hA0 mK ⊢;refine (GA.out _ hA0 (show (1:Int)≤ff by have:=Ae.out;omega)).mono ?_;rintro e w2 ⟨rfl,ab⟩;have ac:=zAa aa ab aa.size;have aP:=hk0.below ab hk0.lt;have oz:=ag.below ab ag.lt;have e6:w2.cell? ⟨w.heap.size+1,6,U⟩=Z (H B m d):=(oz.cell 6).trans rfl;have dn:=hA0.below ab;have wY:=mK.below ab;go_wp2_with fail
    refine (GE.out _ dn aP wY).mono ?_;rintro e w4 ⟨rfl,aj⟩;have ai:=zAa ac aj ac.size;clear e6;go_wp2_with fail
    go_ret;exact ⟨zDL (by rw [gA.out]),ai⟩
   | false =>
    have gA:=qH (hcan.trans (show _=E by simp [e2]));clear hcan;subst zx;go_enter Tryz.func67,Tryz.ntmps67;go_wp2_with fail
    generalize (w.alloc (.cells #[H (Z ⟨g,p,U⟩) n c,D J re,D J lo] 24)).alloc (.cells #[D J kind,D J f,D J ff,D J fl,G ffar,D J fpc,H B m d,G over] 32)=ZR at aa hk0 ag hA0 mK ⊢;refine (GA.out _ hA0 (show (1:Int)≤ff by have:=Ae.out;omega)).mono ?_;rintro e w2 ⟨rfl,ab⟩;have ac:=zAa aa ab aa.size;go_wp2_with fail
    go_ret;exact ⟨zDL (by rw [gA.out]),ac⟩
  ·have gA:=qH (hcan.trans (show _=qa by simp [e2]));clear hcan;subst zx;go_enter Tryz.func67,Tryz.ntmps67;go_wp2_with fail
   refine (GE.out _ hA0 hk0 mK).mono ?_;rintro e w4 ⟨rfl,aj⟩;have ai:=zAa aa aj aa.size;go_wp2_with fail
   go_ret;exact ⟨zDL (by rw [gA.out]),ai⟩
 ·have k1:(xp != 1)=Q:=by simpa using e1
  have gA:=qH (hcan.trans (show _=E by simp [e1]));clear hcan e1;subst zx;go_enter Tryz.func67,Tryz.ntmps67;go_wp2_with fail
  go_ret;exact ⟨zDL (by rw [gA.out]),aa⟩
def zAX (b:Bool):List UInt8:=if b then [111] else [117]
def zDC (L:List Fg) (s:Sg):List UInt8:=nmF L s.f++(if s.far then [102] else [110])
theorem zKr (b:Bool) (w:World):Calls Tryz.prog 115 #[G b] w fun e w'=>e=.returned (W (bA (zAX b)))∧w'=w:=by
 have x0:∀w:World,(Instr.slice 9 (W (bA (zBf Q))) U (Z (D J 1)) U).run Tryz.prog w=.ok (W (bA [111])) w:=fun _=>by kernel_rfl
 have x1:∀w:World,(Instr.slice 9 (W (bA (zBf E))) U (Z (D J 1)) U).run Tryz.prog w=.ok (W (bA [117])) w:=fun _=>by kernel_rfl
 cases b
 all_goals
  go_enter Tryz.func115,Tryz.ntmps115;go_wp2_with fail
  refine (zIy _ _).mono ?_;rintro e w2 ⟨rfl,rfl⟩;go_wp2_with fail
  go_ret;exact ⟨rfl,rfl⟩
theorem zCt {L:List Fg} {re lo:Int} (hv:frOk L re lo) {s:Sg} (h1:1≤s.f) (h2:s.f≤(L.length:Int)):(zDC L s).length≤44:=by
 have:=zBH hv h1 h2;unfold zDC;split<;>simp<;>omega
set_option maxHeartbeats 3200000 in
set_option maxRecDepth 100000 in
theorem zLE (A:Option Addr) (n c:Nat) (L:List Fg) (re lo:Int) (s:Sg) (w:World) (hA:Fgs w A n L) (hv:frOk L re lo) (h1:1≤s.f) (h2:s.f≤(n:Int)) :
  Calls Tryz.prog 116 #[frV A n c re lo,sgV s] w fun e w'=>e=.returned (W (bA (zDC L s)))∧Below w.heap.size w w':=by
 have jr:=zBH hv h1 (by rw [hA.len];exact h2);obtain ⟨f,l,far,pc⟩:=s;simp only at h1 h2 jr ⊢;have hx:∀w:World,(Instr.slice 9 (W (bA (zCA far))) U (Z (D J 1)) U).run Tryz.prog w=.ok (W (bA (if far then [102] else [110]))) w:=fun _=>by
  cases far
  ·kernel_rfl
  ·kernel_rfl
 have hf:zDC L ⟨f,l,far,pc⟩=nmF L f++(if far then [102] else [110]):=rfl;have hS:(if far then [102] else [110]:List UInt8).length≤1:=by cases far<;>simp
 generalize (if far then [102] else [110]:List UInt8)=SH at hx hf hS;obtain ⟨SD,rN⟩:∃T,zCA far=T:=⟨_,rfl⟩
 rw [rN] at hx;obtain ⟨NM,fc⟩:∃NM,nmF L f=NM:=⟨_,rfl⟩
 rw [fc] at hf jr;obtain ⟨T1,dm⟩:∃T,NM++SH=T:=⟨_,rfl⟩
 have s1:=zAS dm _ _ rfl rfl (by omega) (by omega);rw [dm] at hf;have mO:=qH fc;have u9:=qH rN;have HF:=qH hf;have yG:=qH (show 1≤f∧f≤(n:Int) from ⟨h1,h2⟩);have aa:Below w.heap.size w ((w.alloc (.cells #[H A n c,D J re,D J lo] 24)).alloc (.cells #[D J f,D J l,G far,D J pc] 29)):=((Below.refl _ _).alloc (Nat.le_refl _) _).alloc (by simp) _;have hk0:=(Blk.new w 24 #[H A n c,D J re,D J lo]).alloc (.cells #[D J f,D J l,G far,D J pc] 29);have ag:Blk ((w.alloc (.cells #[H A n c,D J re,D J lo] 24)).alloc (.cells #[D J f,D J l,G far,D J pc] 29)) (w.heap.size+1) 29 #[D J f,D J l,G far,D J pc]:=heap_alloc2_new w _ _;have hA0:=hA.below aa;clear hf fc dm jr h1 h2 rN hS hA;go_enter Tryz.func116,Tryz.ntmps116;go_wp2_with fail
 generalize (w.alloc (.cells #[H A n c,D J re,D J lo] 24)).alloc (.cells #[D J f,D J l,G far,D J pc] 29)=ZR at aa hk0 ag hA0 ⊢
 have KP:=qH (show ∀wx,Below ZR.heap.size ZR wx→(Below ZR.heap.size ZR wx∧wx.cell? ⟨w.heap.size,0,U⟩=Z (H A n c)∧wx.cell? ⟨w.heap.size,1,U⟩=Z (D J re)∧wx.cell? ⟨w.heap.size,2,U⟩=Z (D J lo)∧wx.cell? ⟨w.heap.size+1,0,U⟩=Z (D J f)∧wx.cell? ⟨w.heap.size+1,1,U⟩=Z (D J l)∧wx.cell? ⟨w.heap.size+1,2,U⟩=Z (G far)∧wx.cell? ⟨w.heap.size+1,3,U⟩=Z (D J pc)) from
  fun wx h=>⟨h,((hk0.below h hk0.lt).cell 0).trans rfl,((hk0.below h hk0.lt).cell 1).trans rfl,((hk0.below h hk0.lt).cell 2).trans rfl,((ag.below h ag.lt).cell 0).trans rfl,((ag.below h ag.lt).cell 1).trans rfl,((ag.below h ag.lt).cell 2).trans rfl,((ag.below h ag.lt).cell 3).trans rfl⟩)
 first
  | go_region_held3 (fun wx=>Below ZR.heap.size ZR wx∧wx.cell? ⟨w.heap.size,0,U⟩=Z (H A n c)∧wx.cell? ⟨w.heap.size,1,U⟩=Z (D J re)∧wx.cell? ⟨w.heap.size,2,U⟩=Z (D J lo)∧wx.cell? ⟨w.heap.size+1,0,U⟩=Z (D J f)∧wx.cell? ⟨w.heap.size+1,1,U⟩=Z (D J l)∧wx.cell? ⟨w.heap.size+1,2,U⟩=Z (G far)∧wx.cell? ⟨w.heap.size+1,3,U⟩=Z (D J pc)) (first | assumption | exact KP.out _ (Below.refl _ _).drew | exact KP.out _ (zAa (And.left (by assumption)) (by assumption) (Below.size (And.left (by assumption)))))
    (first
     | (go_at_call 107;refine (zDs mO.out _ (hA0.below (And.left (by assumption))) hv yG.out.1 yG.out.2).mono ?_;rintro e wa ⟨rfl,hba⟩)
     | (go_at_call 155;refine (zPa u9.out _).mono ?_;rintro e wc ⟨rfl,rfl⟩))
  | fail
 all_goals
  have hbf:=zAa aa (And.left (show Below ZR.heap.size ZR _∧_ from by assumption)) aa.size;go_wp2_with fail
  go_ret;exact ⟨zGD (by rw [HF.out]),hbf⟩
theorem zJc {A:Option Addr} {n c:Nat} {L:List Fg} {re lo:Int} {s:Sg} {S:List UInt8} (h:zDC L s=S) (w:World) (hA:Fgs w A n L) (hv:frOk L re lo) (h1:1≤s.f) (h2:s.f≤(n:Int)) :
  Calls Tryz.prog 116 #[frV A n c re lo,sgV s] w fun e w'=>e=.returned (W (bA S))∧Below w.heap.size w w':=by
 subst h;exact zLE A n c L re lo s w hA hv h1 h2
theorem zDa {b:Bool} {S:List UInt8} (h:zAX b=S) (w:World):Calls Tryz.prog 115 #[G b] w fun e w'=>e=.returned (W (bA S))∧w'=w:=by
 subst h;exact zKr b w
end Go.Proofs.YtlmdfmnbcndhoaaGreatDoor
