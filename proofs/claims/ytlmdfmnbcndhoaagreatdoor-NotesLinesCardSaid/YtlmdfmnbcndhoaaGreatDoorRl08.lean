/-
  Lemmas, part 8. Conditions: each theorem's own.
-/
import Derived.Test.YtlmdfmnbcndhoaaGreatDoorRl07
namespace Go.Proofs.YtlmdfmnbcndhoaaGreatDoor
open Go.RowKit
def zBV (L:List Fg) (s:Sg):Bool:=decide ((fa L (s.f-1).toNat).p=1)&&decide (s.l=0)&&decide (s.pc=0)
def zDn (L:List Fg) (o:Og):Bool:=decide ((fa L (o.f-1).toNat).p=1)&&(decide (¬0 < o.fr.f)||zBV L o.fr)&&o.path.all fun x=>zBV L x.s
set_option maxHeartbeats 800000 in
theorem zGa (A:Option Addr) (n c:Nat) (L:List Fg) (re lo:Int) (s:Sg) (w:World) (hA:Fgs w A n L) (h1:1≤s.f) (h2:s.f≤(n:Int)) :
  Calls Tryz.prog 112 #[frV A n c re lo,sgV s] w fun e w'=>e=.returned (.bool (zBV L s))∧Below w.heap.size w w':=by
 have hle:=hA.le;have ah:Below w.heap.size w ((w.alloc (.cells #[.slice A n c,.int .i64 re,.int .i64 lo] 24)).alloc (.cells #[.int .i64 s.f,.int .i64 s.l,.bool s.far,.int .i64 s.pc] 29)):=((Below.refl _ _).alloc (Nat.le_refl _) _).alloc (by simp) _;have hA0:=hA.below ah;obtain ⟨i,hi⟩:∃i:Nat,s.f=(i:Int)+1:=⟨(s.f-1).toNat,by omega⟩
 have hin:i < n:=by omega
 obtain ⟨g,o,rfl,hg,⟨x0,x1,x2⟩,_⟩:=hA0.at_ hin;have hs:zBV L s=(decide ((fa L i).p=1)&&decide (s.l=0)&&decide (s.pc=0)):=by unfold zBV;rw [hi,show ((i:Int)+1-1).toNat=i by omega]
 have q1:wrap64 (s.f-1)=(i:Int):=by unfold wrap64;omega
 have q2:s.f-1=(i:Int):=by omega
 have j0:(0:Int)≤(i:Int):=by omega
 have j1:(i:Int) < (n:Int):=by omega
 generalize fa L i=x at x0 x1 x2 hs;obtain ⟨f,l,far,pc⟩:=s;obtain ⟨p,r,dg⟩:=x;simp only at x0 hs q1 q2 ah hg ⊢;clear hi hA0 hA hin h1 h2 x1 x2;by_cases e1:p=1
 ·subst e1;by_cases e2:l=0
  ·subst e2;by_cases e3:pc=0
   ·subst e3;have HS:=qH hs;clear hs;go_enter Tryz.func112,Tryz.ntmps112;go_wp2_with fail
    go_ret;exact ⟨zBU (by rw [HS.out];rfl),ah⟩
   ·have k3:(pc==0)=false:=by simpa using e3
    have HS:=qH (hs.trans (show _=false by simp [e3]));clear hs e3;go_enter Tryz.func112,Tryz.ntmps112;go_wp2_with fail
    go_ret;exact ⟨zBU (by rw [HS.out]),ah⟩
  ·have k2:(l==0)=false:=by simpa using e2
   have HS:=qH (hs.trans (show _=false by simp [e2]));clear hs e2;go_enter Tryz.func112,Tryz.ntmps112;go_wp2_with fail
   go_ret;exact ⟨zBU (by rw [HS.out]),ah⟩
 ·have k1:(p==1)=false:=by simpa using e1
  have HS:=qH (hs.trans (show _=false by simp [e1]));clear hs e1;go_enter Tryz.func112,Tryz.ntmps112;go_wp2_with fail
  go_ret;exact ⟨zBU (by rw [HS.out]),ah⟩
theorem zOM {L:List Fg} {s:Sg} {b:Bool} (h:zBV L s=b) (A:Option Addr) (n c:Nat) (re lo:Int) (w:World) (hA:Fgs w A n L) (h1:1≤s.f) (h2:s.f≤(n:Int)) :
  Calls Tryz.prog 112 #[frV A n c re lo,sgV s] w fun e w'=>e=.returned (.bool b)∧Below w.heap.size w w':=by
 subst h;exact zGa A n c L re lo s w hA h1 h2
set_option maxHeartbeats 800000 in
theorem zNt (A:Option Addr) (n c:Nat) (L:List Fg) (re lo:Int) (x:Sp) (b:Nat) (w:World) (hA:Fgs w A n L) (hk:Blk w b 24 #[.slice A n c,.int .i64 re,.int .i64 lo]) (h1:1≤x.s.f) (h2:x.s.f≤(n:Int)) :
  Calls Tryz.prog 114 #[spV x,.pointer (some ⟨b,0,none⟩)] w fun e w'=>e=.returned (.bool (!zBV L x.s))∧Below w.heap.size w w':=by
 have ah:Below w.heap.size w (w.alloc (.cells #[.int .i64 x.s.f,.int .i64 x.s.l,.bool x.s.far,.int .i64 x.s.pc,.bool x.over] 86)):=(Below.refl _ _).alloc (Nat.le_refl _) _;have hk2:=hk.alloc (.cells #[.int .i64 x.s.f,.int .i64 x.s.l,.bool x.s.far,.int .i64 x.s.pc,.bool x.over] 86);have y0:=(hk2.cell 0).trans rfl;have y1:=(hk2.cell 1).trans rfl;have y2:=(hk2.cell 2).trans rfl;have HC:=qH (zGa A n c L re lo x.s _ (hA.below ah) h1 h2);go_enter Tryz.func114,Tryz.ntmps114;go_wp2_with fail
 refine HC.out.mono ?_;rintro e w2 ⟨rfl,ai⟩;have al:=zAa ah ai ah.size;clear y0 y1 y2;go_wp2_with fail
 go_ret;exact ⟨rfl,al⟩
def zOo (q:Bool) (k:Int):Prop:=if q then k = -1 else 0≤k
theorem zTG {L:List Fg} {x:Sp} {q:Bool} (h:zBV L x.s=q) (A:Option Addr) (n c:Nat) (re lo:Int) (b:Nat) (w:World) (hA:Fgs w A n L) (hk:Blk w b 24 #[.slice A n c,.int .i64 re,.int .i64 lo]) (h1:1≤x.s.f) (h2:x.s.f≤(n:Int)) :
  Calls Tryz.prog 114 #[spV x,.pointer (some ⟨b,0,none⟩)] w fun e w'=>e=.returned (.bool (!q))∧Below w.heap.size w w':=by
 subst h;exact zNt A n c L re lo x b w hA hk h1 h2
theorem zRf {L:List Fg} {P:List Sp} (h:∀j,j < P.length→zBV L (pa P j).s=true):(P.all fun x=>zBV L x.s)=true:=by
 rw [List.all_eq_true];intro x hx;obtain ⟨i,hi⟩:=List.getElem?_of_mem hx;have hlt:=(List.getElem?_eq_some_iff.1 hi).1;have h2:=h i hlt;have h3:=zCG hlt;rw [hi] at h3;injection h3 with h3
 rw [h3];exact h2
theorem zLj {L:List Fg} {P:List Sp} {i:Nat} (hi:i < P.length) (h:zBV L (pa P i).s=false):(P.all fun x=>zBV L x.s)=false:=by
 cases e:(P.all fun x=>zBV L x.s) with
 | false=>rfl
 | true=>rw [List.all_eq_true] at e;have:=e _ (List.mem_of_getElem? (zCG hi));rw [h] at this;cases this
set_option maxHeartbeats 1600000 in
theorem zFw (A:Option Addr) (n c:Nat) (L:List Fg) (re lo:Int) (b:Nat) (B:Option Addr) (m d:Nat) (P:List Sp) (w:World) (hA:Fgs w A n L) (hk:Blk w b 24 #[.slice A n c,.int .i64 re,.int .i64 lo]) (hP:Stps w B m P) (hf:∀x∈P,1≤x.s.f∧x.s.f≤(n:Int)) :
  Calls Tryz.prog 157 #[.slice B m d,.func (.func 114) #[] #[.pointer (some ⟨b,0,none⟩)]] w
   fun e w'=>∃k:Int,e=.returned (.int .i64 k)∧zOo (P.all fun x=>zBV L x.s) k∧Below w.heap.size w w':=by
 have hle:=hP.le;have aM:=qH hP.len;have HF:=qH hf;clear hf;go_enter Tryz.func157,Tryz.ntmps157;go_wp2_with fail
 go_loopw [8] (fun v wr=>∃i:Nat,i≤m∧v=.int .i64 i∧Below w.heap.size w wr∧Hid (∀j:Nat,j < i→zBV L (pa P j).s=true)) (fun v _=>m-(intOf v).toNat)
 case atStart=>exact ⟨0,Nat.zero_le _,rfl,Below.refl _ _,qH (fun j hj=>by omega)⟩
 case round =>
  obtain ⟨i,hi,rfl,hbr,HS⟩:=hrel;by_cases hlt:i < m
  ·obtain ⟨g,p,rfl,hg,⟨x0,x1,x2,x3,x4⟩,_⟩:=(hP.below hbr).at_ hlt;have j0:(0:Int)≤(i:Int):=by omega
   have j1:(i:Int) < (m:Int):=by omega
   have hil:i < P.length:=by rw [aM.out];exact hlt
   have hfi:=HF.out _ (List.mem_of_getElem? (zCG hil));obtain ⟨q,hq⟩:∃q,zBV L (pa P i).s=q:=⟨_,rfl⟩
   have HQ:=qH hq;have HC:=qH (zTG hq A n c re lo b wr (hA.below hbr) (hk.below hbr hk.lt) hfi.1 hfi.2);have nz:=qH hil;clear hq hfi hil;generalize pa P i=x at x0 x1 x2 x3 x4 HC;obtain ⟨⟨xf,xl,xfar,xpc⟩,xo⟩:=x;simp only at x0 x1 x2 x3 x4
   cases q with
   | true =>
    have cn:=qH (show ∀j:Nat,j < i+1→zBV L (pa P j).s=true from fun j hj=>by
     rcases Nat.decEq j i with e | e
     ·exact HS.out j (by omega)
     ·subst e;exact HQ.out)
    clear HS HQ nz;go_wp2_with fail
    refine HC.out.mono ?_;rintro e w5 ⟨rfl,aw⟩;have aH:=zAa hbr aw hbr.size;clear x0 x1 x2 x3 x4;go_wp2_with fail
    go_roundw
    case rel=>exact ⟨i+1,by omega,by go_num,aH,cn⟩
    case measure=>simp [intOf];omega
   | false =>
    have hr:=qH (show zOo (P.all fun x=>zBV L x.s) (i:Int) by rw [zLj nz.out HQ.out];unfold zOo;rw [if_neg (by decide)];omega);clear HS HQ nz;go_wp2_with fail
    refine HC.out.mono ?_;rintro e w5 ⟨rfl,aw⟩;have aH:=zAa hbr aw hbr.size;clear x0 x1 x2 x3 x4;go_wp2_with fail
    go_ret;exact ⟨_,rfl,hr.out,aH⟩
  ·have j1:¬(i:Int) < (m:Int):=by omega
   have hr:=qH (show zOo (P.all fun x=>zBV L x.s) (-1) by rw [zRf (fun j hj=>HS.out j (by rw [aM.out] at hj;omega))];unfold zOo;rw [if_pos rfl]);clear HS;go_wp2_with fail
   go_ret;exact ⟨_,rfl,hr.out,hbr⟩
theorem zDY (A:Option Addr) (n c:Nat) (L:List Fg) (re lo:Int) (b:Nat) (B:Option Addr) (m d:Nat) (P:List Sp) (w:World) (hA:Fgs w A n L) (hk:Blk w b 24 #[.slice A n c,.int .i64 re,.int .i64 lo]) (hP:Stps w B m P) (hf:∀x∈P,1≤x.s.f∧x.s.f≤(n:Int)) :
  Calls Tryz.prog 113 #[.slice B m d,.func (.func 114) #[] #[.pointer (some ⟨b,0,none⟩)]] w
   fun e w'=>e=.returned (.bool (!(P.all fun x=>zBV L x.s)))∧Below w.heap.size w w':=by
 have HC:=qH (zFw A n c L re lo b B m d P w hA hk hP hf);go_enter Tryz.func113,Tryz.ntmps113;go_wp2_with fail
 refine HC.out.mono ?_;rintro e w2 ⟨k,rfl,hk2,ai⟩;have HK:=qH hk2;clear hk2;go_wp2_with fail
 go_ret;refine ⟨zBU ?_,ai⟩;have h:=HK.out;unfold zOo at h
 cases hq:(P.all fun x=>zBV L x.s) with
 | true=>rw [hq,if_pos rfl] at h;simp [h]
 | false=>rw [hq] at h;simp at h;simp [h]
theorem zJW {L:List Fg} {P:List Sp} {q:Bool} (h:(P.all fun x=>zBV L x.s)=q) (A:Option Addr) (n c:Nat) (re lo:Int) (b:Nat) (B:Option Addr) (m d:Nat) (w:World) (hA:Fgs w A n L) (hk:Blk w b 24 #[.slice A n c,.int .i64 re,.int .i64 lo]) (hP:Stps w B m P) (hf:∀x∈P,1≤x.s.f∧x.s.f≤(n:Int)) :
  Calls Tryz.prog 113 #[.slice B m d,.func (.func 114) #[] #[.pointer (some ⟨b,0,none⟩)]] w
   fun e w'=>e=.returned (.bool (!q))∧Below w.heap.size w w':=by
 subst h;exact zDY A n c L re lo b B m d P w hA hk hP hf
theorem zGP {k:Nat} {o:Og} (h:zAg k o=true):0≤o.fr.f∧o.fr.f≤(k:Int):=by
 have hk:=zBc h;by_cases e:o.kind=3∨o.kind=5∨o.kind=6∨o.kind=7
 ·have:=zAj.1 (hk.2.2.2.2.2 e);omega
 ·have h5:zBi k o=true:=by unfold zAg at h;simp only [Bool.and_eq_true] at h;exact h.2
  have hz:o.fr=s0:=by
   unfold zBi at h5;by_cases e1:o.kind=1∨o.kind=2∨o.kind=8
   ·rw [if_pos e1] at h5;simp only [Bool.and_eq_true] at h5;exact zCC.1 h5.2
   ·rw [if_neg e1] at h5;by_cases e2:o.kind=4
    ·rw [if_pos e2] at h5;exact zCC.1 h5
    ·omega
  rw [hz];simp [s0]
set_option maxHeartbeats 3200000 in
theorem zJX (A:Option Addr) (n c:Nat) (L:List Fg) (re lo:Int) (o:Og) (B:Option Addr) (m d:Nat) (w:World) (hA:Fgs w A n L) (hO:OpIn w o B m d) (hr:zAg n o=true) :
  Calls Tryz.prog 67 #[frV A n c re lo,opV o B m d] w fun e w'=>e=.returned (.bool (zDn L o))∧Below w.heap.size w w':=by
 have hle:=hA.le;obtain ⟨h1,h8,eH,bt,hpn,_⟩:=zBc hr;obtain ⟨BU,xN⟩:=zGP hr;have hP:=hO.path;have hpf:∀x∈o.path,1≤x.s.f∧x.s.f≤(n:Int):=fun x hx=>by have:=zAj.1 (hpn x hx);exact ⟨this.1,this.2.1⟩
 have hcan:zDn L o=(decide ((fa L (o.f-1).toNat).p=1)&&(decide (¬0 < o.fr.f)||zBV L o.fr)&&o.path.all fun x=>zBV L x.s):=rfl;obtain ⟨kind,f,⟨ff,fl,ffar,fpc⟩,path,over⟩:=o;simp only at h1 h8 eH bt BU xN hP hpf hcan ⊢;have ah:Below w.heap.size w ((w.alloc (.cells #[.slice A n c,.int .i64 re,.int .i64 lo] 24)).alloc (.cells #[.int .i64 kind,.int .i64 f,.int .i64 ff,.int .i64 fl,.bool ffar,.int .i64 fpc,.slice B m d,.bool over] 32)):=((Below.refl _ _).alloc (Nat.le_refl _) _).alloc (by simp) _;have hk0:=(Blk.new w 24 #[.slice A n c,.int .i64 re,.int .i64 lo]).alloc (.cells #[.int .i64 kind,.int .i64 f,.int .i64 ff,.int .i64 fl,.bool ffar,.int .i64 fpc,.slice B m d,.bool over] 32);have aq:Blk ((w.alloc (.cells #[.slice A n c,.int .i64 re,.int .i64 lo] 24)).alloc (.cells #[.int .i64 kind,.int .i64 f,.int .i64 ff,.int .i64 fl,.bool ffar,.int .i64 fpc,.slice B m d,.bool over] 32)) (w.heap.size+1) 32 #[.int .i64 kind,.int .i64 f,.int .i64 ff,.int .i64 fl,.bool ffar,.int .i64 fpc,.slice B m d,.bool over]:=heap_alloc2_new w _ _;have hA0:=hA.below ah;have nI:=hP.below ah;obtain ⟨i,hi⟩:∃i:Nat,f=(i:Int)+1:=⟨(f-1).toNat,by omega⟩
 have hin:i < n:=by omega
 obtain ⟨g,p,Ao,hg,⟨x0,_,_⟩,_⟩:=hA0.at_ hin;rw [show (f-1).toNat=i by omega] at hcan;have q1:wrap64 (f-1)=(i:Int):=by unfold wrap64;omega
 have q2:f-1=(i:Int):=by omega
 have j0:(0:Int)≤(i:Int):=by omega
 have j1:(i:Int) < (n:Int):=by omega
 generalize fa L i=x at x0 hcan;obtain ⟨xp,xr,xd⟩:=x;simp only at x0 hcan;obtain ⟨qa,hqa⟩:∃q,(path.all fun x=>zBV L x.s)=q:=⟨_,rfl⟩
 have GY:=qH (fun wx (fI:Fgs wx A n L) hkx hPx=>zJW hqa A n c re lo w.heap.size B m d wx fI hkx hPx hpf);rw [hqa] at hcan;obtain ⟨qs,hqs⟩:∃q,zBV L ⟨ff,fl,ffar,fpc⟩=q:=⟨_,rfl⟩
 have HFF:=qH xN;have GV:=qH (fun wx (fI:Fgs wx A n L) h1=>zOM hqs A n c re lo wx fI h1 HFF.out);rw [hqs] at hcan;clear hqa hqs hi hin hpn hpf h1 h8 eH bt hO hP hA;by_cases e1:xp=1
 ·subst e1;by_cases e2:0 < ff
  ·have qz:=qH e2
   cases qs with
   | true =>
    have mr:=qH (hcan.trans (show _=qa by simp));clear hcan;subst Ao;go_enter Tryz.func67,Tryz.ntmps67;go_wp2_with fail
    generalize (w.alloc (.cells #[.slice (some ⟨g,p,none⟩) n c,.int .i64 re,.int .i64 lo] 24)).alloc (.cells #[.int .i64 kind,.int .i64 f,.int .i64 ff,.int .i64 fl,.bool ffar,.int .i64 fpc,.slice B m d,.bool over] 32)=W at ah hk0 aq hA0 nI ⊢;refine (GV.out _ hA0 (show (1:Int)≤ff by have:=qz.out;omega)).mono ?_;rintro e w2 ⟨rfl,ai⟩;have al:=zAa ah ai ah.size;have bt:=hk0.below ai hk0.lt;have px:=aq.below ai aq.lt;have e6:w2.cell? ⟨w.heap.size+1,6,none⟩=some (.slice B m d):=(px.cell 6).trans rfl;have kD:=hA0.below ai;have xY:=nI.below ai;go_wp2_with fail
    refine (GY.out _ kD bt xY).mono ?_;rintro e w4 ⟨rfl,aI⟩;have aw:=zAa al aI al.size;clear e6;go_wp2_with fail
    go_ret;exact ⟨zBU (by rw [mr.out]),aw⟩
   | false =>
    have mr:=qH (hcan.trans (show _=false by simp [e2]));clear hcan;subst Ao;go_enter Tryz.func67,Tryz.ntmps67;go_wp2_with fail
    generalize (w.alloc (.cells #[.slice (some ⟨g,p,none⟩) n c,.int .i64 re,.int .i64 lo] 24)).alloc (.cells #[.int .i64 kind,.int .i64 f,.int .i64 ff,.int .i64 fl,.bool ffar,.int .i64 fpc,.slice B m d,.bool over] 32)=W at ah hk0 aq hA0 nI ⊢;refine (GV.out _ hA0 (show (1:Int)≤ff by have:=qz.out;omega)).mono ?_;rintro e w2 ⟨rfl,ai⟩;have al:=zAa ah ai ah.size;go_wp2_with fail
    go_ret;exact ⟨zBU (by rw [mr.out]),al⟩
  ·have mr:=qH (hcan.trans (show _=qa by simp [e2]));clear hcan;subst Ao;go_enter Tryz.func67,Tryz.ntmps67;go_wp2_with fail
   refine (GY.out _ hA0 hk0 nI).mono ?_;rintro e w4 ⟨rfl,aI⟩;have aw:=zAa ah aI ah.size;go_wp2_with fail
   go_ret;exact ⟨zBU (by rw [mr.out]),aw⟩
 ·have k1:(xp != 1)=true:=by simpa using e1
  have mr:=qH (hcan.trans (show _=false by simp [e1]));clear hcan e1;subst Ao;go_enter Tryz.func67,Tryz.ntmps67;go_wp2_with fail
  go_ret;exact ⟨zBU (by rw [mr.out]),ah⟩
def zAO (b:Bool):List UInt8:=if b then [111] else [117]
def zDi (L:List Fg) (s:Sg):List UInt8:=nmF L s.f++(if s.far then [102] else [110])
theorem zJY (b:Bool) (w:World):Calls Tryz.prog 115 #[.bool b] w fun e w'=>e=.returned (.string (bA (zAO b)))∧w'=w:=by
 have x0:∀w:World,(Instr.slice 9 (.string (bA (zAw true))) none (some (.int .i64 1)) none).run Tryz.prog w=.ok (.string (bA [111])) w:=fun _=>by kernel_rfl
 have x1:∀w:World,(Instr.slice 9 (.string (bA (zAw false))) none (some (.int .i64 1)) none).run Tryz.prog w=.ok (.string (bA [117])) w:=fun _=>by kernel_rfl
 cases b
 all_goals
  go_enter Tryz.func115,Tryz.ntmps115;go_wp2_with fail
  refine (zHZ _ _).mono ?_;rintro e w2 ⟨rfl,rfl⟩;go_wp2_with fail
  go_ret;exact ⟨rfl,rfl⟩
theorem zCf {L:List Fg} {re lo:Int} (hv:frOk L re lo) {s:Sg} (h1:1≤s.f) (h2:s.f≤(L.length:Int)):(zDi L s).length≤44:=by
 have:=zBr hv h1 h2;unfold zDi;split<;>simp<;>omega
set_option maxHeartbeats 3200000 in
set_option maxRecDepth 100000 in
theorem zLk (A:Option Addr) (n c:Nat) (L:List Fg) (re lo:Int) (s:Sg) (w:World) (hA:Fgs w A n L) (hv:frOk L re lo) (h1:1≤s.f) (h2:s.f≤(n:Int)) :
  Calls Tryz.prog 116 #[frV A n c re lo,sgV s] w fun e w'=>e=.returned (.string (bA (zDi L s)))∧Below w.heap.size w w':=by
 have gz:=zBr hv h1 (by rw [hA.len];exact h2);obtain ⟨f,l,far,pc⟩:=s;simp only at h1 h2 gz ⊢;have hx:∀w:World,(Instr.slice 9 (.string (bA (zBx far))) none (some (.int .i64 1)) none).run Tryz.prog w=.ok (.string (bA (if far then [102] else [110]))) w:=fun _=>by
  cases far
  ·kernel_rfl
  ·kernel_rfl
 have hf:zDi L ⟨f,l,far,pc⟩=nmF L f++(if far then [102] else [110]):=rfl;have hS:(if far then [102] else [110]:List UInt8).length≤1:=by cases far<;>simp
 generalize (if far then [102] else [110]:List UInt8)=SH at hx hf hS;obtain ⟨SD,ng⟩:∃T,zBx far=T:=⟨_,rfl⟩
 rw [ng] at hx;obtain ⟨NM,ey⟩:∃NM,nmF L f=NM:=⟨_,rfl⟩
 rw [ey] at hf gz;obtain ⟨T1,cD⟩:∃T,NM++SH=T:=⟨_,rfl⟩
 have s1:=zAp cD _ _ rfl rfl (by omega) (by omega);rw [cD] at hf;have jz:=qH ey;have Dn:=qH ng;have HF:=qH hf;have tw:=qH (show 1≤f∧f≤(n:Int) from ⟨h1,h2⟩);have ah:Below w.heap.size w ((w.alloc (.cells #[.slice A n c,.int .i64 re,.int .i64 lo] 24)).alloc (.cells #[.int .i64 f,.int .i64 l,.bool far,.int .i64 pc] 29)):=((Below.refl _ _).alloc (Nat.le_refl _) _).alloc (by simp) _;have hk0:=(Blk.new w 24 #[.slice A n c,.int .i64 re,.int .i64 lo]).alloc (.cells #[.int .i64 f,.int .i64 l,.bool far,.int .i64 pc] 29);have aq:Blk ((w.alloc (.cells #[.slice A n c,.int .i64 re,.int .i64 lo] 24)).alloc (.cells #[.int .i64 f,.int .i64 l,.bool far,.int .i64 pc] 29)) (w.heap.size+1) 29 #[.int .i64 f,.int .i64 l,.bool far,.int .i64 pc]:=heap_alloc2_new w _ _;have hA0:=hA.below ah;clear hf ey cD gz h1 h2 ng hS hA;go_enter Tryz.func116,Tryz.ntmps116;go_wp2_with fail
 generalize (w.alloc (.cells #[.slice A n c,.int .i64 re,.int .i64 lo] 24)).alloc (.cells #[.int .i64 f,.int .i64 l,.bool far,.int .i64 pc] 29)=W at ah hk0 aq hA0 ⊢
 have KP:=qH (show ∀wx,Below W.heap.size W wx→(Below W.heap.size W wx∧wx.cell? ⟨w.heap.size,0,none⟩=some (.slice A n c)∧wx.cell? ⟨w.heap.size,1,none⟩=some (.int .i64 re)∧wx.cell? ⟨w.heap.size,2,none⟩=some (.int .i64 lo)∧wx.cell? ⟨w.heap.size+1,0,none⟩=some (.int .i64 f)∧wx.cell? ⟨w.heap.size+1,1,none⟩=some (.int .i64 l)∧wx.cell? ⟨w.heap.size+1,2,none⟩=some (.bool far)∧wx.cell? ⟨w.heap.size+1,3,none⟩=some (.int .i64 pc)) from
  fun wx h=>⟨h,((hk0.below h hk0.lt).cell 0).trans rfl,((hk0.below h hk0.lt).cell 1).trans rfl,((hk0.below h hk0.lt).cell 2).trans rfl,((aq.below h aq.lt).cell 0).trans rfl,((aq.below h aq.lt).cell 1).trans rfl,((aq.below h aq.lt).cell 2).trans rfl,((aq.below h aq.lt).cell 3).trans rfl⟩)
 first
  | go_region_held3 (fun wx=>Below W.heap.size W wx∧wx.cell? ⟨w.heap.size,0,none⟩=some (.slice A n c)∧wx.cell? ⟨w.heap.size,1,none⟩=some (.int .i64 re)∧wx.cell? ⟨w.heap.size,2,none⟩=some (.int .i64 lo)∧wx.cell? ⟨w.heap.size+1,0,none⟩=some (.int .i64 f)∧wx.cell? ⟨w.heap.size+1,1,none⟩=some (.int .i64 l)∧wx.cell? ⟨w.heap.size+1,2,none⟩=some (.bool far)∧wx.cell? ⟨w.heap.size+1,3,none⟩=some (.int .i64 pc)) (first | assumption | exact KP.out _ (Below.refl _ _).drew | exact KP.out _ (zAa (And.left (by assumption)) (by assumption) (Below.size (And.left (by assumption)))))
    (first
     | (go_at_call 107;refine (zCY jz.out _ (hA0.below (And.left (by assumption))) hv tw.out.1 tw.out.2).mono ?_;rintro e wa ⟨rfl,hba⟩)
     | (go_at_call 155;refine (zOK Dn.out _).mono ?_;rintro e wc ⟨rfl,rfl⟩))
  | fail
 all_goals
  have hbf:=zAa ah (And.left (show Below W.heap.size W _∧_ from by assumption)) ah.size;go_wp2_with fail
  go_ret;exact ⟨zDl (by rw [HF.out]),hbf⟩
theorem zIC {A:Option Addr} {n c:Nat} {L:List Fg} {re lo:Int} {s:Sg} {S:List UInt8} (h:zDi L s=S) (w:World) (hA:Fgs w A n L) (hv:frOk L re lo) (h1:1≤s.f) (h2:s.f≤(n:Int)) :
  Calls Tryz.prog 116 #[frV A n c re lo,sgV s] w fun e w'=>e=.returned (.string (bA S))∧Below w.heap.size w w':=by
 subst h;exact zLk A n c L re lo s w hA hv h1 h2
theorem zCH {b:Bool} {S:List UInt8} (h:zAO b=S) (w:World):Calls Tryz.prog 115 #[.bool b] w fun e w'=>e=.returned (.string (bA S))∧w'=w:=by
 subst h;exact zJY b w
end Go.Proofs.YtlmdfmnbcndhoaaGreatDoor
