/-
  Lemmas, part 7. Conditions: each theorem's own.
-/
import Derived.Test.YtlmdfmnbcndhoaaGreatDoorRi06
namespace Go.Proofs.YtlmdfmnbcndhoaaGreatDoor
open Go.RowKit
def zAU (L:List Fg) (s:Sg):Bool:=decide ((fa L (s.f-1).toNat).p=1)&&decide (s.l=0)&&decide (s.pc=0)
def zCl (L:List Fg) (o:Og):Bool:=decide ((fa L (o.f-1).toNat).p=1)&&(decide (¬0 < o.fr.f)||zAU L o.fr)&&o.path.all fun x=>zAU L x.s
set_option maxHeartbeats 800000 in
theorem zFN (A:Option Addr) (n c:Nat) (L:List Fg) (re lo:Int) (s:Sg) (w:World) (hA:Fgs w A n L) (h1:1≤s.f) (h2:s.f≤(n:Int)) :
  Calls Tryz.prog 112 #[frV A n c re lo,sgV s] w fun e w'=>e=.returned (.bool (zAU L s))∧Below w.heap.size w w':=by
 have hle:=hA.le;have hb0:Below w.heap.size w ((w.alloc (.cells #[.slice A n c,.int .i64 re,.int .i64 lo] 24)).alloc (.cells #[.int .i64 s.f,.int .i64 s.l,.bool s.far,.int .i64 s.pc] 29)):=((Below.refl _ _).alloc (Nat.le_refl _) _).alloc (by simp) _;have hA0:=hA.below hb0;obtain ⟨i,hi⟩:∃i:Nat,s.f=(i:Int)+1:=⟨(s.f-1).toNat,by omega⟩
 have hin:i < n:=by omega
 obtain ⟨g,o,rfl,hg,⟨x0,x1,x2⟩,_⟩:=hA0.at_ hin;have hs:zAU L s=(decide ((fa L i).p=1)&&decide (s.l=0)&&decide (s.pc=0)):=by unfold zAU;rw [hi,show ((i:Int)+1-1).toNat=i by omega]
 have q1:wrap64 (s.f-1)=(i:Int):=by unfold wrap64;omega
 have q2:s.f-1=(i:Int):=by omega
 have j0:(0:Int)≤(i:Int):=by omega
 have j1:(i:Int) < (n:Int):=by omega
 generalize fa L i=x at x0 x1 x2 hs;obtain ⟨f,l,far,pc⟩:=s;obtain ⟨p,r,dg⟩:=x;simp only at x0 hs q1 q2 hb0 hg ⊢;clear hi hA0 hA hin h1 h2 x1 x2;by_cases e1:p=1
 ·subst e1;by_cases e2:l=0
  ·subst e2;by_cases e3:pc=0
   ·subst e3;have HS:=qH hs;clear hs;go_enter Tryz.func112,Tryz.ntmps112;go_wp2_with fail
    go_ret;exact ⟨zBz (by rw [HS.out];rfl),hb0⟩
   ·have k3:(pc==0)=false:=by simpa using e3
    have HS:=qH (hs.trans (show _=false by simp [e3]));clear hs e3;go_enter Tryz.func112,Tryz.ntmps112;go_wp2_with fail
    go_ret;exact ⟨zBz (by rw [HS.out]),hb0⟩
  ·have k2:(l==0)=false:=by simpa using e2
   have HS:=qH (hs.trans (show _=false by simp [e2]));clear hs e2;go_enter Tryz.func112,Tryz.ntmps112;go_wp2_with fail
   go_ret;exact ⟨zBz (by rw [HS.out]),hb0⟩
 ·have k1:(p==1)=false:=by simpa using e1
  have HS:=qH (hs.trans (show _=false by simp [e1]));clear hs e1;go_enter Tryz.func112,Tryz.ntmps112;go_wp2_with fail
  go_ret;exact ⟨zBz (by rw [HS.out]),hb0⟩
theorem zOf {L:List Fg} {s:Sg} {b:Bool} (h:zAU L s=b) (A:Option Addr) (n c:Nat) (re lo:Int) (w:World) (hA:Fgs w A n L) (h1:1≤s.f) (h2:s.f≤(n:Int)) :
  Calls Tryz.prog 112 #[frV A n c re lo,sgV s] w fun e w'=>e=.returned (.bool b)∧Below w.heap.size w w':=by
 subst h;exact zFN A n c L re lo s w hA h1 h2
set_option maxHeartbeats 800000 in
theorem zMR (A:Option Addr) (n c:Nat) (L:List Fg) (re lo:Int) (x:Sp) (b:Nat) (w:World) (hA:Fgs w A n L) (hk:Blk w b 24 #[.slice A n c,.int .i64 re,.int .i64 lo]) (h1:1≤x.s.f) (h2:x.s.f≤(n:Int)) :
  Calls Tryz.prog 114 #[spV x,.pointer (some ⟨b,0,none⟩)] w fun e w'=>e=.returned (.bool (!zAU L x.s))∧Below w.heap.size w w':=by
 have hb0:Below w.heap.size w (w.alloc (.cells #[.int .i64 x.s.f,.int .i64 x.s.l,.bool x.s.far,.int .i64 x.s.pc,.bool x.over] 86)):=(Below.refl _ _).alloc (Nat.le_refl _) _;have hk2:=hk.alloc (.cells #[.int .i64 x.s.f,.int .i64 x.s.l,.bool x.s.far,.int .i64 x.s.pc,.bool x.over] 86);have y0:=(hk2.cell 0).trans rfl;have y1:=(hk2.cell 1).trans rfl;have y2:=(hk2.cell 2).trans rfl;have HC:=qH (zFN A n c L re lo x.s _ (hA.below hb0) h1 h2);go_enter Tryz.func114,Tryz.ntmps114;go_wp2_with fail
 refine HC.out.mono ?_;rintro e w2 ⟨rfl,hb2⟩;have hb3:=zAa hb0 hb2 hb0.size;clear y0 y1 y2;go_wp2_with fail
 go_ret;exact ⟨rfl,hb3⟩
def zNJ (q:Bool) (k:Int):Prop:=if q then k = -1 else 0≤k
theorem zSY {L:List Fg} {x:Sp} {q:Bool} (h:zAU L x.s=q) (A:Option Addr) (n c:Nat) (re lo:Int) (b:Nat) (w:World) (hA:Fgs w A n L) (hk:Blk w b 24 #[.slice A n c,.int .i64 re,.int .i64 lo]) (h1:1≤x.s.f) (h2:x.s.f≤(n:Int)) :
  Calls Tryz.prog 114 #[spV x,.pointer (some ⟨b,0,none⟩)] w fun e w'=>e=.returned (.bool (!q))∧Below w.heap.size w w':=by
 subst h;exact zMR A n c L re lo x b w hA hk h1 h2
theorem zQE {L:List Fg} {P:List Sp} (h:∀j,j < P.length→zAU L (pa P j).s=true):(P.all fun x=>zAU L x.s)=true:=by
 rw [List.all_eq_true];intro x hx;obtain ⟨i,hi⟩:=List.getElem?_of_mem hx;have hlt:=(List.getElem?_eq_some_iff.1 hi).1;have h2:=h i hlt;have h3:=zBS hlt;rw [hi] at h3;injection h3 with h3
 rw [h3];exact h2
theorem zKL {L:List Fg} {P:List Sp} {i:Nat} (hi:i < P.length) (h:zAU L (pa P i).s=false):(P.all fun x=>zAU L x.s)=false:=by
 cases e:(P.all fun x=>zAU L x.s) with
 | false=>rfl
 | true=>rw [List.all_eq_true] at e;have:=e _ (List.mem_of_getElem? (zBS hi));rw [h] at this;cases this
set_option maxHeartbeats 1600000 in
theorem zFn (A:Option Addr) (n c:Nat) (L:List Fg) (re lo:Int) (b:Nat) (B:Option Addr) (m d:Nat) (P:List Sp) (w:World) (hA:Fgs w A n L) (hk:Blk w b 24 #[.slice A n c,.int .i64 re,.int .i64 lo]) (hP:Stps w B m P) (hf:∀x∈P,1≤x.s.f∧x.s.f≤(n:Int)) :
  Calls Tryz.prog 157 #[.slice B m d,.func (.func 114) #[] #[.pointer (some ⟨b,0,none⟩)]] w
   fun e w'=>∃k:Int,e=.returned (.int .i64 k)∧zNJ (P.all fun x=>zAU L x.s) k∧Below w.heap.size w w':=by
 have hle:=hP.le;have HLEN:=qH hP.len;have HF:=qH hf;clear hf;go_enter Tryz.func157,Tryz.ntmps157;go_wp2_with fail
 go_loopw [8] (fun v wr=>∃i:Nat,i≤m∧v=.int .i64 i∧Below w.heap.size w wr∧Hid (∀j:Nat,j < i→zAU L (pa P j).s=true)) (fun v _=>m-(intOf v).toNat)
 case atStart=>exact ⟨0,Nat.zero_le _,rfl,Below.refl _ _,qH (fun j hj=>by omega)⟩
 case round =>
  obtain ⟨i,hi,rfl,hbr,HS⟩:=hrel;by_cases hlt:i < m
  ·obtain ⟨g,p,rfl,hg,⟨x0,x1,x2,x3,x4⟩,_⟩:=(hP.below hbr).at_ hlt;have j0:(0:Int)≤(i:Int):=by omega
   have j1:(i:Int) < (m:Int):=by omega
   have hil:i < P.length:=by rw [HLEN.out];exact hlt
   have hfi:=HF.out _ (List.mem_of_getElem? (zBS hil));obtain ⟨q,hq⟩:∃q,zAU L (pa P i).s=q:=⟨_,rfl⟩
   have HQ:=qH hq;have HC:=qH (zSY hq A n c re lo b wr (hA.below hbr) (hk.below hbr hk.lt) hfi.1 hfi.2);have HIL:=qH hil;clear hq hfi hil;generalize pa P i=x at x0 x1 x2 x3 x4 HC;obtain ⟨⟨xf,xl,xfar,xpc⟩,xo⟩:=x;simp only at x0 x1 x2 x3 x4
   cases q with
   | true =>
    have HS1:=qH (show ∀j:Nat,j < i+1→zAU L (pa P j).s=true from fun j hj=>by
     rcases Nat.decEq j i with e | e
     ·exact HS.out j (by omega)
     ·subst e;exact HQ.out)
    clear HS HQ HIL;go_wp2_with fail
    refine HC.out.mono ?_;rintro e w5 ⟨rfl,hb5⟩;have hb6:=zAa hbr hb5 hbr.size;clear x0 x1 x2 x3 x4;go_wp2_with fail
    go_roundw
    case rel=>exact ⟨i+1,by omega,by go_num,hb6,HS1⟩
    case measure=>simp [intOf];omega
   | false =>
    have hr:=qH (show zNJ (P.all fun x=>zAU L x.s) (i:Int) by rw [zKL HIL.out HQ.out];unfold zNJ;rw [if_neg (by decide)];omega);clear HS HQ HIL;go_wp2_with fail
    refine HC.out.mono ?_;rintro e w5 ⟨rfl,hb5⟩;have hb6:=zAa hbr hb5 hbr.size;clear x0 x1 x2 x3 x4;go_wp2_with fail
    go_ret;exact ⟨_,rfl,hr.out,hb6⟩
  ·have j1:¬(i:Int) < (m:Int):=by omega
   have hr:=qH (show zNJ (P.all fun x=>zAU L x.s) (-1) by rw [zQE (fun j hj=>HS.out j (by rw [HLEN.out] at hj;omega))];unfold zNJ;rw [if_pos rfl]);clear HS;go_wp2_with fail
   go_ret;exact ⟨_,rfl,hr.out,hbr⟩
theorem zDS (A:Option Addr) (n c:Nat) (L:List Fg) (re lo:Int) (b:Nat) (B:Option Addr) (m d:Nat) (P:List Sp) (w:World) (hA:Fgs w A n L) (hk:Blk w b 24 #[.slice A n c,.int .i64 re,.int .i64 lo]) (hP:Stps w B m P) (hf:∀x∈P,1≤x.s.f∧x.s.f≤(n:Int)) :
  Calls Tryz.prog 113 #[.slice B m d,.func (.func 114) #[] #[.pointer (some ⟨b,0,none⟩)]] w
   fun e w'=>e=.returned (.bool (!(P.all fun x=>zAU L x.s)))∧Below w.heap.size w w':=by
 have HC:=qH (zFn A n c L re lo b B m d P w hA hk hP hf);go_enter Tryz.func113,Tryz.ntmps113;go_wp2_with fail
 refine HC.out.mono ?_;rintro e w2 ⟨k,rfl,hk2,hb2⟩;have HK:=qH hk2;clear hk2;go_wp2_with fail
 go_ret;refine ⟨zBz ?_,hb2⟩;have h:=HK.out;unfold zNJ at h
 cases hq:(P.all fun x=>zAU L x.s) with
 | true=>rw [hq,if_pos rfl] at h;simp [h]
 | false=>rw [hq] at h;simp at h;simp [h]
theorem zJE {L:List Fg} {P:List Sp} {q:Bool} (h:(P.all fun x=>zAU L x.s)=q) (A:Option Addr) (n c:Nat) (re lo:Int) (b:Nat) (B:Option Addr) (m d:Nat) (w:World) (hA:Fgs w A n L) (hk:Blk w b 24 #[.slice A n c,.int .i64 re,.int .i64 lo]) (hP:Stps w B m P) (hf:∀x∈P,1≤x.s.f∧x.s.f≤(n:Int)) :
  Calls Tryz.prog 113 #[.slice B m d,.func (.func 114) #[] #[.pointer (some ⟨b,0,none⟩)]] w
   fun e w'=>e=.returned (.bool (!q))∧Below w.heap.size w w':=by
 subst h;exact zDS A n c L re lo b B m d P w hA hk hP hf
theorem zCV {k:Nat} {o:Og} (h:zAh k o=true):0≤o.fr.f∧o.fr.f≤(k:Int):=by
 have hk:=zAS h;by_cases e:o.kind=3∨o.kind=5∨o.kind=6∨o.kind=7
 ·have:=zAj.1 (hk.2.2.2.2.2 e);omega
 ·have h5:zBh k o=true:=by unfold zAh at h;simp only [Bool.and_eq_true] at h;exact h.2
  have hz:o.fr=s0:=by
   unfold zBh at h5;by_cases e1:o.kind=1∨o.kind=2∨o.kind=8
   ·rw [if_pos e1] at h5;simp only [Bool.and_eq_true] at h5;exact zCA.1 h5.2
   ·rw [if_neg e1] at h5;by_cases e2:o.kind=4
    ·rw [if_pos e2] at h5;exact zCA.1 h5
    ·omega
  rw [hz];simp [s0]
set_option maxHeartbeats 3200000 in
theorem zJF (A:Option Addr) (n c:Nat) (L:List Fg) (re lo:Int) (o:Og) (B:Option Addr) (m d:Nat) (w:World) (hA:Fgs w A n L) (hO:OpIn w o B m d) (hr:zAh n o=true) :
  Calls Tryz.prog 67 #[frV A n c re lo,opV o B m d] w fun e w'=>e=.returned (.bool (zCl L o))∧Below w.heap.size w w':=by
 have hle:=hA.le;obtain ⟨h1,h8,hf1,hf2,hpn,_⟩:=zAS hr;obtain ⟨hff1,hff2⟩:=zCV hr;have hP:=hO.path;have hpf:∀x∈o.path,1≤x.s.f∧x.s.f≤(n:Int):=fun x hx=>by have:=zAj.1 (hpn x hx);exact ⟨this.1,this.2.1⟩
 have hcan:zCl L o=(decide ((fa L (o.f-1).toNat).p=1)&&(decide (¬0 < o.fr.f)||zAU L o.fr)&&o.path.all fun x=>zAU L x.s):=rfl;obtain ⟨kind,f,⟨ff,fl,ffar,fpc⟩,path,over⟩:=o;simp only at h1 h8 hf1 hf2 hff1 hff2 hP hpf hcan ⊢;have hb0:Below w.heap.size w ((w.alloc (.cells #[.slice A n c,.int .i64 re,.int .i64 lo] 24)).alloc (.cells #[.int .i64 kind,.int .i64 f,.int .i64 ff,.int .i64 fl,.bool ffar,.int .i64 fpc,.slice B m d,.bool over] 32)):=((Below.refl _ _).alloc (Nat.le_refl _) _).alloc (by simp) _;have hk0:=(Blk.new w 24 #[.slice A n c,.int .i64 re,.int .i64 lo]).alloc (.cells #[.int .i64 kind,.int .i64 f,.int .i64 ff,.int .i64 fl,.bool ffar,.int .i64 fpc,.slice B m d,.bool over] 32);have hk1:Blk ((w.alloc (.cells #[.slice A n c,.int .i64 re,.int .i64 lo] 24)).alloc (.cells #[.int .i64 kind,.int .i64 f,.int .i64 ff,.int .i64 fl,.bool ffar,.int .i64 fpc,.slice B m d,.bool over] 32)) (w.heap.size+1) 32 #[.int .i64 kind,.int .i64 f,.int .i64 ff,.int .i64 fl,.bool ffar,.int .i64 fpc,.slice B m d,.bool over]:=heap_alloc2_new w _ _;have hA0:=hA.below hb0;have hP0:=hP.below hb0;obtain ⟨i,hi⟩:∃i:Nat,f=(i:Int)+1:=⟨(f-1).toNat,by omega⟩
 have hin:i < n:=by omega
 obtain ⟨g,p,hAe,hg,⟨x0,_,_⟩,_⟩:=hA0.at_ hin;rw [show (f-1).toNat=i by omega] at hcan;have q1:wrap64 (f-1)=(i:Int):=by unfold wrap64;omega
 have q2:f-1=(i:Int):=by omega
 have j0:(0:Int)≤(i:Int):=by omega
 have j1:(i:Int) < (n:Int):=by omega
 generalize fa L i=x at x0 hcan;obtain ⟨xp,xr,xd⟩:=x;simp only at x0 hcan;obtain ⟨qa,hqa⟩:∃q,(path.all fun x=>zAU L x.s)=q:=⟨_,rfl⟩
 have HCA:=qH (fun wx (hAx:Fgs wx A n L) hkx hPx=>zJE hqa A n c re lo w.heap.size B m d wx hAx hkx hPx hpf);rw [hqa] at hcan;obtain ⟨qs,hqs⟩:∃q,zAU L ⟨ff,fl,ffar,fpc⟩=q:=⟨_,rfl⟩
 have HFF:=qH hff2;have HCS:=qH (fun wx (hAx:Fgs wx A n L) h1=>zOf hqs A n c re lo wx hAx h1 HFF.out);rw [hqs] at hcan;clear hqa hqs hi hin hpn hpf h1 h8 hf1 hf2 hO hP hA;by_cases e1:xp=1
 ·subst e1;by_cases e2:0 < ff
  ·have HE2:=qH e2
   cases qs with
   | true =>
    have hr2:=qH (hcan.trans (show _=qa by simp));clear hcan;subst hAe;go_enter Tryz.func67,Tryz.ntmps67;go_wp2_with fail
    generalize (w.alloc (.cells #[.slice (some ⟨g,p,none⟩) n c,.int .i64 re,.int .i64 lo] 24)).alloc (.cells #[.int .i64 kind,.int .i64 f,.int .i64 ff,.int .i64 fl,.bool ffar,.int .i64 fpc,.slice B m d,.bool over] 32)=W at hb0 hk0 hk1 hA0 hP0 ⊢;refine (HCS.out _ hA0 (show (1:Int)≤ff by have:=HE2.out;omega)).mono ?_;rintro e w2 ⟨rfl,hb2⟩;have hb3:=zAa hb0 hb2 hb0.size;have hf2:=hk0.below hb2 hk0.lt;have ho2:=hk1.below hb2 hk1.lt;have e6:w2.cell? ⟨w.heap.size+1,6,none⟩=some (.slice B m d):=(ho2.cell 6).trans rfl;have hA2:=hA0.below hb2;have hP2:=hP0.below hb2;go_wp2_with fail
    refine (HCA.out _ hA2 hf2 hP2).mono ?_;rintro e w4 ⟨rfl,hb4⟩;have hb5:=zAa hb3 hb4 hb3.size;clear e6;go_wp2_with fail
    go_ret;exact ⟨zBz (by rw [hr2.out]),hb5⟩
   | false =>
    have hr2:=qH (hcan.trans (show _=false by simp [e2]));clear hcan;subst hAe;go_enter Tryz.func67,Tryz.ntmps67;go_wp2_with fail
    generalize (w.alloc (.cells #[.slice (some ⟨g,p,none⟩) n c,.int .i64 re,.int .i64 lo] 24)).alloc (.cells #[.int .i64 kind,.int .i64 f,.int .i64 ff,.int .i64 fl,.bool ffar,.int .i64 fpc,.slice B m d,.bool over] 32)=W at hb0 hk0 hk1 hA0 hP0 ⊢;refine (HCS.out _ hA0 (show (1:Int)≤ff by have:=HE2.out;omega)).mono ?_;rintro e w2 ⟨rfl,hb2⟩;have hb3:=zAa hb0 hb2 hb0.size;go_wp2_with fail
    go_ret;exact ⟨zBz (by rw [hr2.out]),hb3⟩
  ·have hr2:=qH (hcan.trans (show _=qa by simp [e2]));clear hcan;subst hAe;go_enter Tryz.func67,Tryz.ntmps67;go_wp2_with fail
   refine (HCA.out _ hA0 hk0 hP0).mono ?_;rintro e w4 ⟨rfl,hb4⟩;have hb5:=zAa hb0 hb4 hb0.size;go_wp2_with fail
   go_ret;exact ⟨zBz (by rw [hr2.out]),hb5⟩
 ·have k1:(xp != 1)=true:=by simpa using e1
  have hr2:=qH (hcan.trans (show _=false by simp [e1]));clear hcan e1;subst hAe;go_enter Tryz.func67,Tryz.ntmps67;go_wp2_with fail
  go_ret;exact ⟨zBz (by rw [hr2.out]),hb0⟩
def zAo (b:Bool):List UInt8:=if b then [111] else [117]
def zBb (L:List Fg) (s:Sg):List UInt8:=nmF L s.f++(if s.far then [102] else [110])
theorem zJG (b:Bool) (w:World):Calls Tryz.prog 115 #[.bool b] w fun e w'=>e=.returned (.string (bA (zAo b)))∧w'=w:=by
 have x0:∀w:World,(Instr.slice 9 (.string (bA (zAL true))) none (some (.int .i64 1)) none).run Tryz.prog w=.ok (.string (bA [111])) w:=fun _=>by kernel_rfl
 have x1:∀w:World,(Instr.slice 9 (.string (bA (zAL false))) none (some (.int .i64 1)) none).run Tryz.prog w=.ok (.string (bA [117])) w:=fun _=>by kernel_rfl
 cases b
 all_goals
  go_enter Tryz.func115,Tryz.ntmps115;go_wp2_with fail
  refine (zHO _ _).mono ?_;rintro e w2 ⟨rfl,rfl⟩;go_wp2_with fail
  go_ret;exact ⟨rfl,rfl⟩
theorem zCb {L:List Fg} {re lo:Int} (hv:frOk L re lo) {s:Sg} (h1:1≤s.f) (h2:s.f≤(L.length:Int)):(zBb L s).length≤44:=by
 have:=zBq hv h1 h2;unfold zBb;split<;>simp<;>omega
set_option maxHeartbeats 3200000 in
set_option maxRecDepth 100000 in
theorem zKM (A:Option Addr) (n c:Nat) (L:List Fg) (re lo:Int) (s:Sg) (w:World) (hA:Fgs w A n L) (hv:frOk L re lo) (h1:1≤s.f) (h2:s.f≤(n:Int)) :
  Calls Tryz.prog 116 #[frV A n c re lo,sgV s] w fun e w'=>e=.returned (.string (bA (zBb L s)))∧Below w.heap.size w w':=by
 have hlN:=zBq hv h1 (by rw [hA.len];exact h2);obtain ⟨f,l,far,pc⟩:=s;simp only at h1 h2 hlN ⊢;have hx:∀w:World,(Instr.slice 9 (.string (bA (zCk far))) none (some (.int .i64 1)) none).run Tryz.prog w=.ok (.string (bA (if far then [102] else [110]))) w:=fun _=>by
  cases far
  ·kernel_rfl
  ·kernel_rfl
 have hf:zBb L ⟨f,l,far,pc⟩=nmF L f++(if far then [102] else [110]):=rfl;have hS:(if far then [102] else [110]:List UInt8).length≤1:=by cases far<;>simp
 generalize (if far then [102] else [110]:List UInt8)=SH at hx hf hS;obtain ⟨SD,hSD⟩:∃T,zCk far=T:=⟨_,rfl⟩
 rw [hSD] at hx;obtain ⟨NM,hNM⟩:∃NM,nmF L f=NM:=⟨_,rfl⟩
 rw [hNM] at hf hlN;obtain ⟨T1,hT1⟩:∃T,NM++SH=T:=⟨_,rfl⟩
 have s1:=zAr hT1 _ _ rfl rfl (by omega) (by omega);rw [hT1] at hf;have HNM:=qH hNM;have HSD:=qH hSD;have HF:=qH hf;have H12:=qH (show 1≤f∧f≤(n:Int) from ⟨h1,h2⟩);have hb0:Below w.heap.size w ((w.alloc (.cells #[.slice A n c,.int .i64 re,.int .i64 lo] 24)).alloc (.cells #[.int .i64 f,.int .i64 l,.bool far,.int .i64 pc] 29)):=((Below.refl _ _).alloc (Nat.le_refl _) _).alloc (by simp) _;have hk0:=(Blk.new w 24 #[.slice A n c,.int .i64 re,.int .i64 lo]).alloc (.cells #[.int .i64 f,.int .i64 l,.bool far,.int .i64 pc] 29);have hk1:Blk ((w.alloc (.cells #[.slice A n c,.int .i64 re,.int .i64 lo] 24)).alloc (.cells #[.int .i64 f,.int .i64 l,.bool far,.int .i64 pc] 29)) (w.heap.size+1) 29 #[.int .i64 f,.int .i64 l,.bool far,.int .i64 pc]:=heap_alloc2_new w _ _;have hA0:=hA.below hb0;clear hf hNM hT1 hlN h1 h2 hSD hS hA;go_enter Tryz.func116,Tryz.ntmps116;go_wp2_with fail
 generalize (w.alloc (.cells #[.slice A n c,.int .i64 re,.int .i64 lo] 24)).alloc (.cells #[.int .i64 f,.int .i64 l,.bool far,.int .i64 pc] 29)=W at hb0 hk0 hk1 hA0 ⊢
 have KP:=qH (show ∀wx,Below W.heap.size W wx→(Below W.heap.size W wx∧wx.cell? ⟨w.heap.size,0,none⟩=some (.slice A n c)∧wx.cell? ⟨w.heap.size,1,none⟩=some (.int .i64 re)∧wx.cell? ⟨w.heap.size,2,none⟩=some (.int .i64 lo)∧wx.cell? ⟨w.heap.size+1,0,none⟩=some (.int .i64 f)∧wx.cell? ⟨w.heap.size+1,1,none⟩=some (.int .i64 l)∧wx.cell? ⟨w.heap.size+1,2,none⟩=some (.bool far)∧wx.cell? ⟨w.heap.size+1,3,none⟩=some (.int .i64 pc)) from
  fun wx h=>⟨h,((hk0.below h hk0.lt).cell 0).trans rfl,((hk0.below h hk0.lt).cell 1).trans rfl,((hk0.below h hk0.lt).cell 2).trans rfl,((hk1.below h hk1.lt).cell 0).trans rfl,((hk1.below h hk1.lt).cell 1).trans rfl,((hk1.below h hk1.lt).cell 2).trans rfl,((hk1.below h hk1.lt).cell 3).trans rfl⟩)
 first
  | go_region_held3 (fun wx=>Below W.heap.size W wx∧wx.cell? ⟨w.heap.size,0,none⟩=some (.slice A n c)∧wx.cell? ⟨w.heap.size,1,none⟩=some (.int .i64 re)∧wx.cell? ⟨w.heap.size,2,none⟩=some (.int .i64 lo)∧wx.cell? ⟨w.heap.size+1,0,none⟩=some (.int .i64 f)∧wx.cell? ⟨w.heap.size+1,1,none⟩=some (.int .i64 l)∧wx.cell? ⟨w.heap.size+1,2,none⟩=some (.bool far)∧wx.cell? ⟨w.heap.size+1,3,none⟩=some (.int .i64 pc)) (first | assumption | exact KP.out _ (Below.refl _ _).drew | exact KP.out _ (zAa (And.left (by assumption)) (by assumption) (Below.size (And.left (by assumption)))))
    (first
     | (go_at_call 107;refine (zCU HNM.out _ (hA0.below (And.left (by assumption))) hv H12.out.1 H12.out.2).mono ?_;rintro e wa ⟨rfl,hba⟩)
     | (go_at_call 155;refine (zOc HSD.out _).mono ?_;rintro e wc ⟨rfl,rfl⟩))
  | fail
 all_goals
  have hbf:=zAa hb0 (And.left (show Below W.heap.size W _∧_ from by assumption)) hb0.size;go_wp2_with fail
  go_ret;exact ⟨zDl (by rw [HF.out]),hbf⟩
theorem zIr {A:Option Addr} {n c:Nat} {L:List Fg} {re lo:Int} {s:Sg} {S:List UInt8} (h:zBb L s=S) (w:World) (hA:Fgs w A n L) (hv:frOk L re lo) (h1:1≤s.f) (h2:s.f≤(n:Int)) :
  Calls Tryz.prog 116 #[frV A n c re lo,sgV s] w fun e w'=>e=.returned (.string (bA S))∧Below w.heap.size w w':=by
 subst h;exact zKM A n c L re lo s w hA hv h1 h2
theorem zCD {b:Bool} {S:List UInt8} (h:zAo b=S) (w:World):Calls Tryz.prog 115 #[.bool b] w fun e w'=>e=.returned (.string (bA S))∧w'=w:=by
 subst h;exact zJG b w
end Go.Proofs.YtlmdfmnbcndhoaaGreatDoor
