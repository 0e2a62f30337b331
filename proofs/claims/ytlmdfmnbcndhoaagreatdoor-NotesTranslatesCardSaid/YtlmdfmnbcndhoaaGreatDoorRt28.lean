/-
  Lemmas. Conditions: each one's own.
-/
import Derived.Test.YtlmdfmnbcndhoaaGreatDoorRt27
open Go.RowKit
set_option maxHeartbeats 64000000
set_option maxRecDepth 100000
open Option renaming none->U,some->Z
open Bool renaming false->E,true->Q
open Go renaming World->ZY
open Go.Value renaming bool->G,int->D,slice->H,string->W
open Go.IntKind renaming i64->J
open Go.Proofs.Tryz renaming prog->ZX
open Go.RowKit.Below renaming refl->M
open Nat renaming le_refl->O
open Go.RowKit renaming Below->ZZ
namespace Go.Proofs.YtlmdfmnbcndhoaaGreatDoor
theorem zRj {S:List UInt8} {i:Nat} {b:UInt8} (h:S[i]? = Z b):S.drop i=b :: S.drop (i+1):=by
 obtain ⟨h1,h2⟩:=List.getElem?_eq_some_iff.1 h;rw [List.drop_eq_getElem_cons h1,h2]
theorem zIo {b:UInt8} {B c:Nat} (hB:b.toNat=B) (hc:c < 256) (h:b=UInt8.ofNat c):((B:Int)==(c:Int))=Q:=by
 rw [<-hB,zHS b c hc,decide_eq_true h]
theorem zRk {b:UInt8} {B c:Nat} (hB:b.toNat=B) (hc:c < 256) (h:¬b=UInt8.ofNat c):((B:Int)==(c:Int))=E:=by
 rw [<-hB,zHS b c hc,decide_eq_false h]
theorem zVX {b:UInt8} {B:Nat} (hB:b.toNat=B) (h:48<=B/\B<=57):nmC b=Q:=by
 unfold nmC zHZ;rw [hB,decide_eq_true h.1,decide_eq_true h.2];rfl
theorem zXJ {b:UInt8} (h:b=76):nmC b=Q:=by subst h;rfl
theorem zXK {b:UInt8} (h:b=82):nmC b=Q:=by subst h;rfl
theorem zXL {b:UInt8} {B:Nat} (hB:b.toNat=B) (h:¬(48<=B/\B<=57)) (h1:¬b=76) (h2:¬b=82):nmC b=E:=by
 unfold nmC zHZ;rw [hB];have e1:(b==76)=E:=by simpa using h1
 have e2:(b==82)=E:=by simpa using h2
 rw [e1,e2];by_cases a:48<=B
 ·rw [decide_eq_true a,decide_eq_false (fun e=>h ⟨a,e⟩)];rfl
 ·rw [decide_eq_false a];rfl
theorem zVY {S:List UInt8} (h:nmL S=S.length):zJE S=o0:=by unfold zJE;rw [qP h]
theorem zTr {S:List UInt8} {p:Nat} {b:UInt8} (h:nmL S=p) (hb:S[p]? = Z b):zJE S=zHG b (fnA (S.take p)) (S.drop (p+1)):=by
 have hp:=(List.getElem?_eq_some_iff.1 hb).1;unfold zJE;rw [h,qN (by omega),hb];rfl
theorem zTs {f:Int} {T:List (List UInt8)} (h:¬T.length=2):zQg f T=⟨3,f,rbF (xa T (T.length-1)),[],E⟩:=by unfold zQg;rw [qN h]
theorem zRl {f:Int} {T:List (List UInt8)} {P:List Sp} (h:T.length=2) (hp:zIb (zAI 44 (xa T 0)) []=Z P):zQg f T=⟨3,f,rbF (xa T (T.length-1)),P,E⟩:=by unfold zQg;rw [qP h,hp]
theorem zRm {f:Int} {T:List (List UInt8)} (h:T.length=2) (hp:zIb (zAI 44 (xa T 0)) []=U):zQg f T=o0:=by unfold zQg;rw [qP h,hp]
theorem zTt {T:List (List UInt8)} {i:Nat} {P:List Sp} {ZP:List UInt8} (h:i < T.length) (hq:xa T i=ZP) (hne:ZP≠[]):zIb (T.drop i) P=zIb (T.drop (i+1)) (P++[⟨rbF ZP.dropLast,decide (ZP.getLast? = Z 111)⟩]):=by
 rw [zHU h,zIb,hq,qN hne]
theorem zVZ {T:List (List UInt8)} {i:Nat} {P:List Sp} (h:i < T.length) (hq:xa T i=[]):zIb (T.drop i) P=U:=by
 rw [zHU h,zIb,qP hq]
theorem zWa {T:List (List UInt8)} {i:Nat} {P:List Sp} (h:i=T.length):zIb (T.drop i) P=Z P:=by
 rw [h,List.drop_length,zIb]
theorem zFJ {R:List UInt8} {r:Nat} (h:R.length=r+1):R.take r=R.dropLast:=by rw [List.dropLast_eq_take,h];rfl
theorem zTu {w:ZY} {g o n h:Nat} {T:List (List UInt8)} (ht:Txts w (Z ⟨g,o,U⟩) n T) (hne:g≠h) (q:Nat) (u:Value):Txts (w.setCell ⟨h,q,U⟩ u) (Z ⟨g,o,U⟩) n T:=by
 refine ⟨ht.1,ht.2.1,fun h0=>?_⟩;obtain ⟨g',o',e,hg,hc⟩:=ht.2.2 h0;injection e with e
 injection e with e1 e2
 subst e1;subst e2
 refine ⟨g,o,rfl,by simpa using hg,fun j x hx q' v hv=>?_⟩;rw [World.cell?_of_block (w:=w) (w':=w.setCell ⟨h,q,U⟩ u) (Below.heap_setCell w ⟨h,q,U⟩ u g hne)];exact hc j x hx q' v hv
theorem zXM (f:Int) (w:ZY):(Instr.build 32 #[(1,D J f)]).run ZX w=.ok (.agg #[D J 0,D J f,D J 0,D J 0,G E,D J 0,H U 0 0,G E]) w:=run_build w _ _ _ (by kernel_rfl)
theorem zRn (S:List UInt8) (w:ZY) (hS:S.length<=8000) :
  Calls ZX 73 #[W (bA S)] w (OpG w (zJE S)):=by
 have hs:=zBz S;obtain ⟨nS,dm⟩:∃k,S.length=k:=⟨_,rfl⟩
 rw [dm] at hs;have HN:=qH dm;have Ca:nS<=8000:=by omega
 obtain ⟨g,hg⟩:∃g,zJE S=g:=⟨_,rfl⟩
 have HG:=qH hg;rw [hg];have HB:=qH (M w.heap.size w);clear dm hg hS;go_enter Tryz.func73,Tryz.ntmps73;have q1:=(M w.heap.size w).alloc (O _) (.cells #[D J 0,D J 0,D J 0,D J 0,G E,D J 0,H U 0 0,G E] 32);have aB:=HB.out.size;replace HB:=qH (zAa HB.out q1 HB.out.size);have aa:=Blk.new w 32 #[D J 0,D J 0,D J 0,D J 0,G E,D J 0,H U 0 0,G E];clear q1;go_upto_region 1 with fail
 generalize w.alloc (.cells #[D J 0,D J 0,D J 0,D J 0,G E,D J 0,H U 0 0,G E] 32)=X at aa HB ⊢;obtain ⟨ae,eD⟩:∃a,w.heap.size=a:=⟨_,rfl⟩
 replace aB:w.heap.size<=ae:=Nat.le_of_eq eD;rw [eD] at aa ⊢;clear eD;go_wp2_with fail
 go_loopw [3] (fun v3 wv=>∃(p:Nat) (V:ZY),V=wv/\v3=D J (p:Int)/\p<=nS/\Hid (nmL S=p+nmL (S.drop p))/\Blk V ae 32 #[D J 0,D J 0,D J 0,D J 0,G E,D J 0,H U 0 0,G E]/\Hid (ZZ w.heap.size w V)) (fun v3 _=>nS-(intOf v3).toNat)
 case atStart=>exact ⟨0,_,rfl,rfl,Nat.zero_le _,qH (by simp),aa,HB⟩
 case round =>
  clear aa HB;obtain ⟨p,X,hX,rfl,hp,HP,aa,HB⟩:=hrel;subst hX;by_cases hlt:p < nS
  ·have j0:(p:Int) < (nS:Int):=by omega
   obtain ⟨b,ay⟩:∃b,S[p]? = Z b:=⟨_,List.getElem?_eq_getElem (by rw [HN.out];exact hlt)⟩
   have hnx:=zDu ay;have hdr:=zRj ay;obtain ⟨B,hB⟩:∃B:Nat,b.toNat=B:=⟨_,rfl⟩
   have wJ:B < 256:=by rw [<-hB];exact b.toNat_lt
   obtain ⟨q,hq⟩:∃q,nmC b=q:=⟨_,rfl⟩
   have HQ:=qH (show nmL S=p+(if q then nmL (S.drop (p+1))+1 else 0) by rw [HP.out,hdr,nmL,hq]);rw [hB] at hnx;have fo:=qH hB;have lF:=qH ay;have zM:=qH hq;clear ay hdr hB hq HP;go_upto_region 2 with fail
   go_cut [39] (fun v39 wv=>v39=G q/\wv=X)
   case first =>
    by_cases hd:48<=B/\B<=57
    ·obtain rfl:q=Q:=by rw [<-zM.out];exact zVX fo.out hd
     obtain ⟨d1,d2⟩:=hd;have g1:(48:Int)<=(B:Int):=by omega
     have g2:(B:Int)<=57:=by omega
     clear HQ aa;go_wp2_with fail
     go_meet
     case rel=>exact ⟨rfl,rfl⟩
    by_cases h76:b=76
    ·obtain rfl:q=Q:=by rw [<-zM.out];exact zXJ h76
     have t76:((B:Int)==76)=Q:=zIo (c:=76) fo.out (by omega) h76;have vu:B=76:=by have:=fo.out;rw [h76] at this;exact this.symm
     have g1:(48:Int)<=(B:Int):=by omega
     have g2:¬(B:Int)<=57:=by omega
     clear HQ aa hd h76 vu;go_wp2_with fail
     go_meet
     case rel=>exact ⟨rfl,rfl⟩
    have t76:((B:Int)==76)=E:=zRk (c:=76) fo.out (by omega) h76;by_cases h82:b=82
    ·obtain rfl:q=Q:=by rw [<-zM.out];exact zXK h82
     have t82:((B:Int)==82)=Q:=zIo (c:=82) fo.out (by omega) h82;have vu:B=82:=by have:=fo.out;rw [h82] at this;exact this.symm
     have g1:(48:Int)<=(B:Int):=by omega
     have g2:¬(B:Int)<=57:=by omega
     clear HQ aa hd h76 h82 vu;go_wp2_with fail
     go_meet
     case rel=>exact ⟨rfl,rfl⟩
    have t82:((B:Int)==82)=E:=zRk (c:=82) fo.out (by omega) h82;obtain rfl:q=E:=by rw [<-zM.out];exact zXL fo.out hd h76 h82
    by_cases h48:48<=B
    ·have g1:(48:Int)<=(B:Int):=by omega
     have g2:¬(B:Int)<=57:=by omega
     clear HQ aa hd h76 h82 h48;go_wp2_with fail
     go_meet
     case rel=>exact ⟨rfl,rfl⟩
    ·have g1:¬(48:Int)<=(B:Int):=by omega
     clear HQ aa hd h76 h82 h48;go_wp2_with fail
     go_meet
     case rel=>exact ⟨rfl,rfl⟩
   case rest =>
    obtain ⟨rfl,hV⟩:=hcut;subst wc
    cases q with
    | true =>
     have nX:=qH (show nmL S=p+1+nmL (S.drop (p+1)) by have:=HQ.out;rw [qP rfl] at this;omega);clear HQ;go_wp2_with fail
     go_roundw
     case rel=>exact ⟨p+1,_,rfl,by go_num,hlt,nX,aa,HB⟩
     case measure=>simp [intOf];omega
    | false =>
     have GN:=qH (show nmL S=p by have:=HQ.out;rw [qN (by simp)] at this;omega);obtain ⟨R,hR⟩:∃R,S.drop (p+1)=R:=⟨_,rfl⟩
     obtain ⟨F1,jP⟩:∃j,fnA (S.take p)=j:=⟨_,rfl⟩
     have fZ:=qH (show g=zHG b (F1:Int) R by rw [<-HG.out,zTr GN.out lF.out,hR,jP]);have hfr:∀w,(Instr.slice 9 (W (bA S)) (Z (D J ((p:Int)+1))) U U).run ZX w=.ok (W (bA R)) w:=by rw [<-hR];exact zSn (S:=S) (i:=p+1) (by rw [HN.out];omega)
     have hup:=zDv (S:=S) (j:=p) (by rw [HN.out];omega);have w1:IntKind.i64.wrap ((p:Int)+1)=(p:Int)+1:=IntWalk.i64_in _ (by omega);have hsR:=zBz R;obtain ⟨nR,Az⟩:∃k,R.length=k:=⟨_,rfl⟩
     rw [Az] at hsR;have iX:=qH Az;have hnR9:nR<=8000:=by rw [<-Az,<-hR,List.length_drop,HN.out];omega
     have q5:((p:Int)==(nS:Int))=E:=by simp only [beq_eq_false_iff_ne,ne_eq];omega
     generalize S.take p=PF at hup jP;have qd:=qH (fun w=>zCk jP w);clear hR jP Az HQ GN HG zM;go_wp2_with fail
     refine (qd.out _).mono ?_;rintro e Y ⟨rfl,hb⟩;replace aa:=aa.below hb aa.lt;replace HB:=qH (zAa HB.out hb HB.out.size);clear hb;have q2:=(M Y.heap.size Y).alloc (O _) (.cells #[D J 0,D J (F1:Int),D J 0,D J 0,G E,D J 0,H U 0 0,G E] 32);have ag:=aa.lt;have am:=HB.out.size;replace aa:=aa.below q2 aa.lt;replace HB:=qH (zAa HB.out q2 HB.out.size);have ab:=Blk.new Y 32 #[D J 0,D J (F1:Int),D J 0,D J 0,G E,D J 0,H U 0 0,G E];clear q2;go_upto_region 9 with fail
     generalize Y.alloc (.cells #[D J 0,D J (F1:Int),D J 0,D J 0,G E,D J 0,H U 0 0,G E] 32)=V at aa ab HB ⊢;generalize hz_op:Y.heap.size=ac at ab am ag ⊢;clear hz_op;obtain ⟨ov,hov⟩:∃q,ovL R=q:=⟨_,rfl⟩
     have bJ:=qH hov;clear hov qd;go_cut [7] (fun v7 wv=>v7=G ov/\wv=V)
     case first =>
      by_cases h0:nR=0
      ·have i5:¬(0:Int) < (nR:Int):=by omega
       obtain rfl:ov=E:=by
        have:R=[]:=List.length_eq_zero_iff.1 (iX.out.trans h0);rw [<-bJ.out,this];rfl
       clear ab aa h0;go_wp2_with fail
       go_meet
       case rel=>exact ⟨rfl,rfl⟩
      ·obtain ⟨r,hr⟩:∃r,nR=r+1:=⟨nR-1,by omega⟩
       obtain ⟨e,he1,he2⟩:=zGm (iX.out.trans hr);have hnr:=zDu he1;have n1:((e.toNat:Int)==111)=ov:=by
        rw [<-bJ.out];unfold ovL;rw [he2]
        have:=zHS e 111 (by omega);rw [show ((e.toNat:Int)==111)=decide (e=111) from this];simp
       have i5:(0:Int) < (nR:Int):=by omega
       have q2:(nR:Int)-1=(r:Int):=by omega
       have q4:IntKind.i64.wrap (r:Int)=(r:Int):=IntWalk.i64_in _ (by omega);generalize e.toNat=e0 at hnr n1;clear ab aa h0 hr he1 he2;go_wp2_with fail
       go_meet
       case rel=>exact ⟨rfl,rfl⟩
     case rest =>
      obtain ⟨rfl,hV⟩:=hcut;subst wc;by_cases h45:b=45
      ·have t45:((B:Int)==45)=Q:=zIo (c:=45) fo.out (by omega) h45;have bO:=qH (show g=⟨1,(F1:Int),⟨0,0,E,0⟩,[],E⟩ by rw [fZ.out];unfold zHG;rw [qP h45];rfl);clear fZ h45;have au:=ab.frozen 0;have aj:V.cell? ⟨ac,0,U⟩=Z (D J 0):=(ab.cell 0).trans rfl;go_upto_region 46 with fail
       clear au aj;replace aa:=aa.far (p:=⟨ac,0,U⟩) (Nat.ne_of_lt ag) (D J 1);replace ab:=ab.set_ 0 (D J 1);replace HB:=qH (HB.out.setCell (p:=⟨ac,0,U⟩) am (D J 1));replace ab:Blk (V.setCell ⟨ac,0,U⟩ (D J 1)) ac 32 #[D J 1,D J (F1:Int),D J 0,D J 0,G E,D J 0,H U 0 0,G E]:=ab;generalize (V.setCell ⟨ac,0,U⟩ (D J 1))=ZR at aa ab HB ⊢;obtain ⟨aj,aK,aw,aE,aD,aC,aJ,ap⟩:=cQ8 ab;obtain ⟨bg,bf,be,bc,aZ,aY,aX,aW⟩:=cQ8 aa;have aV:=aa.frozen 0;have aU:=aa.frozen 1;have aT:=aa.frozen 2;have aS:=aa.frozen 3;have aR:=aa.frozen 4;have aQ:=aa.frozen 5;have aP:=aa.frozen 6;have aO:=aa.frozen 7;have SV:=qH (aa.store8 (D J 1) (D J (F1:Int)) (D J 0) (D J 0) (G E) (D J 0) (H U 0 0) (G E));have BV:=zAc HB.out aB (D J 1) (D J (F1:Int)) (D J 0) (D J 0) (G E) (D J 0) (H U 0 0) (G E);have bU:=qH (show OpG w g (.returned (.agg #[D J 1,D J (F1:Int),D J 0,D J 0,G E,D J 0,H U 0 0,G E])) ((((((((ZR.setCell ⟨ae,0,U⟩ (D J 1)).setCell ⟨ae,1,U⟩ (D J (F1:Int))).setCell ⟨ae,2,U⟩ (D J 0)).setCell ⟨ae,3,U⟩ (D J 0)).setCell ⟨ae,4,U⟩ (G E)).setCell ⟨ae,5,U⟩ (D J 0)).setCell ⟨ae,6,U⟩ (H U 0 0)).setCell ⟨ae,7,U⟩ (G E)) from by rw [bO.out];exact OpG.of (o:=⟨1,(F1:Int),⟨0,0,E,0⟩,[],E⟩) (Row.none_ _ _ _) rfl BV);clear aa ab  BV;go_wp2_with fail
       exact zAi rfl rfl SV.out Tryz.underlying32 rfl (by kernel_rfl) rfl bU.out
      have t45:((B:Int)==45)=E:=zRk (c:=45) fo.out (by omega) h45;by_cases h94:b=94
      ·have t94:((B:Int)==94)=Q:=zIo (c:=94) fo.out (by omega) h94;have bO:=qH (show g=⟨2,(F1:Int),⟨0,0,E,0⟩,[],E⟩ by rw [fZ.out];unfold zHG;rw [qN h45,qP h94];rfl);clear fZ h45 h94;have au:=ab.frozen 0;have aj:V.cell? ⟨ac,0,U⟩=Z (D J 0):=(ab.cell 0).trans rfl;go_upto_region 46 with fail
       clear au aj;replace aa:=aa.far (p:=⟨ac,0,U⟩) (Nat.ne_of_lt ag) (D J 2);replace ab:=ab.set_ 0 (D J 2);replace HB:=qH (HB.out.setCell (p:=⟨ac,0,U⟩) am (D J 2));replace ab:Blk (V.setCell ⟨ac,0,U⟩ (D J 2)) ac 32 #[D J 2,D J (F1:Int),D J 0,D J 0,G E,D J 0,H U 0 0,G E]:=ab;generalize (V.setCell ⟨ac,0,U⟩ (D J 2))=ZR at aa ab HB ⊢;obtain ⟨aj,aK,aw,aE,aD,aC,aJ,ap⟩:=cQ8 ab;obtain ⟨bg,bf,be,bc,aZ,aY,aX,aW⟩:=cQ8 aa;have aV:=aa.frozen 0;have aU:=aa.frozen 1;have aT:=aa.frozen 2;have aS:=aa.frozen 3;have aR:=aa.frozen 4;have aQ:=aa.frozen 5;have aP:=aa.frozen 6;have aO:=aa.frozen 7;have SV:=qH (aa.store8 (D J 2) (D J (F1:Int)) (D J 0) (D J 0) (G E) (D J 0) (H U 0 0) (G E));have BV:=zAc HB.out aB (D J 2) (D J (F1:Int)) (D J 0) (D J 0) (G E) (D J 0) (H U 0 0) (G E);have bU:=qH (show OpG w g (.returned (.agg #[D J 2,D J (F1:Int),D J 0,D J 0,G E,D J 0,H U 0 0,G E])) ((((((((ZR.setCell ⟨ae,0,U⟩ (D J 2)).setCell ⟨ae,1,U⟩ (D J (F1:Int))).setCell ⟨ae,2,U⟩ (D J 0)).setCell ⟨ae,3,U⟩ (D J 0)).setCell ⟨ae,4,U⟩ (G E)).setCell ⟨ae,5,U⟩ (D J 0)).setCell ⟨ae,6,U⟩ (H U 0 0)).setCell ⟨ae,7,U⟩ (G E)) from by rw [bO.out];exact OpG.of (o:=⟨2,(F1:Int),⟨0,0,E,0⟩,[],E⟩) (Row.none_ _ _ _) rfl BV);clear aa ab  BV;go_wp2_with fail
       exact zAi rfl rfl SV.out Tryz.underlying32 rfl (by kernel_rfl) rfl bU.out
      have t94:((B:Int)==94)=E:=zRk (c:=94) fo.out (by omega) h94;by_cases h33:b=33
      ·have t33:((B:Int)==33)=Q:=zIo (c:=33) fo.out (by omega) h33;have bO:=qH (show g=⟨8,(F1:Int),⟨0,0,E,0⟩,[],E⟩ by rw [fZ.out];unfold zHG;rw [qN h45,qN h94,qP h33];rfl);clear fZ h45 h94 h33;have au:=ab.frozen 0;have aj:V.cell? ⟨ac,0,U⟩=Z (D J 0):=(ab.cell 0).trans rfl;go_upto_region 46 with fail
       clear au aj;replace aa:=aa.far (p:=⟨ac,0,U⟩) (Nat.ne_of_lt ag) (D J 8);replace ab:=ab.set_ 0 (D J 8);replace HB:=qH (HB.out.setCell (p:=⟨ac,0,U⟩) am (D J 8));replace ab:Blk (V.setCell ⟨ac,0,U⟩ (D J 8)) ac 32 #[D J 8,D J (F1:Int),D J 0,D J 0,G E,D J 0,H U 0 0,G E]:=ab;generalize (V.setCell ⟨ac,0,U⟩ (D J 8))=ZR at aa ab HB ⊢;obtain ⟨aj,aK,aw,aE,aD,aC,aJ,ap⟩:=cQ8 ab;obtain ⟨bg,bf,be,bc,aZ,aY,aX,aW⟩:=cQ8 aa;have aV:=aa.frozen 0;have aU:=aa.frozen 1;have aT:=aa.frozen 2;have aS:=aa.frozen 3;have aR:=aa.frozen 4;have aQ:=aa.frozen 5;have aP:=aa.frozen 6;have aO:=aa.frozen 7;have SV:=qH (aa.store8 (D J 8) (D J (F1:Int)) (D J 0) (D J 0) (G E) (D J 0) (H U 0 0) (G E));have BV:=zAc HB.out aB (D J 8) (D J (F1:Int)) (D J 0) (D J 0) (G E) (D J 0) (H U 0 0) (G E);have bU:=qH (show OpG w g (.returned (.agg #[D J 8,D J (F1:Int),D J 0,D J 0,G E,D J 0,H U 0 0,G E])) ((((((((ZR.setCell ⟨ae,0,U⟩ (D J 8)).setCell ⟨ae,1,U⟩ (D J (F1:Int))).setCell ⟨ae,2,U⟩ (D J 0)).setCell ⟨ae,3,U⟩ (D J 0)).setCell ⟨ae,4,U⟩ (G E)).setCell ⟨ae,5,U⟩ (D J 0)).setCell ⟨ae,6,U⟩ (H U 0 0)).setCell ⟨ae,7,U⟩ (G E)) from by rw [bO.out];exact OpG.of (o:=⟨8,(F1:Int),⟨0,0,E,0⟩,[],E⟩) (Row.none_ _ _ _) rfl BV);clear aa ab  BV;go_wp2_with fail
       exact zAi rfl rfl SV.out Tryz.underlying32 rfl (by kernel_rfl) rfl bU.out
      have t33:((B:Int)==33)=E:=zRk (c:=33) fo.out (by omega) h33;by_cases h126:b=126
      ·have BG:((B:Int)==126)=Q:=zIo (c:=126) fo.out (by omega) h126;have bO:=qH (show g=⟨4,(F1:Int),⟨0,0,E,0⟩,[],ov⟩ by rw [fZ.out];unfold zHG;rw [qN h45,qN h94,qN h33,qP h126];rw [bJ.out];try rfl);clear fZ h45 h94 h33 h126;have au:=ab.frozen 0;have aj:V.cell? ⟨ac,0,U⟩=Z (D J 0):=(ab.cell 0).trans rfl;have bK:=ab.frozen 7;have ap:V.cell? ⟨ac,7,U⟩=Z (G E):=(ab.cell 7).trans rfl;go_upto_region 46 with fail
       clear au aj bK ap;replace aa:=aa.far (p:=⟨ac,0,U⟩) (Nat.ne_of_lt ag) (D J 4);replace ab:=ab.set_ 0 (D J 4);replace HB:=qH (HB.out.setCell (p:=⟨ac,0,U⟩) am (D J 4));replace aa:=aa.far (p:=⟨ac,7,U⟩) (Nat.ne_of_lt ag) (G ov);replace ab:=ab.set_ 7 (G ov);replace HB:=qH (HB.out.setCell (p:=⟨ac,7,U⟩) am (G ov));replace ab:Blk ((V.setCell ⟨ac,0,U⟩ (D J 4)).setCell ⟨ac,7,U⟩ (G ov)) ac 32 #[D J 4,D J (F1:Int),D J 0,D J 0,G E,D J 0,H U 0 0,G ov]:=ab;generalize ((V.setCell ⟨ac,0,U⟩ (D J 4)).setCell ⟨ac,7,U⟩ (G ov))=ZR at aa ab HB ⊢;obtain ⟨aj,aK,aw,aE,aD,aC,aJ,ap⟩:=cQ8 ab;obtain ⟨bg,bf,be,bc,aZ,aY,aX,aW⟩:=cQ8 aa;have aV:=aa.frozen 0;have aU:=aa.frozen 1;have aT:=aa.frozen 2;have aS:=aa.frozen 3;have aR:=aa.frozen 4;have aQ:=aa.frozen 5;have aP:=aa.frozen 6;have aO:=aa.frozen 7;have SV:=qH (aa.store8 (D J 4) (D J (F1:Int)) (D J 0) (D J 0) (G E) (D J 0) (H U 0 0) (G ov));have BV:=zAc HB.out aB (D J 4) (D J (F1:Int)) (D J 0) (D J 0) (G E) (D J 0) (H U 0 0) (G ov);have bU:=qH (show OpG w g (.returned (.agg #[D J 4,D J (F1:Int),D J 0,D J 0,G E,D J 0,H U 0 0,G ov])) ((((((((ZR.setCell ⟨ae,0,U⟩ (D J 4)).setCell ⟨ae,1,U⟩ (D J (F1:Int))).setCell ⟨ae,2,U⟩ (D J 0)).setCell ⟨ae,3,U⟩ (D J 0)).setCell ⟨ae,4,U⟩ (G E)).setCell ⟨ae,5,U⟩ (D J 0)).setCell ⟨ae,6,U⟩ (H U 0 0)).setCell ⟨ae,7,U⟩ (G ov)) from by rw [bO.out];exact OpG.of (o:=⟨4,(F1:Int),⟨0,0,E,0⟩,[],ov⟩) (Row.none_ _ _ _) rfl BV);clear aa ab  BV;go_wp2_with fail
       exact zAi rfl rfl SV.out Tryz.underlying32 rfl (by kernel_rfl) rfl bU.out
      have BG:((B:Int)==126)=E:=zRk (c:=126) fo.out (by omega) h126;by_cases h61:b=61
      ·have t61:((B:Int)==61)=Q:=zIo (c:=61) fo.out (by omega) h61;by_cases h0:nR=0
       ·have i5:¬(0:Int) < (nR:Int):=by omega
        have pI:Hid (R=[]):=qH (List.length_eq_zero_iff.1 (iX.out.trans h0));have bO:=qH (show g=⟨5,(F1:Int),⟨0,0,E,0⟩,[],ov⟩ by rw [fZ.out];unfold zHG;rw [qN h45,qN h94,qN h33,qN h126,qP h61];rw [bJ.out,qP pI.out];try rfl);clear fZ h0 h45 h94 h33 h126 h61;have au:=ab.frozen 0;have aj:V.cell? ⟨ac,0,U⟩=Z (D J 0):=(ab.cell 0).trans rfl;have bK:=ab.frozen 7;have ap:V.cell? ⟨ac,7,U⟩=Z (G E):=(ab.cell 7).trans rfl;go_upto_region 46 with fail
        clear au aj bK ap;replace aa:=aa.far (p:=⟨ac,0,U⟩) (Nat.ne_of_lt ag) (D J 5);replace ab:=ab.set_ 0 (D J 5);replace HB:=qH (HB.out.setCell (p:=⟨ac,0,U⟩) am (D J 5));replace aa:=aa.far (p:=⟨ac,7,U⟩) (Nat.ne_of_lt ag) (G ov);replace ab:=ab.set_ 7 (G ov);replace HB:=qH (HB.out.setCell (p:=⟨ac,7,U⟩) am (G ov));replace ab:Blk ((V.setCell ⟨ac,0,U⟩ (D J 5)).setCell ⟨ac,7,U⟩ (G ov)) ac 32 #[D J 5,D J (F1:Int),D J 0,D J 0,G E,D J 0,H U 0 0,G ov]:=ab;generalize ((V.setCell ⟨ac,0,U⟩ (D J 5)).setCell ⟨ac,7,U⟩ (G ov))=ZR at aa ab HB ⊢;obtain ⟨aj,aK,aw,aE,aD,aC,aJ,ap⟩:=cQ8 ab;obtain ⟨bg,bf,be,bc,aZ,aY,aX,aW⟩:=cQ8 aa;have aV:=aa.frozen 0;have aU:=aa.frozen 1;have aT:=aa.frozen 2;have aS:=aa.frozen 3;have aR:=aa.frozen 4;have aQ:=aa.frozen 5;have aP:=aa.frozen 6;have aO:=aa.frozen 7;have SV:=qH (aa.store8 (D J 5) (D J (F1:Int)) (D J 0) (D J 0) (G E) (D J 0) (H U 0 0) (G ov));have BV:=zAc HB.out aB (D J 5) (D J (F1:Int)) (D J 0) (D J 0) (G E) (D J 0) (H U 0 0) (G ov);have bU:=qH (show OpG w g (.returned (.agg #[D J 5,D J (F1:Int),D J 0,D J 0,G E,D J 0,H U 0 0,G ov])) ((((((((ZR.setCell ⟨ae,0,U⟩ (D J 5)).setCell ⟨ae,1,U⟩ (D J (F1:Int))).setCell ⟨ae,2,U⟩ (D J 0)).setCell ⟨ae,3,U⟩ (D J 0)).setCell ⟨ae,4,U⟩ (G E)).setCell ⟨ae,5,U⟩ (D J 0)).setCell ⟨ae,6,U⟩ (H U 0 0)).setCell ⟨ae,7,U⟩ (G ov)) from by rw [bO.out];exact OpG.of (o:=⟨5,(F1:Int),⟨0,0,E,0⟩,[],ov⟩) (Row.none_ _ _ _) rfl BV);clear aa ab  BV;go_wp2_with fail
        exact zAi rfl rfl SV.out Tryz.underlying32 rfl (by kernel_rfl) rfl bU.out
       ·have i5:(0:Int) < (nR:Int):=by omega
        obtain ⟨r,hr⟩:∃r,nR=r+1:=⟨nR-1,by omega⟩
        have q2:(nR:Int)-1=(r:Int):=by omega
        have q4:IntKind.i64.wrap (r:Int)=(r:Int):=IntWalk.i64_in _ (by omega);have hdl:=zFJ (iX.out.trans hr);have kQ:=zDv (S:=R) (j:=r) (by rw [iX.out];omega);have pI:Hid (¬R=[]):=qH (fun e=>by have:=iX.out;rw [e] at this;simp at this;omega);have hlq:(R.take r).length<=100000:=by rw [List.length_take];omega
        generalize R.take r=ZP at kQ hdl hlq;obtain ⟨⟨sf,sl,sfar,spc⟩,hsg⟩:∃s,rbF ZP=s:=⟨_,rfl⟩
        have wQ:=qH (fun w=>zJV hsg hlq w);have bO:=qH (show g=⟨5,(F1:Int),⟨sf,sl,sfar,spc⟩,[],ov⟩ by rw [fZ.out];unfold zHG;rw [qN h45,qN h94,qN h33,qN h126,qP h61];rw [bJ.out,qN pI.out,<-hdl,hsg]);clear fZ h0 hr hdl hsg h45 h94 h33 h126 h61;have au:=ab.frozen 0;have aj:V.cell? ⟨ac,0,U⟩=Z (D J 0):=(ab.cell 0).trans rfl;have bK:=ab.frozen 7;have ap:V.cell? ⟨ac,7,U⟩=Z (G E):=(ab.cell 7).trans rfl;go_upto_region 24 with fail
        clear au aj bK ap;replace aa:=aa.far (p:=⟨ac,0,U⟩) (Nat.ne_of_lt ag) (D J 5);replace ab:=ab.set_ 0 (D J 5);replace HB:=qH (HB.out.setCell (p:=⟨ac,0,U⟩) am (D J 5));replace aa:=aa.far (p:=⟨ac,7,U⟩) (Nat.ne_of_lt ag) (G ov);replace ab:=ab.set_ 7 (G ov);replace HB:=qH (HB.out.setCell (p:=⟨ac,7,U⟩) am (G ov));replace ab:Blk ((V.setCell ⟨ac,0,U⟩ (D J 5)).setCell ⟨ac,7,U⟩ (G ov)) ac 32 #[D J 5,D J (F1:Int),D J 0,D J 0,G E,D J 0,H U 0 0,G ov]:=ab;generalize ((V.setCell ⟨ac,0,U⟩ (D J 5)).setCell ⟨ac,7,U⟩ (G ov))=Z1 at aa ab HB ⊢;go_wp2_with fail
        refine (wQ.out _).mono ?_;rintro e Z2 ⟨rfl,hb⟩;replace aa:=aa.below hb aa.lt;replace ab:=ab.below hb ab.lt;replace HB:=qH (zAa HB.out hb HB.out.size);clear hb;have cq:=ab.frozen 2;have aw:Z2.cell? ⟨ac,2,U⟩=Z (D J 0):=(ab.cell 2).trans rfl;have eW:=ab.frozen 3;have aE:Z2.cell? ⟨ac,3,U⟩=Z (D J 0):=(ab.cell 3).trans rfl;have eV:=ab.frozen 4;have aD:Z2.cell? ⟨ac,4,U⟩=Z (G E):=(ab.cell 4).trans rfl;have eU:=ab.frozen 5;have aC:Z2.cell? ⟨ac,5,U⟩=Z (D J 0):=(ab.cell 5).trans rfl;go_upto_region 46 with fail
        clear cq aw eW aE eV aD eU aC;replace aa:=aa.far (p:=⟨ac,2,U⟩) (Nat.ne_of_lt ag) (D J sf);replace ab:=ab.set_ 2 (D J sf);replace HB:=qH (HB.out.setCell (p:=⟨ac,2,U⟩) am (D J sf));replace aa:=aa.far (p:=⟨ac,3,U⟩) (Nat.ne_of_lt ag) (D J sl);replace ab:=ab.set_ 3 (D J sl);replace HB:=qH (HB.out.setCell (p:=⟨ac,3,U⟩) am (D J sl));replace aa:=aa.far (p:=⟨ac,4,U⟩) (Nat.ne_of_lt ag) (G sfar);replace ab:=ab.set_ 4 (G sfar);replace HB:=qH (HB.out.setCell (p:=⟨ac,4,U⟩) am (G sfar));replace aa:=aa.far (p:=⟨ac,5,U⟩) (Nat.ne_of_lt ag) (D J spc);replace ab:=ab.set_ 5 (D J spc);replace HB:=qH (HB.out.setCell (p:=⟨ac,5,U⟩) am (D J spc));replace ab:Blk ((((Z2.setCell ⟨ac,2,U⟩ (D J sf)).setCell ⟨ac,3,U⟩ (D J sl)).setCell ⟨ac,4,U⟩ (G sfar)).setCell ⟨ac,5,U⟩ (D J spc)) ac 32 #[D J 5,D J (F1:Int),D J sf,D J sl,G sfar,D J spc,H U 0 0,G ov]:=ab;generalize ((((Z2.setCell ⟨ac,2,U⟩ (D J sf)).setCell ⟨ac,3,U⟩ (D J sl)).setCell ⟨ac,4,U⟩ (G sfar)).setCell ⟨ac,5,U⟩ (D J spc))=Z3 at aa ab HB ⊢;obtain ⟨aj,aK,aw,aE,aD,aC,aJ,ap⟩:=cQ8 ab;obtain ⟨bg,bf,be,bc,aZ,aY,aX,aW⟩:=cQ8 aa;have aV:=aa.frozen 0;have aU:=aa.frozen 1;have aT:=aa.frozen 2;have aS:=aa.frozen 3;have aR:=aa.frozen 4;have aQ:=aa.frozen 5;have aP:=aa.frozen 6;have aO:=aa.frozen 7;have SV:=qH (aa.store8 (D J 5) (D J (F1:Int)) (D J sf) (D J sl) (G sfar) (D J spc) (H U 0 0) (G ov));have BV:=zAc HB.out aB (D J 5) (D J (F1:Int)) (D J sf) (D J sl) (G sfar) (D J spc) (H U 0 0) (G ov);have bU:=qH (show OpG w g (.returned (.agg #[D J 5,D J (F1:Int),D J sf,D J sl,G sfar,D J spc,H U 0 0,G ov])) ((((((((Z3.setCell ⟨ae,0,U⟩ (D J 5)).setCell ⟨ae,1,U⟩ (D J (F1:Int))).setCell ⟨ae,2,U⟩ (D J sf)).setCell ⟨ae,3,U⟩ (D J sl)).setCell ⟨ae,4,U⟩ (G sfar)).setCell ⟨ae,5,U⟩ (D J spc)).setCell ⟨ae,6,U⟩ (H U 0 0)).setCell ⟨ae,7,U⟩ (G ov)) from by rw [bO.out];exact OpG.of (o:=⟨5,(F1:Int),⟨sf,sl,sfar,spc⟩,[],ov⟩) (Row.none_ _ _ _) rfl BV);clear aa ab  BV;go_wp2_with fail
        exact zAi rfl rfl SV.out Tryz.underlying32 rfl (by kernel_rfl) rfl bU.out
      have t61:((B:Int)==61)=E:=zRk (c:=61) fo.out (by omega) h61;by_cases h42:b=42
      ·have t42:((B:Int)==42)=Q:=zIo (c:=42) fo.out (by omega) h42;have t37:((B:Int)==37)=E:=zRk (c:=37) fo.out (by omega) (by rw [h42];decide);by_cases h0:nR=0
       ·have i5:¬(0:Int) < (nR:Int):=by omega
        have pI:Hid (R=[]):=qH (List.length_eq_zero_iff.1 (iX.out.trans h0));have bO:=qH (show g=⟨6,(F1:Int),⟨0,0,E,0⟩,[],ov⟩ by rw [fZ.out];unfold zHG;rw [qN h45,qN h94,qN h33,qN h126,qN h61,qP h42];rw [bJ.out,qP pI.out];try rfl);clear fZ h0 h45 h94 h33 h126 h61 h42;have au:=ab.frozen 0;have aj:V.cell? ⟨ac,0,U⟩=Z (D J 0):=(ab.cell 0).trans rfl;have bK:=ab.frozen 7;have ap:V.cell? ⟨ac,7,U⟩=Z (G E):=(ab.cell 7).trans rfl;go_upto_region 46 with fail
        clear au aj bK ap;replace aa:=aa.far (p:=⟨ac,0,U⟩) (Nat.ne_of_lt ag) (D J 6);replace ab:=ab.set_ 0 (D J 6);replace HB:=qH (HB.out.setCell (p:=⟨ac,0,U⟩) am (D J 6));replace aa:=aa.far (p:=⟨ac,7,U⟩) (Nat.ne_of_lt ag) (G ov);replace ab:=ab.set_ 7 (G ov);replace HB:=qH (HB.out.setCell (p:=⟨ac,7,U⟩) am (G ov));replace ab:Blk ((V.setCell ⟨ac,0,U⟩ (D J 6)).setCell ⟨ac,7,U⟩ (G ov)) ac 32 #[D J 6,D J (F1:Int),D J 0,D J 0,G E,D J 0,H U 0 0,G ov]:=ab;generalize ((V.setCell ⟨ac,0,U⟩ (D J 6)).setCell ⟨ac,7,U⟩ (G ov))=ZR at aa ab HB ⊢;obtain ⟨aj,aK,aw,aE,aD,aC,aJ,ap⟩:=cQ8 ab;obtain ⟨bg,bf,be,bc,aZ,aY,aX,aW⟩:=cQ8 aa;have aV:=aa.frozen 0;have aU:=aa.frozen 1;have aT:=aa.frozen 2;have aS:=aa.frozen 3;have aR:=aa.frozen 4;have aQ:=aa.frozen 5;have aP:=aa.frozen 6;have aO:=aa.frozen 7;have SV:=qH (aa.store8 (D J 6) (D J (F1:Int)) (D J 0) (D J 0) (G E) (D J 0) (H U 0 0) (G ov));have BV:=zAc HB.out aB (D J 6) (D J (F1:Int)) (D J 0) (D J 0) (G E) (D J 0) (H U 0 0) (G ov);have bU:=qH (show OpG w g (.returned (.agg #[D J 6,D J (F1:Int),D J 0,D J 0,G E,D J 0,H U 0 0,G ov])) ((((((((ZR.setCell ⟨ae,0,U⟩ (D J 6)).setCell ⟨ae,1,U⟩ (D J (F1:Int))).setCell ⟨ae,2,U⟩ (D J 0)).setCell ⟨ae,3,U⟩ (D J 0)).setCell ⟨ae,4,U⟩ (G E)).setCell ⟨ae,5,U⟩ (D J 0)).setCell ⟨ae,6,U⟩ (H U 0 0)).setCell ⟨ae,7,U⟩ (G ov)) from by rw [bO.out];exact OpG.of (o:=⟨6,(F1:Int),⟨0,0,E,0⟩,[],ov⟩) (Row.none_ _ _ _) rfl BV);clear aa ab  BV;go_wp2_with fail
        exact zAi rfl rfl SV.out Tryz.underlying32 rfl (by kernel_rfl) rfl bU.out
       ·have i5:(0:Int) < (nR:Int):=by omega
        obtain ⟨r,hr⟩:∃r,nR=r+1:=⟨nR-1,by omega⟩
        have q2:(nR:Int)-1=(r:Int):=by omega
        have q4:IntKind.i64.wrap (r:Int)=(r:Int):=IntWalk.i64_in _ (by omega);have hdl:=zFJ (iX.out.trans hr);have kQ:=zDv (S:=R) (j:=r) (by rw [iX.out];omega);have pI:Hid (¬R=[]):=qH (fun e=>by have:=iX.out;rw [e] at this;simp at this;omega);have hlq:(R.take r).length<=100000:=by rw [List.length_take];omega
        generalize R.take r=ZP at kQ hdl hlq;obtain ⟨F3,kZ⟩:∃j,fnA ZP=j:=⟨_,rfl⟩
        have rc:=qH (fun w=>zCk kZ w);have bO:=qH (show g=⟨6,(F1:Int),⟨(F3:Int),0,E,0⟩,[],ov⟩ by rw [fZ.out];unfold zHG;rw [qN h45,qN h94,qN h33,qN h126,qN h61,qP h42];rw [bJ.out,qN pI.out,<-hdl,kZ]);clear fZ h0 hr hdl kZ hlq h45 h94 h33 h126 h61 h42;have au:=ab.frozen 0;have aj:V.cell? ⟨ac,0,U⟩=Z (D J 0):=(ab.cell 0).trans rfl;have bK:=ab.frozen 7;have ap:V.cell? ⟨ac,7,U⟩=Z (G E):=(ab.cell 7).trans rfl;go_upto_region 32 with fail
        clear au aj bK ap;replace aa:=aa.far (p:=⟨ac,0,U⟩) (Nat.ne_of_lt ag) (D J 6);replace ab:=ab.set_ 0 (D J 6);replace HB:=qH (HB.out.setCell (p:=⟨ac,0,U⟩) am (D J 6));replace aa:=aa.far (p:=⟨ac,7,U⟩) (Nat.ne_of_lt ag) (G ov);replace ab:=ab.set_ 7 (G ov);replace HB:=qH (HB.out.setCell (p:=⟨ac,7,U⟩) am (G ov));replace ab:Blk ((V.setCell ⟨ac,0,U⟩ (D J 6)).setCell ⟨ac,7,U⟩ (G ov)) ac 32 #[D J 6,D J (F1:Int),D J 0,D J 0,G E,D J 0,H U 0 0,G ov]:=ab;generalize ((V.setCell ⟨ac,0,U⟩ (D J 6)).setCell ⟨ac,7,U⟩ (G ov))=Z1 at aa ab HB ⊢;go_wp2_with fail
        refine (rc.out _).mono ?_;rintro e Z2 ⟨rfl,hb⟩;replace aa:=aa.below hb aa.lt;replace ab:=ab.below hb ab.lt;replace HB:=qH (zAa HB.out hb HB.out.size);clear hb;have cq:=ab.frozen 2;have aw:Z2.cell? ⟨ac,2,U⟩=Z (D J 0):=(ab.cell 2).trans rfl;go_upto_region 46 with fail
        clear cq aw;replace aa:=aa.far (p:=⟨ac,2,U⟩) (Nat.ne_of_lt ag) (D J (F3:Int));replace ab:=ab.set_ 2 (D J (F3:Int));replace HB:=qH (HB.out.setCell (p:=⟨ac,2,U⟩) am (D J (F3:Int)));replace ab:Blk (Z2.setCell ⟨ac,2,U⟩ (D J (F3:Int))) ac 32 #[D J 6,D J (F1:Int),D J (F3:Int),D J 0,G E,D J 0,H U 0 0,G ov]:=ab;generalize (Z2.setCell ⟨ac,2,U⟩ (D J (F3:Int)))=Z3 at aa ab HB ⊢;obtain ⟨aj,aK,aw,aE,aD,aC,aJ,ap⟩:=cQ8 ab;obtain ⟨bg,bf,be,bc,aZ,aY,aX,aW⟩:=cQ8 aa;have aV:=aa.frozen 0;have aU:=aa.frozen 1;have aT:=aa.frozen 2;have aS:=aa.frozen 3;have aR:=aa.frozen 4;have aQ:=aa.frozen 5;have aP:=aa.frozen 6;have aO:=aa.frozen 7;have SV:=qH (aa.store8 (D J 6) (D J (F1:Int)) (D J (F3:Int)) (D J 0) (G E) (D J 0) (H U 0 0) (G ov));have BV:=zAc HB.out aB (D J 6) (D J (F1:Int)) (D J (F3:Int)) (D J 0) (G E) (D J 0) (H U 0 0) (G ov);have bU:=qH (show OpG w g (.returned (.agg #[D J 6,D J (F1:Int),D J (F3:Int),D J 0,G E,D J 0,H U 0 0,G ov])) ((((((((Z3.setCell ⟨ae,0,U⟩ (D J 6)).setCell ⟨ae,1,U⟩ (D J (F1:Int))).setCell ⟨ae,2,U⟩ (D J (F3:Int))).setCell ⟨ae,3,U⟩ (D J 0)).setCell ⟨ae,4,U⟩ (G E)).setCell ⟨ae,5,U⟩ (D J 0)).setCell ⟨ae,6,U⟩ (H U 0 0)).setCell ⟨ae,7,U⟩ (G ov)) from by rw [bO.out];exact OpG.of (o:=⟨6,(F1:Int),⟨(F3:Int),0,E,0⟩,[],ov⟩) (Row.none_ _ _ _) rfl BV);clear aa ab  BV;go_wp2_with fail
        exact zAi rfl rfl SV.out Tryz.underlying32 rfl (by kernel_rfl) rfl bU.out
      have t42:((B:Int)==42)=E:=zRk (c:=42) fo.out (by omega) h42;by_cases h37:b=37
      ·have t37:((B:Int)==37)=Q:=zIo (c:=37) fo.out (by omega) h37;by_cases h0:nR=0
       ·have i5:¬(0:Int) < (nR:Int):=by omega
        have pI:Hid (R=[]):=qH (List.length_eq_zero_iff.1 (iX.out.trans h0));have bO:=qH (show g=⟨7,(F1:Int),⟨0,0,E,0⟩,[],ov⟩ by rw [fZ.out];unfold zHG;rw [qN h45,qN h94,qN h33,qN h126,qN h61,qN h42,qP h37];rw [bJ.out,qP pI.out];try rfl);clear fZ h0 h45 h94 h33 h126 h61 h42 h37;have au:=ab.frozen 0;have aj:V.cell? ⟨ac,0,U⟩=Z (D J 0):=(ab.cell 0).trans rfl;go_upto_region 28 with fail
        clear au aj;replace aa:=aa.far (p:=⟨ac,0,U⟩) (Nat.ne_of_lt ag) (D J 6);replace ab:=ab.set_ 0 (D J 6);replace HB:=qH (HB.out.setCell (p:=⟨ac,0,U⟩) am (D J 6));replace ab:Blk (V.setCell ⟨ac,0,U⟩ (D J 6)) ac 32 #[D J 6,D J (F1:Int),D J 0,D J 0,G E,D J 0,H U 0 0,G E]:=ab;generalize (V.setCell ⟨ac,0,U⟩ (D J 6))=Z0 at aa ab HB ⊢;have au:=ab.frozen 0;have aj:Z0.cell? ⟨ac,0,U⟩=Z (D J 6):=(ab.cell 0).trans rfl;have bK:=ab.frozen 7;have ap:Z0.cell? ⟨ac,7,U⟩=Z (G E):=(ab.cell 7).trans rfl;go_upto_region 46 with fail
        clear au aj bK ap;replace aa:=aa.far (p:=⟨ac,0,U⟩) (Nat.ne_of_lt ag) (D J 7);replace ab:=ab.set_ 0 (D J 7);replace HB:=qH (HB.out.setCell (p:=⟨ac,0,U⟩) am (D J 7));replace aa:=aa.far (p:=⟨ac,7,U⟩) (Nat.ne_of_lt ag) (G ov);replace ab:=ab.set_ 7 (G ov);replace HB:=qH (HB.out.setCell (p:=⟨ac,7,U⟩) am (G ov));replace ab:Blk ((Z0.setCell ⟨ac,0,U⟩ (D J 7)).setCell ⟨ac,7,U⟩ (G ov)) ac 32 #[D J 7,D J (F1:Int),D J 0,D J 0,G E,D J 0,H U 0 0,G ov]:=ab;generalize ((Z0.setCell ⟨ac,0,U⟩ (D J 7)).setCell ⟨ac,7,U⟩ (G ov))=ZR at aa ab HB ⊢;obtain ⟨aj,aK,aw,aE,aD,aC,aJ,ap⟩:=cQ8 ab;obtain ⟨bg,bf,be,bc,aZ,aY,aX,aW⟩:=cQ8 aa;have aV:=aa.frozen 0;have aU:=aa.frozen 1;have aT:=aa.frozen 2;have aS:=aa.frozen 3;have aR:=aa.frozen 4;have aQ:=aa.frozen 5;have aP:=aa.frozen 6;have aO:=aa.frozen 7;have SV:=qH (aa.store8 (D J 7) (D J (F1:Int)) (D J 0) (D J 0) (G E) (D J 0) (H U 0 0) (G ov));have BV:=zAc HB.out aB (D J 7) (D J (F1:Int)) (D J 0) (D J 0) (G E) (D J 0) (H U 0 0) (G ov);have bU:=qH (show OpG w g (.returned (.agg #[D J 7,D J (F1:Int),D J 0,D J 0,G E,D J 0,H U 0 0,G ov])) ((((((((ZR.setCell ⟨ae,0,U⟩ (D J 7)).setCell ⟨ae,1,U⟩ (D J (F1:Int))).setCell ⟨ae,2,U⟩ (D J 0)).setCell ⟨ae,3,U⟩ (D J 0)).setCell ⟨ae,4,U⟩ (G E)).setCell ⟨ae,5,U⟩ (D J 0)).setCell ⟨ae,6,U⟩ (H U 0 0)).setCell ⟨ae,7,U⟩ (G ov)) from by rw [bO.out];exact OpG.of (o:=⟨7,(F1:Int),⟨0,0,E,0⟩,[],ov⟩) (Row.none_ _ _ _) rfl BV);clear aa ab  BV;go_wp2_with fail
        exact zAi rfl rfl SV.out Tryz.underlying32 rfl (by kernel_rfl) rfl bU.out
       ·have i5:(0:Int) < (nR:Int):=by omega
        obtain ⟨r,hr⟩:∃r,nR=r+1:=⟨nR-1,by omega⟩
        have q2:(nR:Int)-1=(r:Int):=by omega
        have q4:IntKind.i64.wrap (r:Int)=(r:Int):=IntWalk.i64_in _ (by omega);have hdl:=zFJ (iX.out.trans hr);have kQ:=zDv (S:=R) (j:=r) (by rw [iX.out];omega);have pI:Hid (¬R=[]):=qH (fun e=>by have:=iX.out;rw [e] at this;simp at this;omega);have hlq:(R.take r).length<=100000:=by rw [List.length_take];omega
        generalize R.take r=ZP at kQ hdl hlq;obtain ⟨F3,kZ⟩:∃j,fnA ZP=j:=⟨_,rfl⟩
        have rc:=qH (fun w=>zCk kZ w);have bO:=qH (show g=⟨7,(F1:Int),⟨(F3:Int),0,E,0⟩,[],ov⟩ by rw [fZ.out];unfold zHG;rw [qN h45,qN h94,qN h33,qN h126,qN h61,qN h42,qP h37];rw [bJ.out,qN pI.out,<-hdl,kZ]);clear fZ h0 hr hdl kZ hlq h45 h94 h33 h126 h61 h42 h37;have au:=ab.frozen 0;have aj:V.cell? ⟨ac,0,U⟩=Z (D J 0):=(ab.cell 0).trans rfl;go_upto_region 28 with fail
        clear au aj;replace aa:=aa.far (p:=⟨ac,0,U⟩) (Nat.ne_of_lt ag) (D J 6);replace ab:=ab.set_ 0 (D J 6);replace HB:=qH (HB.out.setCell (p:=⟨ac,0,U⟩) am (D J 6));replace ab:Blk (V.setCell ⟨ac,0,U⟩ (D J 6)) ac 32 #[D J 6,D J (F1:Int),D J 0,D J 0,G E,D J 0,H U 0 0,G E]:=ab;generalize (V.setCell ⟨ac,0,U⟩ (D J 6))=Z0 at aa ab HB ⊢;have au:=ab.frozen 0;have aj:Z0.cell? ⟨ac,0,U⟩=Z (D J 6):=(ab.cell 0).trans rfl;have bK:=ab.frozen 7;have ap:Z0.cell? ⟨ac,7,U⟩=Z (G E):=(ab.cell 7).trans rfl;go_upto_region 32 with fail
        clear au aj bK ap;replace aa:=aa.far (p:=⟨ac,0,U⟩) (Nat.ne_of_lt ag) (D J 7);replace ab:=ab.set_ 0 (D J 7);replace HB:=qH (HB.out.setCell (p:=⟨ac,0,U⟩) am (D J 7));replace aa:=aa.far (p:=⟨ac,7,U⟩) (Nat.ne_of_lt ag) (G ov);replace ab:=ab.set_ 7 (G ov);replace HB:=qH (HB.out.setCell (p:=⟨ac,7,U⟩) am (G ov));replace ab:Blk ((Z0.setCell ⟨ac,0,U⟩ (D J 7)).setCell ⟨ac,7,U⟩ (G ov)) ac 32 #[D J 7,D J (F1:Int),D J 0,D J 0,G E,D J 0,H U 0 0,G ov]:=ab;generalize ((Z0.setCell ⟨ac,0,U⟩ (D J 7)).setCell ⟨ac,7,U⟩ (G ov))=Z1 at aa ab HB ⊢;go_wp2_with fail
        refine (rc.out _).mono ?_;rintro e Z2 ⟨rfl,hb⟩;replace aa:=aa.below hb aa.lt;replace ab:=ab.below hb ab.lt;replace HB:=qH (zAa HB.out hb HB.out.size);clear hb;have cq:=ab.frozen 2;have aw:Z2.cell? ⟨ac,2,U⟩=Z (D J 0):=(ab.cell 2).trans rfl;go_upto_region 46 with fail
        clear cq aw;replace aa:=aa.far (p:=⟨ac,2,U⟩) (Nat.ne_of_lt ag) (D J (F3:Int));replace ab:=ab.set_ 2 (D J (F3:Int));replace HB:=qH (HB.out.setCell (p:=⟨ac,2,U⟩) am (D J (F3:Int)));replace ab:Blk (Z2.setCell ⟨ac,2,U⟩ (D J (F3:Int))) ac 32 #[D J 7,D J (F1:Int),D J (F3:Int),D J 0,G E,D J 0,H U 0 0,G ov]:=ab;generalize (Z2.setCell ⟨ac,2,U⟩ (D J (F3:Int)))=Z3 at aa ab HB ⊢;obtain ⟨aj,aK,aw,aE,aD,aC,aJ,ap⟩:=cQ8 ab;obtain ⟨bg,bf,be,bc,aZ,aY,aX,aW⟩:=cQ8 aa;have aV:=aa.frozen 0;have aU:=aa.frozen 1;have aT:=aa.frozen 2;have aS:=aa.frozen 3;have aR:=aa.frozen 4;have aQ:=aa.frozen 5;have aP:=aa.frozen 6;have aO:=aa.frozen 7;have SV:=qH (aa.store8 (D J 7) (D J (F1:Int)) (D J (F3:Int)) (D J 0) (G E) (D J 0) (H U 0 0) (G ov));have BV:=zAc HB.out aB (D J 7) (D J (F1:Int)) (D J (F3:Int)) (D J 0) (G E) (D J 0) (H U 0 0) (G ov);have bU:=qH (show OpG w g (.returned (.agg #[D J 7,D J (F1:Int),D J (F3:Int),D J 0,G E,D J 0,H U 0 0,G ov])) ((((((((Z3.setCell ⟨ae,0,U⟩ (D J 7)).setCell ⟨ae,1,U⟩ (D J (F1:Int))).setCell ⟨ae,2,U⟩ (D J (F3:Int))).setCell ⟨ae,3,U⟩ (D J 0)).setCell ⟨ae,4,U⟩ (G E)).setCell ⟨ae,5,U⟩ (D J 0)).setCell ⟨ae,6,U⟩ (H U 0 0)).setCell ⟨ae,7,U⟩ (G ov)) from by rw [bO.out];exact OpG.of (o:=⟨7,(F1:Int),⟨(F3:Int),0,E,0⟩,[],ov⟩) (Row.none_ _ _ _) rfl BV);clear aa ab  BV;go_wp2_with fail
        exact zAi rfl rfl SV.out Tryz.underlying32 rfl (by kernel_rfl) rfl bU.out
      have t37:((B:Int)==37)=E:=zRk (c:=37) fo.out (by omega) h37;by_cases h60:b=60
      ·have t60:((B:Int)==60)=Q:=zIo (c:=60) fo.out (by omega) h60;obtain ⟨T2,et⟩:∃T,zAI 60 R=T:=⟨_,rfl⟩
       have tT:=qH (fun w=>zFu et (by rw [iX.out];omega) w);have zB:=qH (show T2.length<=8001 by rw [<-et];have:=zFI 60 R;rw [iX.out] at this;omega);have zy:=qH (show 0 < T2.length by rw [<-et];exact zJW 60 R);have nV:=qH (show ∀x∈T2,x.length<=8000 from fun x hx=>by rw [<-et] at hx;have:=zAJ 60 R x hx;rw [iX.out] at this;omega);have bO:=qH (show g=zQg (F1:Int) T2 by rw [fZ.out];unfold zHG;rw [qN h45,qN h94,qN h33,qN h126,qN h61,qN h42,qN h37,qP h60];rw [et]);have zX:=qH bO.out;clear bO fZ et h45 h94 h33 h126 h61 h42 h37 h60;have au:=ab.frozen 0;have aj:V.cell? ⟨ac,0,U⟩=Z (D J 0):=(ab.cell 0).trans rfl;go_upto_region 35 with fail
       clear au aj;replace aa:=aa.far (p:=⟨ac,0,U⟩) (Nat.ne_of_lt ag) (D J 3);replace ab:=ab.set_ 0 (D J 3);replace HB:=qH (HB.out.setCell (p:=⟨ac,0,U⟩) am (D J 3));replace ab:Blk (V.setCell ⟨ac,0,U⟩ (D J 3)) ac 32 #[D J 3,D J (F1:Int),D J 0,D J 0,G E,D J 0,H U 0 0,G E]:=ab;generalize (V.setCell ⟨ac,0,U⟩ (D J 3))=Z1 at aa ab HB ⊢;go_wp2_with fail
       refine (tT.out _).mono ?_;rintro e Z2 ⟨B1,m1,d1,rfl,cZ,o6,hb⟩;have fj:∀k,blk B1=Z k->k≠ac:=fun k hk=>Nat.ne_of_gt (Nat.lt_of_lt_of_le ab.lt (cZ.lt k hk).1)
       have tH:=HB.out.size;replace aa:=aa.below hb aa.lt;replace ab:=ab.below hb ab.lt;replace HB:=qH (zAa HB.out hb HB.out.size);replace cZ:=cZ.mono tH;clear hb tH;have jW:=qH (show T2.length=m1 by have:=cZ.len;simpa using this);have wt:m1<=8001:=by rw [<-jW.out];exact zB.out
       have hm0:0 < m1:=by rw [<-jW.out];exact zy.out
       obtain ⟨l1,ik⟩:∃l,m1=l+1:=⟨m1-1,by omega⟩
       obtain ⟨g1,o1,rfl,_,dX⟩:=cZ.form hm0;obtain ⟨PL,bT⟩:∃ZO,xa T2 l1=ZO:=⟨_,rfl⟩
       have xl:Z2.cell? ⟨g1,o1+l1,U⟩=Z (W (bA PL)):=by have:=((cZ.txts (by omega)).cell (j:=l1) (by omega)).2;rw [bT] at this;exact this
       have q2:(m1:Int)-1=(l1:Int):=by omega
       have q4:IntKind.i64.wrap (l1:Int)=(l1:Int):=IntWalk.i64_in _ (by omega);have i8:l1 < m1:=by omega
       have hlq:PL.length<=100000:=by rw [<-bT];have:=nV.out _ (List.mem_of_getElem? (zOK (T:=T2) (i:=l1) (by rw [jW.out];omega)));omega
       obtain ⟨⟨sf,sl,sfar,spc⟩,hsg⟩:∃s,rbF PL=s:=⟨_,rfl⟩
       have wQ:=qH (fun w=>zJV hsg hlq w);have GD:=qH (show rbF (xa T2 (T2.length-1))=⟨sf,sl,sfar,spc⟩ by rw [jW.out,ik,show l1+1-1=l1 by omega,bT,hsg]);clear o6 tT zB zy bT hsg hlq dX;go_wp2_with fail
       refine (wQ.out _).mono ?_;rintro e Z3 ⟨rfl,hb⟩;replace aa:=aa.below hb aa.lt;replace ab:=ab.below hb ab.lt;replace cZ:=cZ.below hb;replace HB:=qH (zAa HB.out hb HB.out.size);clear hb;clear xl wQ;have cq:=ab.frozen 2;have aw:Z3.cell? ⟨ac,2,U⟩=Z (D J 0):=(ab.cell 2).trans rfl;have eW:=ab.frozen 3;have aE:Z3.cell? ⟨ac,3,U⟩=Z (D J 0):=(ab.cell 3).trans rfl;have eV:=ab.frozen 4;have aD:Z3.cell? ⟨ac,4,U⟩=Z (G E):=(ab.cell 4).trans rfl;have eU:=ab.frozen 5;have aC:Z3.cell? ⟨ac,5,U⟩=Z (D J 0):=(ab.cell 5).trans rfl;go_upto_region 37 with fail
       clear cq aw eW aE eV aD eU aC;replace aa:=aa.far (p:=⟨ac,2,U⟩) (Nat.ne_of_lt ag) (D J sf);replace ab:=ab.set_ 2 (D J sf);replace cZ:=cZ.farSet 2 (D J sf) fj;replace HB:=qH (HB.out.setCell (p:=⟨ac,2,U⟩) am (D J sf));replace aa:=aa.far (p:=⟨ac,3,U⟩) (Nat.ne_of_lt ag) (D J sl);replace ab:=ab.set_ 3 (D J sl);replace cZ:=cZ.farSet 3 (D J sl) fj;replace HB:=qH (HB.out.setCell (p:=⟨ac,3,U⟩) am (D J sl));replace aa:=aa.far (p:=⟨ac,4,U⟩) (Nat.ne_of_lt ag) (G sfar);replace ab:=ab.set_ 4 (G sfar);replace cZ:=cZ.farSet 4 (G sfar) fj;replace HB:=qH (HB.out.setCell (p:=⟨ac,4,U⟩) am (G sfar));replace aa:=aa.far (p:=⟨ac,5,U⟩) (Nat.ne_of_lt ag) (D J spc);replace ab:=ab.set_ 5 (D J spc);replace cZ:=cZ.farSet 5 (D J spc) fj;replace HB:=qH (HB.out.setCell (p:=⟨ac,5,U⟩) am (D J spc));replace ab:Blk ((((Z3.setCell ⟨ac,2,U⟩ (D J sf)).setCell ⟨ac,3,U⟩ (D J sl)).setCell ⟨ac,4,U⟩ (G sfar)).setCell ⟨ac,5,U⟩ (D J spc)) ac 32 #[D J 3,D J (F1:Int),D J sf,D J sl,G sfar,D J spc,H U 0 0,G E]:=ab;generalize ((((Z3.setCell ⟨ac,2,U⟩ (D J sf)).setCell ⟨ac,3,U⟩ (D J sl)).setCell ⟨ac,4,U⟩ (G sfar)).setCell ⟨ac,5,U⟩ (D J spc))=Z4 at aa ab cZ HB ⊢;by_cases cE:m1=2
       ·have t2:((m1:Int)==2)=Q:=by rw [cE];rfl
        obtain ⟨P0,jd⟩:∃ZO,xa T2 0=ZO:=⟨_,rfl⟩
        have x0:Z4.cell? ⟨g1,o1,U⟩=Z (W (bA P0)):=by have:=((cZ.txts (by omega)).cell (j:=0) hm0).2;rw [jd] at this;exact this
        have hlp:P0.length<=8000:=by rw [<-jd];exact nV.out _ (List.mem_of_getElem? (zOK (T:=T2) (i:=0) (by rw [jW.out];omega)))
        obtain ⟨T3,jb⟩:∃T,zAI 44 P0=T:=⟨_,rfl⟩
        have tU:=qH (fun w=>zFu jb (by omega) w);have zA:=qH (show T3.length<=8001 by rw [<-jb];have:=zFI 44 P0;omega);have zx:=qH (show 0 < T3.length by rw [<-jb];exact zJW 44 P0);have Dy:=qH (show ∀x∈T3,x.length<=8000 from fun x hx=>by rw [<-jb] at hx;have:=zAJ 44 P0 x hx;omega)
        have ep:=qH (show ∀P,zIb T3 []=Z P->g=⟨3,(F1:Int),⟨sf,sl,sfar,spc⟩,P,E⟩ from fun P h=>by
         rw [zX.out,zRl (P:=P) (by rw [jW.out];exact cE) (by rw [jd,jb];exact h),GD.out])
        have GY:=qH (show zIb T3 []=U->g=o0 from fun h=>by
         rw [zX.out,zRm (by rw [jW.out];exact cE) (by rw [jd,jb];exact h)])
        clear jd jb hlp zX nV cE;go_wp2_with fail
        clear x0 cZ;refine (tU.out _).mono ?_;rintro e Z5 ⟨B2,m2,d2,rfl,kj,cE,hb⟩;have py:∀k,blk B2=Z k->k≠ac:=fun k hk=>Nat.ne_of_gt (Nat.lt_of_lt_of_le ab.lt (kj.lt k hk).1)
        have tG:=HB.out.size;replace aa:=aa.below hb aa.lt;replace ab:=ab.below hb ab.lt;replace HB:=qH (zAa HB.out hb HB.out.size);replace kj:=kj.mono tG;clear hb tG;have nY:=qH (show T3.length=m2 by have:=kj.len;simpa using this);have hm28:m2<=8001:=by rw [<-nY.out];exact zA.out
        have Cc:0 < m2:=by rw [<-nY.out];exact zx.out
        obtain ⟨g2,o2,rfl,_,dr⟩:=kj.form Cc;obtain ⟨bs,hbs⟩:∃z,Z5.heap.size=z:=⟨_,rfl⟩
        have hg2b:g2 < bs:=by omega
        have hopb:ac < bs:=by rw [<-hbs];exact ab.lt
        have hresb:ae < bs:=by rw [<-hbs];exact aa.lt
        have Ck:g2≠ac:=py g2 rfl;have hwb:w.heap.size<=bs:=by omega
        have gY:bs<=Z5.heap.size:=by omega
        have eN:=qH (kj.txts (by omega));clear cE tU zA zx hbs dr kj;go_wp2_with fail
        go_loopw [10] (fun lU wv=>∃(P:List Sp) (i:Nat) (B:Option Addr) (d:Nat) (V:ZY),V=wv/\lU=D J (i:Int)/\i<=m2/\Hid (zIb T3 []=zIb (T3.drop i) P)/\Hid (P.length=i)/\Blk V ac 32 #[D J 3,D J (F1:Int),D J sf,D J sl,G sfar,D J spc,H B i d,G E]/\Blk V ae 32 #[D J 0,D J 0,D J 0,D J 0,G E,D J 0,H U 0 0,G E]/\Row V bs 5 B i d (P.flatMap zCl)/\bs<=V.heap.size/\Hid (Txts V (Z ⟨g2,o2,U⟩) m2 T3)/\Hid (ZZ w.heap.size w V)) (fun lU _=>m2-(intOf lU).toNat)
        case atStart=>exact ⟨[],0,U,0,_,rfl,rfl,Nat.zero_le _,qH (by simp),qH rfl,ab,aa,Row.none_ _ _ _,gY,eN,HB⟩
        case round =>
         clear ab aa HB eN gY;obtain ⟨P,i,B,d,X,hX,rfl,hi,eO,cc,ab,aa,aH,hbz,eN,HB⟩:=hrel;subst hX;have eJ:∀k,blk B=Z k->k≠ac:=fun k hk=>by have:=(aH.lt k hk).1;omega
         have ek:∀k,blk B=Z k->k≠ae:=fun k hk=>by have:=(aH.lt k hk).1;omega
         by_cases hlt2:i < m2
         ·have j1:(i:Int) < (m2:Int):=by omega
          have j2:(0:Int)<=(i:Int):=by omega
          obtain ⟨ZP,hQ⟩:∃ZO,xa T3 i=ZO:=⟨_,rfl⟩
          have x0:X.cell? ⟨g2,o2+i,U⟩=Z (W (bA ZP)):=by have:=(eN.out.cell (j:=i) hlt2).2;rw [hQ] at this;exact this
          have hlq:ZP.length<=8000:=by rw [<-hQ];exact Dy.out _ (List.mem_of_getElem? (zOK (T:=T3) (i:=i) (by rw [nY.out];exact hlt2)))
          have hsQ:=zBz ZP;obtain ⟨nQ,qo⟩:∃k,ZP.length=k:=⟨_,rfl⟩
          rw [qo] at hsQ hlq;by_cases h0:nQ=0
          ·have t0:((nQ:Int)==0)=Q:=by rw [h0];rfl
           have DF:=qH (show g=o0 from GY.out (by rw [eO.out];exact zVZ (by rw [nY.out];exact hlt2) (hQ.trans (List.length_eq_zero_iff.1 (qo.trans h0)))));clear h0 hQ qo hlq eO;go_upto_region 44 with fail
           clear x0;have bO:=qH (show g=o0 from DF.out);obtain ⟨bg,bf,be,bc,aZ,aY,aX,aW⟩:=cQ8 aa;have aV:=aa.frozen 0;have aU:=aa.frozen 1;have aT:=aa.frozen 2;have aS:=aa.frozen 3;have aR:=aa.frozen 4;have aQ:=aa.frozen 5;have aP:=aa.frozen 6;have aO:=aa.frozen 7;have SV:=qH (aa.store8 (D J 0) (D J 0) (D J 0) (D J 0) (G E) (D J 0) (H U 0 0) (G E));have BV:=zAc HB.out aB (D J 0) (D J 0) (D J 0) (D J 0) (G E) (D J 0) (H U 0 0) (G E);have bU:=qH (show OpG w g (.returned (.agg #[D J 0,D J 0,D J 0,D J 0,G E,D J 0,H U 0 0,G E])) ((((((((X.setCell ⟨ae,0,U⟩ (D J 0)).setCell ⟨ae,1,U⟩ (D J 0)).setCell ⟨ae,2,U⟩ (D J 0)).setCell ⟨ae,3,U⟩ (D J 0)).setCell ⟨ae,4,U⟩ (G E)).setCell ⟨ae,5,U⟩ (D J 0)).setCell ⟨ae,6,U⟩ (H U 0 0)).setCell ⟨ae,7,U⟩ (G E)) from by rw [bO.out];exact OpG.of (o:=o0) (Row.none_ _ _ _) rfl BV);clear BV aa ab aH;go_wp2_with fail
           exact zAi rfl rfl SV.out Tryz.underlying32 rfl (by kernel_rfl) rfl bU.out
          ·have t0:((nQ:Int)==0)=E:=by simp only [beq_eq_false_iff_ne,ne_eq];omega
           obtain ⟨r,hr⟩:∃r,nQ=r+1:=⟨nQ-1,by omega⟩
           obtain ⟨e,he1,he2⟩:=zGm (qo.trans hr);have hnr:=zDu he1;obtain ⟨nx,iH⟩:∃q,decide (e=111)=q:=⟨_,rfl⟩
           have n1:((e.toNat:Int)==111)=nx:=by rw [<-iH];exact zHS e 111 (by omega)
           have hdl:=zFJ (qo.trans hr);have kQ:=zDv (S:=ZP) (j:=r) (by rw [qo];omega);have q2b:(nQ:Int)-1=(r:Int):=by omega
           have q4b:IntKind.i64.wrap (r:Int)=(r:Int):=IntWalk.i64_in _ (by omega);have uA:(ZP.take r).length<=100000:=by rw [List.length_take];omega
           have yE:ZP≠[]:=fun e=>by rw [e] at qo;simp at qo;omega
           have hst:=zTt (P:=P) (by rw [nY.out];exact hlt2) hQ yE;rw [<-hdl,he2,show decide ((Z e:Option UInt8)=Z 111)=decide (e=111) by simp,iH] at hst;generalize ZP.take r=Q2 at kQ uA hst;obtain ⟨⟨tf,tl,tfar,tpc⟩,hsg⟩:∃s,rbF Q2=s:=⟨_,rfl⟩
           rw [hsg] at hst;have wQ:=qH (fun w=>zJV hsg uA w);have iW:=qH (eO.out.trans hst);generalize e.toNat=e0 at hnr n1;clear h0 hQ qo hr he1 he2 iH hdl uA yE hst hsg eO;go_upto_region 45 with fail
           have c6:X.cell? ⟨ac,6,U⟩=Z (H B i d):=(ab.cell 6).trans rfl;have KO:=qH ab;have KR:=qH aa;have HPR:=qH aH;have nU:=qH (show g2 < X.heap.size/\X.cell? ⟨g2,o2+i,U⟩=Z (W (bA ZP)) from ⟨(eN.out.cell (j:=i) hlt2).1,x0⟩);have hi1:i+1<=1000000:=by omega
           clear ab aa aH
           go_region_law (first
            | ((refine zUh (base:=bs) (g:=wd.heap.size) (A:=B) (n:=i) (c:=d) (P:=P) rfl (.tmp 152) (.tmp 170) (by rfl) ⟨⟨tf,tl,tfar,tpc⟩,nx⟩ (by rfl) (by rfl) (by first | exact KB.out | exact KB.out.drew) (by first | exact zr.out | exact zr.out.drew) (i+1) rfl hi1 (by first | exact ly.out) ?_)
               intro B2 d3 w9 hR9 bn b8
               have qf:Blk w9 ac 32 #[D J 3,D J (F1:Int),D J sf,D J sl,G sfar,D J spc,H B i d,G E]:=Dm.out.grown b8 (fun e=>eJ ac e.symm rfl)
               have z9:=qf.frozen 6
               have c9:w9.cell? ⟨ac,6,U⟩=Z (H B i d):=(qf.cell 6).trans rfl)
            | ((go_simp;go_at_call 121;refine (wQ.out _).mono ?_;rintro e' wd ⟨rfl,hbd⟩)
               have hbq:ZZ X.heap.size X wd:=zAa ((M X.heap.size X).drew) hbd (O _)
               have kod:Blk wd ac 32 #[D J 3,D J (F1:Int),D J sf,D J sl,G sfar,D J spc,H B i d,G E]:=KO.out.below hbq KO.out.lt
               have y6:wd.cell? ⟨ac,6,U⟩=Z (H B i d):=(kod.cell 6).trans rfl
               have y6b:(wd.alloc (.cells #[D J tf,D J tl,G tfar,D J tpc,G nx] 86)).cell? ⟨ac,6,U⟩=Z (H B i d):=((kod.alloc (.cells #[D J tf,D J tl,G tfar,D J tpc,G nx] 86)).cell 6).trans rfl
               have yx:wd.cell? ⟨g2,o2+i,U⟩=Z (W (bA ZP)):=(hbq.cell (p:=⟨g2,o2+i,U⟩) nU.out.1).trans nU.out.2
               have KB:=qH (Blk.new wd 86 #[D J tf,D J tl,G tfar,D J tpc,G nx])
               have zr:=qH ((HPR.out.below hbq).alloc (.cells #[D J tf,D J tl,G tfar,D J tpc,G nx] 86))
               have Dm:=qH (kod.alloc (.cells #[D J tf,D J tl,G tfar,D J tpc,G nx] 86))
               have ly:=qH (show bs<=(wd.alloc (.cells #[D J tf,D J tl,G tfar,D J tpc,G nx] 86)).heap.size from Nat.le_trans hbz (hbq.alloc hbq.size (.cells #[D J tf,D J tl,G tfar,D J tpc,G nx] 86)).size)))
           all_goals
            have uU:ZZ X.heap.size X (wd.alloc (.cells #[D J tf,D J tl,G tfar,D J tpc,G nx] 86)):=hbq.alloc hbq.size (.cells #[D J tf,D J tl,G tfar,D J tpc,G nx] 86);have xJ:=((KR.out.below hbq KR.out.lt).alloc (.cells #[D J tf,D J tl,G tfar,D J tpc,G nx] 86)).grown b8 (fun e=>ek ae e.symm rfl);have cl:∀k,blk B2=Z k->k≠ac:=fun k hk=>by have:=(hR9.lt k hk).1;omega
            have wJ:ZZ w.heap.size w (w9.setCell ⟨ac,6,U⟩ (H B2 (i+1) d3)):=(((zAa HB.out uU HB.out.size).trans (bn.mono hwb))).setCell (p:=⟨ac,6,U⟩) am _;have xK:Blk (w9.setCell ⟨ac,6,U⟩ (H B2 (i+1) d3)) ac 32 #[D J 3,D J (F1:Int),D J sf,D J sl,G sfar,D J spc,H B2 (i+1) d3,G E]:=qf.set_ 6 _;have oM:=xJ.far (p:=⟨ac,6,U⟩) (Nat.ne_of_lt ag) (H B2 (i+1) d3);have jO:=hR9.farSet 6 (H B2 (i+1) d3) cl;have hzb:bs<=(w9.setCell ⟨ac,6,U⟩ (H B2 (i+1) d3)).heap.size:=by have:=Nat.le_trans ly.out bn.size;simpa using this
            have yB:Txts (w9.setCell ⟨ac,6,U⟩ (H B2 (i+1) d3)) (Z ⟨g2,o2,U⟩) m2 T3:=zTu ((eN.out.below uU).overBlk bn (fun _ k hk=>by have e:g2=k:=Option.some.inj hk;omega) bn.size) Ck 6 (H B2 (i+1) d3);have lD:=qH (And.intro xK (And.intro oM (And.intro jO (And.intro hzb (And.intro (qH yB) (qH wJ))))));have DG:=qH (show (P++[(⟨⟨tf,tl,tfar,tpc⟩,nx⟩:Sp)]).length=i+1 by rw [List.length_append,cc.out];rfl);clear xK oM jO hzb yB wJ cl xJ qf hR9 bn b8 uU hbq kod y6 y6b yx c6 x0;go_wp2_with fail
            go_roundw
            case rel=>exact ⟨_,i+1,B2,d3,_,rfl,by go_num,hlt2,iW,DG,lD.out⟩
            case measure=>simp [intOf];omega
         ·have j1:¬(i:Int) < (m2:Int):=by omega
          have bO:=qH (show g=⟨3,(F1:Int),⟨sf,sl,sfar,spc⟩,P,E⟩ from ep.out P (by rw [eO.out];exact zWa (by rw [nY.out];omega)));clear eO ep GY;go_upto_region 46 with fail
          obtain ⟨aj,aK,aw,aE,aD,aC,aJ,ap⟩:=cQ8 ab;obtain ⟨bg,bf,be,bc,aZ,aY,aX,aW⟩:=cQ8 aa;have aV:=aa.frozen 0;have aU:=aa.frozen 1;have aT:=aa.frozen 2;have aS:=aa.frozen 3;have aR:=aa.frozen 4;have aQ:=aa.frozen 5;have aP:=aa.frozen 6;have aO:=aa.frozen 7;have SV:=qH (aa.store8 (D J 3) (D J (F1:Int)) (D J sf) (D J sl) (G sfar) (D J spc) (H B i d) (G E));have BV:=zAc HB.out aB (D J 3) (D J (F1:Int)) (D J sf) (D J sl) (G sfar) (D J spc) (H B i d) (G E);have RV:=(aH.store8of ek (D J 3) (D J (F1:Int)) (D J sf) (D J sl) (G sfar) (D J spc) (H B i d) (G E)).mono hwb;have bU:=qH (show OpG w g (.returned (.agg #[D J 3,D J (F1:Int),D J sf,D J sl,G sfar,D J spc,H B i d,G E])) ((((((((X.setCell ⟨ae,0,U⟩ (D J 3)).setCell ⟨ae,1,U⟩ (D J (F1:Int))).setCell ⟨ae,2,U⟩ (D J sf)).setCell ⟨ae,3,U⟩ (D J sl)).setCell ⟨ae,4,U⟩ (G sfar)).setCell ⟨ae,5,U⟩ (D J spc)).setCell ⟨ae,6,U⟩ (H B i d)).setCell ⟨ae,7,U⟩ (G E)) from by rw [bO.out];exact OpG.of (o:=⟨3,(F1:Int),⟨sf,sl,sfar,spc⟩,P,E⟩) RV cc.out.symm BV);clear aa ab aH BV RV;go_wp2_with fail
          exact zAi rfl rfl SV.out Tryz.underlying32 rfl (by kernel_rfl) rfl bU.out
       ·have t2:((m1:Int)==2)=E:=by simp only [beq_eq_false_iff_ne,ne_eq];omega
        have bO:=qH (show g=⟨3,(F1:Int),⟨sf,sl,sfar,spc⟩,[],E⟩ by rw [zX.out,zTs (by rw [jW.out];exact cE),GD.out]);clear zX cE;go_upto_region 46 with fail
        obtain ⟨aj,aK,aw,aE,aD,aC,aJ,ap⟩:=cQ8 ab;obtain ⟨bg,bf,be,bc,aZ,aY,aX,aW⟩:=cQ8 aa;have aV:=aa.frozen 0;have aU:=aa.frozen 1;have aT:=aa.frozen 2;have aS:=aa.frozen 3;have aR:=aa.frozen 4;have aQ:=aa.frozen 5;have aP:=aa.frozen 6;have aO:=aa.frozen 7;have SV:=qH (aa.store8 (D J 3) (D J (F1:Int)) (D J sf) (D J sl) (G sfar) (D J spc) (H U 0 0) (G E));have BV:=zAc HB.out aB (D J 3) (D J (F1:Int)) (D J sf) (D J sl) (G sfar) (D J spc) (H U 0 0) (G E);have bU:=qH (show OpG w g (.returned (.agg #[D J 3,D J (F1:Int),D J sf,D J sl,G sfar,D J spc,H U 0 0,G E])) ((((((((Z4.setCell ⟨ae,0,U⟩ (D J 3)).setCell ⟨ae,1,U⟩ (D J (F1:Int))).setCell ⟨ae,2,U⟩ (D J sf)).setCell ⟨ae,3,U⟩ (D J sl)).setCell ⟨ae,4,U⟩ (G sfar)).setCell ⟨ae,5,U⟩ (D J spc)).setCell ⟨ae,6,U⟩ (H U 0 0)).setCell ⟨ae,7,U⟩ (G E)) from by rw [bO.out];exact OpG.of (o:=⟨3,(F1:Int),⟨sf,sl,sfar,spc⟩,[],E⟩) (Row.none_ _ _ _) rfl BV);clear aa ab cZ BV;go_wp2_with fail
        exact zAi rfl rfl SV.out Tryz.underlying32 rfl (by kernel_rfl) rfl bU.out
      have t60:((B:Int)==60)=E:=zRk (c:=60) fo.out (by omega) h60;have bO:=qH (show g=⟨0,(F1:Int),⟨0,0,E,0⟩,[],E⟩ by rw [fZ.out];unfold zHG;rw [qN h45,qN h94,qN h33,qN h126,qN h61,qN h42,qN h37,qN h60];rfl);clear fZ h45 h94 h33 h126 h61 h42 h37 h60;go_upto_region 46 with fail
      obtain ⟨aj,aK,aw,aE,aD,aC,aJ,ap⟩:=cQ8 ab;obtain ⟨bg,bf,be,bc,aZ,aY,aX,aW⟩:=cQ8 aa;have aV:=aa.frozen 0;have aU:=aa.frozen 1;have aT:=aa.frozen 2;have aS:=aa.frozen 3;have aR:=aa.frozen 4;have aQ:=aa.frozen 5;have aP:=aa.frozen 6;have aO:=aa.frozen 7;have SV:=qH (aa.store8 (D J 0) (D J (F1:Int)) (D J 0) (D J 0) (G E) (D J 0) (H U 0 0) (G E));have BV:=zAc HB.out aB (D J 0) (D J (F1:Int)) (D J 0) (D J 0) (G E) (D J 0) (H U 0 0) (G E);have bU:=qH (show OpG w g (.returned (.agg #[D J 0,D J (F1:Int),D J 0,D J 0,G E,D J 0,H U 0 0,G E])) ((((((((V.setCell ⟨ae,0,U⟩ (D J 0)).setCell ⟨ae,1,U⟩ (D J (F1:Int))).setCell ⟨ae,2,U⟩ (D J 0)).setCell ⟨ae,3,U⟩ (D J 0)).setCell ⟨ae,4,U⟩ (G E)).setCell ⟨ae,5,U⟩ (D J 0)).setCell ⟨ae,6,U⟩ (H U 0 0)).setCell ⟨ae,7,U⟩ (G E)) from by rw [bO.out];exact OpG.of (o:=⟨0,(F1:Int),⟨0,0,E,0⟩,[],E⟩) (Row.none_ _ _ _) rfl BV);clear aa ab  BV;go_wp2_with fail
      exact zAi rfl rfl SV.out Tryz.underlying32 rfl (by kernel_rfl) rfl bU.out
  ·have j0:¬(p:Int) < (nS:Int):=by omega
   have hpe:p=nS:=by omega
   have q5:((p:Int)==(nS:Int))=Q:=by rw [hpe];simp
   have HZ:=qH (show g=o0 from by rw [<-HG.out];exact zVY (by rw [HP.out,HN.out,hpe,<-HN.out,List.drop_length];rfl));clear hpe HP;go_upto_region 5 with fail
   have bO:=qH (show g=o0 from HZ.out);obtain ⟨bg,bf,be,bc,aZ,aY,aX,aW⟩:=cQ8 aa;have aV:=aa.frozen 0;have aU:=aa.frozen 1;have aT:=aa.frozen 2;have aS:=aa.frozen 3;have aR:=aa.frozen 4;have aQ:=aa.frozen 5;have aP:=aa.frozen 6;have aO:=aa.frozen 7;have SV:=qH (aa.store8 (D J 0) (D J 0) (D J 0) (D J 0) (G E) (D J 0) (H U 0 0) (G E));have BV:=zAc HB.out aB (D J 0) (D J 0) (D J 0) (D J 0) (G E) (D J 0) (H U 0 0) (G E);have bU:=qH (show OpG w g (.returned (.agg #[D J 0,D J 0,D J 0,D J 0,G E,D J 0,H U 0 0,G E])) ((((((((X.setCell ⟨ae,0,U⟩ (D J 0)).setCell ⟨ae,1,U⟩ (D J 0)).setCell ⟨ae,2,U⟩ (D J 0)).setCell ⟨ae,3,U⟩ (D J 0)).setCell ⟨ae,4,U⟩ (G E)).setCell ⟨ae,5,U⟩ (D J 0)).setCell ⟨ae,6,U⟩ (H U 0 0)).setCell ⟨ae,7,U⟩ (G E)) from by rw [bO.out];exact OpG.of (o:=o0) (Row.none_ _ _ _) rfl BV);clear BV aa;go_wp2_with fail
   exact zAi rfl rfl SV.out Tryz.underlying32 rfl (by kernel_rfl) rfl bU.out
