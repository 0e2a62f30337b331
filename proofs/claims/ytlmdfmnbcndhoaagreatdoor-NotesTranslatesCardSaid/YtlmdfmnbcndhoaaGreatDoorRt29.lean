/-
  Lemmas. Conditions: each one's own.
-/
import Derived.Test.YtlmdfmnbcndhoaaGreatDoorRt28
open Go.RowKit
set_option maxHeartbeats 12800000
set_option maxRecDepth 100000
open Option renaming none->U,some->Z
open Go renaming World->ZY
open Bool renaming false->E,true->Q
open Go.Value renaming bool->G,int->D,slice->H,string->W
open Go.Proofs.Tryz renaming prog->ZX
open Go.RowKit.Below renaming refl->M
open Go.IntKind renaming i64->J
open Nat renaming le_refl->O
open Go.RowKit renaming Below->ZZ
namespace Go.Proofs.YtlmdfmnbcndhoaaGreatDoor
theorem tkH {P:Program} {md:Region.Mode} {ops:Array Oper} {ZP:Exit->Act->ZY->Prop} {S:ZY->Prop} {i:Nat} {oi:Oper} {v:Value} {fuel:Nat} {listed:Array Bool} {a:Act} {w:ZY} (hi:ops[i]? = Z oi)
  (h3:(Region.noSelect ops&&(Region.free md ops listed i&&(Region.ready md ops listed).contains i))=Q) (hQ:∀c a w,ZP (.panic c) (a.put oi.dst v) w->ZP (.panic c) a w)
  (h0:Region.wanted oi (yielded ops a.tmps)=Q) (hS:S w) (hy:∀w,S w->(execOp a.eval oi).run P w=.ok (.value v) w)
  (h:wpAnyH P md ops ZP S fuel (listed.setIfInBounds i Q) (a.put oi.dst v) w):wpAnyH P md ops ZP S (fuel+1) listed a w:=by
 rw [Bool.and_eq_true,Bool.and_eq_true] at h3;exact wpAnyH_take hi h3.1 h3.2.1 h3.2.2 hQ (Or.inl ⟨h0,hy⟩) hS h
theorem skH {P:Program} {md:Region.Mode} {ops:Array Oper} {ZP:Exit->Act->ZY->Prop} {S:ZY->Prop} {i:Nat} {oi:Oper} {fuel:Nat} {listed:Array Bool} {a:Act} {w:ZY} (hi:ops[i]? = Z oi)
  (h3:(Region.noSelect ops&&(Region.free md ops listed i&&(Region.ready md ops listed).contains i))=Q) (hQ:∀c a w,ZP (.panic c) (a.put oi.dst undef) w->ZP (.panic c) a w)
  (h0:Region.wanted oi (yielded ops a.tmps)=E) (hS:S w)
  (h:wpAnyH P md ops ZP S fuel (listed.setIfInBounds i Q) (a.put oi.dst undef) w):wpAnyH P md ops ZP S (fuel+1) listed a w:=by
 rw [Bool.and_eq_true,Bool.and_eq_true] at h3;exact wpAnyH_take hi h3.1 h3.2.1 h3.2.2 hQ (Or.inr ⟨h0,rfl⟩) hS h
theorem zTv {S:List UInt8} {o:Og} (h:zJE S=o) (hS:S.length<=8000) (w:ZY):Calls ZX 73 #[W (bA S)] w (OpG w o):=by
 subst h;exact zRn S w hS
theorem zRo (L:List Fg) (T:List (List UInt8)):zRw L T 0 E E []:=⟨rfl,.inl ⟨rfl,[],by simp [zBA],rfl,rfl⟩⟩
theorem zIp (A:Option Addr) (n c:Nat) (L:List Fg) (re lo:Int) (S:List UInt8) (w:ZY) (hA:Fgs w A n L) (hv:frB L re lo=Q) :
  Calls ZX 32 #[frV A n c re lo,W (bA S)] w (zDX w (rsO L re lo S) (rsE L re lo S)):=by
 have kY:L.length<=17592186043904:=by rw [hA.len];exact hA.le
 have hs:=zBz S;obtain ⟨nS,dm⟩:∃k,S.length=k:=⟨_,rfl⟩
 rw [dm] at hs;have HN:=qH dm;have HA:=qH hA;have FL:=qH kY;have HB:=qH (M w.heap.size w);obtain ⟨TO,CA⟩:∃x,rsO L re lo S=x:=⟨_,rfl⟩
 obtain ⟨TE,vg⟩:∃x,rsE L re lo S=x:=⟨_,rfl⟩
 have qX:=qH (And.intro vg CA);rw [CA,vg];have d9:=qH (fun (ZM:List Og) (er:Int) (h1:er=TE) (h2:ZM=TO) (e:Ending) (wx:ZY) (h:zDX w ZM er e wx)=>(show zDX w TO TE e wx by subst h1;subst h2;exact h));have HV:=qH hv;have bff:=zNx;clear dm hA CA vg hv kY;go_enter Tryz.func32,Tryz.ntmps32;have q1:=(M w.heap.size w).alloc (O _) (.cells #[H A n c,D J re,D J lo] 24);have nc:=HB.out.size;replace HB:=qH (zAa HB.out q1 HB.out.size);have ak:=Blk.new w 24 #[H A n c,D J re,D J lo];clear q1;go_upto_region 1 with fail
 generalize w.alloc (.cells #[H A n c,D J re,D J lo] 24)=X at ak HB ⊢;obtain ⟨dv,gA⟩:∃a,w.heap.size=a:=⟨_,rfl⟩
 replace nc:w.heap.size<=dv:=Nat.le_of_eq gA;rw [gA] at ak ⊢;clear gA;by_cases h8:8000 < nS
 ·have i0:(8000:Int) < (nS:Int):=by omega
  have HF:=qH (by have h9:=zVV (L:=L) HV.out (show 8000 < S.length by rw [HN.out];exact h8);exact d9.out [] 7 (by rw [<-qX.out.1,h9.1]) (by rw [<-qX.out.2,h9.2]) (.returned (.tuple #[H U 0 0,D J 7])) X ⟨U,0,0,[],rfl,rfl,by omega,OpsOwn.none_ _ _,HB.out⟩);clear ak h8;go_wp2_with fail
  go_ret2;exact HF.out
 have i0:¬(8000:Int) < (nS:Int):=by omega
 have fw:=qH (show TE=itE L S/\TO=itO L S by
  have h9:=zYI (L:=L) HV.out (show ¬8000 < S.length by rw [HN.out];exact h8)
  rw [<-qX.out.1,<-qX.out.2];exact h9)
 by_cases hS0:S=[]
 ·have n0:((bA S).toList==[])=Q:=by rw [zAr,hS0];rfl
  have n1:(bA S).toList.isEmpty=Q:=by rw [zAr,hS0];rfl
  have HF:=qH (d9.out [] 0 (by rw [fw.out.1,hS0,(zUm L).1]) (by rw [fw.out.2,hS0,(zUm L).2]) (.returned (.tuple #[H U 0 0,D J 0])) X ⟨U,0,0,[],rfl,rfl,by omega,OpsOwn.none_ _ _,HB.out⟩);clear ak h8 hS0;go_wp2_with fail
  go_ret2;exact HF.out
 have n0:((bA S).toList==[])=E:=by rw [zAr];simpa using hS0
 have n1:(bA S).toList.isEmpty=E:=by rw [zAr];simpa using hS0
 obtain ⟨T,hT⟩:∃T,zAI 32 S=T:=⟨_,rfl⟩
 have lw:=qH hT;have tV:=qH hS0;have qb:=qH (show T.length<=8001 by rw [<-hT];have:=zFI 32 S;rw [HN.out] at this;omega);have qW:=qH (show ∀p∈T,p.length<=8000 from fun p hp=>by rw [<-hT] at hp;have:=zAJ 32 S p hp;rw [HN.out] at this;omega);have eO:=qH (fun w=>zFu hT (by rw [HN.out];omega) w);clear h8 hT hS0 qX;go_wp2_with fail
 refine (eO.out _).mono ?_;rintro e Y ⟨B1,m,d1,rfl,an,o6,hb⟩;have fN:=HB.out.size;replace ak:=ak.below hb ak.lt;replace HB:=qH (zAa HB.out hb HB.out.size);replace an:=an.mono fN;clear hb fN;have el:=qH (show T.length=m by have:=an.len;simpa using this);have jF:m<=8001:=by rw [<-el.out];exact qb.out
 have eN:=qH (an.txts (by omega));clear o6 eO qb an;go_wp2_with fail
 have D2:=HB;have Dn:=qH ak;have Gx:=eN;clear HB ak eN;go_loopw [7,8,9] (fun v7 v8 v9 wv=>∃(V:ZY) (A':Option Addr) (i c':Nat) (Es:List Oe) (ms:Bool),V=wv/\v7=H A' i c'/\v8=G ms/\v9=D J i/\i<=m/\OpsOwn V Y.heap.size A' i c' Es/\ZZ Y.heap.size Y V/\Hid (zRw L T i E ms Es)) (fun _ _ v9 _=>m-(intOf v9).toNat)
 case atStart=>exact ⟨_,U,0,0,[],E,rfl,rfl,rfl,rfl,Nat.zero_le _,OpsOwn.none_ _ _,M _ _,qH (zRo L T)⟩
 case round =>
  obtain ⟨X1,A',i,c',Es,ms,hX,rfl,rfl,rfl,hi,hO,hb,HI⟩:=hrel;subst hX;have hz:w.heap.size<=Y.heap.size:=D2.out.size;have HB:=qH (zAa D2.out hb hz);have ak:=Dn.out.below hb Dn.out.lt;have eN:=qH (Gx.out.below hb);have wO:=qH hb;have ot:=qH hO;clear hb hO Gx Dn D2;by_cases hlt:i < m
  ·have j1:(i:Int) < (m:Int):=by omega
   have j2:(0:Int)<=(i:Int):=by omega
   have hxg:=zOK (T:=T) (i:=i) (by rw [el.out];exact hlt);have hwd:=qW.out (xa T i) (List.mem_of_getElem? hxg);have hBo:∃gw ow,B1=Z ⟨gw,ow,U⟩:=eN.out.is (by omega)
   obtain ⟨ga,oa,rfl⟩:=hBo;obtain ⟨hgx,x0⟩:=eN.out.cell (j:=i) hlt;obtain ⟨P,hP⟩:∃P,xa T i=P:=⟨_,rfl⟩
   rw [hP] at hwd x0 hxg;have nU:=qH (show ga < X1.heap.size/\X1.cell? ⟨ga,oa+i,U⟩=Z (W (bA P)) from ⟨hgx,x0⟩);have Dp:=qH hxg;obtain ⟨o,ho⟩:∃o,zJE P=o:=⟨_,rfl⟩
   have hok:=zXH P;rw [ho] at hok;have ep:=qH (fun w=>zTv ho hwd w);obtain ⟨r,hr⟩:∃b,zAf 126 o=b:=⟨_,rfl⟩
   obtain ⟨cn,hcn⟩:∃b,zBN AL o=b:=⟨_,rfl⟩
   obtain ⟨ZO,hW⟩:∃ZO,zAZ AL o=ZO:=⟨_,rfl⟩
   obtain ⟨o',qn⟩:∃x,zRv L o=x:=⟨_,rfl⟩
   obtain ⟨b',pe⟩:∃x,zQb L o=x:=⟨_,rfl⟩
   have wS:=qH (show (r&&cn&&decide (ZO=P))=E->TE=6/\TO=[] from fun h=>by
    have h1:zAD P=U:=by
     cases hs:zAD P with
     | none=>rfl
     | some n =>
      have:=(zMY L hs).1
      unfold okJ at this
      rw [ho,hr,hcn,hW,h] at this;cases this
    rw [fw.out.1,fw.out.2]
    exact zVU (i:=i) (P:=P) (by rw [lw.out];exact Dp.out) h1 tV.out)
   have nT:=qH (show (r&&cn&&decide (ZO=P))=Q->∃n0,zAD P=Z n0/\o'=oOf L n0/\b' = !zAy L n0 from fun h=>by
    cases hs:zAD P with
    | none =>
     have:=zSm hs
     unfold okJ at this
     rw [ho,hr,hcn,hW,h] at this;cases this
    | some n =>
     obtain ⟨_,h2,h3⟩:=zMY L hs
     rw [ho,qn] at h2
     rw [ho,pe] at h3
     exact ⟨n,rfl,h2,h3⟩)
   have fk:=qH hok;have HR:=qH hr;have ox:=qH hcn;have HW:=qH hW;have Bb:=qH qn;have Bk:=qH pe;have Dq:=qH hwd;clear hok hr hcn hW ho qn pe hwd hP hxg hgx eN qW;obtain ⟨okind,of,⟨off,ofl,offar,ofpc⟩,opath,oover⟩:=o;obtain ⟨pkind,pf,⟨pff,pfl,pffar,pfpc⟩,ppath,pover⟩:=o';go_wp2_with fail
   refine (ep.out _).mono ?_;rintro e Y0 ⟨B,m1,e1,rfl,dq,hm,hb⟩;have yf:m1<=10000:=by have h1:=fk.out.2;have h2:=Dq.out;rw [hm];simp only at h1 ⊢;omega
   clear hm ep x0;have qV:=qH (zAa (M X1.heap.size X1) hb (O _));replace ak:=ak.below hb ak.lt;replace HB:=qH (zAa HB.out hb HB.out.size);clear hb;have oe:=qV.out.size;have q2:=(M Y0.heap.size Y0).alloc (O _) (.cells #[D J okind,D J of,D J off,D J ofl,G offar,D J ofpc,H B m1 e1,G oover] 32);replace ak:=ak.below q2 ak.lt;replace dq:=dq.below q2;replace HB:=qH (zAa HB.out q2 HB.out.size);have ab:=Blk.new Y0 32 #[D J okind,D J of,D J off,D J ofl,G offar,D J ofpc,H B m1 e1,G oover];clear q2;go_upto_region 12 with fail
   have jg:=qH (zAa qV.out ((M Y0.heap.size Y0).alloc (O _) (.cells #[D J okind,D J of,D J off,D J ofl,G offar,D J ofpc,H B m1 e1,G oover] 32)) oe);clear qV;generalize (Y0.alloc (.cells #[D J okind,D J of,D J off,D J ofl,G offar,D J ofpc,H B m1 e1,G oover] 32))=ZR at jg ak ab dq HB ⊢;generalize hz_op:Y0.heap.size=ac at ab oe ⊢;clear hz_op;have jh:=qH (show OpIn ZR ⟨okind,of,⟨off,ofl,offar,ofpc⟩,opath,oover⟩ B m1 e1 from ⟨fk.out.1.1,zDW dq (by omega) fk.out.1.2,dq.cap⟩);obtain ⟨q,hq⟩:∃q,(r&&cn&&decide (ZO=P))=q:=⟨_,rfl⟩
   have HQ:=qH hq;clear hq;have eM:=qH ab;go_cut [52] (fun v52 wv=>v52=G (!q)/\∃V:ZY,V=wv/\ZZ ZR.heap.size ZR V)
   case first =>
    have zu:=qH (show ga < ZR.heap.size/\ZR.cell? ⟨ga,oa+i,U⟩=Z (W (bA P)) from ⟨Nat.lt_of_lt_of_le nU.out.1 jg.out.size,(jg.out.cell (p:=⟨ga,oa+i,U⟩) nU.out.1).trans nU.out.2⟩);clear ak ab dq;clear hs HN FL d9 fw n0 n1 i0 lw tV el HI wO ot nU Dp Dq Bk Bb wS nT oe jg HB HV HA jF hz hi fk nc;have KP:=qH (show ∀wx,ZZ ZR.heap.size ZR wx->(ZZ ZR.heap.size ZR wx/\wx.cell? ⟨ac,0,U⟩=Z (D J okind)/\wx.cell? ⟨ac,1,U⟩=Z (D J of)/\wx.cell? ⟨ac,2,U⟩=Z (D J off)/\wx.cell? ⟨ac,3,U⟩=Z (D J ofl)/\wx.cell? ⟨ac,4,U⟩=Z (G offar)/\wx.cell? ⟨ac,5,U⟩=Z (D J ofpc)/\wx.cell? ⟨ac,6,U⟩=Z (H B m1 e1)/\wx.cell? ⟨ac,7,U⟩=Z (G oover)/\wx.cell? ⟨ga,oa+i,U⟩=Z (W (bA P))) from fun wx h=>⟨h,((eM.out.below h eM.out.lt).cell 0).trans rfl,((eM.out.below h eM.out.lt).cell 1).trans rfl,((eM.out.below h eM.out.lt).cell 2).trans rfl,((eM.out.below h eM.out.lt).cell 3).trans rfl,((eM.out.below h eM.out.lt).cell 4).trans rfl,((eM.out.below h eM.out.lt).cell 5).trans rfl,((eM.out.below h eM.out.lt).cell 6).trans rfl,((eM.out.below h eM.out.lt).cell 7).trans rfl,(h.cell (p:=⟨ga,oa+i,U⟩) zu.out.1).trans zu.out.2⟩);have hbq:ZZ ZR.heap.size ZR ZR.drew:=(M _ _).drew
    cases r with
    | false =>
     have hqf:q=E:=by rw [<-HQ.out];rfl
     subst hqf;refine wp_region_held_drew (S:=(fun wx=>ZZ ZR.heap.size ZR wx/\wx.cell? ⟨ac,0,U⟩=Z (D J okind)/\wx.cell? ⟨ac,1,U⟩=Z (D J of)/\wx.cell? ⟨ac,2,U⟩=Z (D J off)/\wx.cell? ⟨ac,3,U⟩=Z (D J ofl)/\wx.cell? ⟨ac,4,U⟩=Z (G offar)/\wx.cell? ⟨ac,5,U⟩=Z (D J ofpc)/\wx.cell? ⟨ac,6,U⟩=Z (H B m1 e1)/\wx.cell? ⟨ac,7,U⟩=Z (G oover)/\wx.cell? ⟨ga,oa+i,U⟩=Z (W (bA P)))) (by kernel_rfl) ?_ (fun hS=>?_)
     ·exact KP.out _ hbq
     refine tkH (i:=0) (v:=?_) rfl (by kernel_rfl) (fun _ _ _ h=>h) (by rfl) hS ?_ ?_
     rotate_left
     ·(intro wq hSw;(try dsimp only at hSw);go_simp;try (with_reducible rfl))
     (try simp only [Act.put,List.setIfInBounds_toArray,List.set_cons_zero,List.set_cons_succ,List.getElem_toArray,List.getElem_cons_zero])
     refine wpAnyH_ready (rs:=[1]) (by kernel_rfl) (by simp) ?_;refine AllReadyH.cons rfl (fun K hK=>?_) AllReadyH.nil;go_simp
     go_at_call 56
     refine (zCd _).mono ?_;rintro e wa ⟨A2,c2,rfl,eH,hba⟩;replace hbq:ZZ ZR.heap.size ZR wa:=zAa hbq hba hbq.size;have HF:=qH (zDC eH);clear eH hba;go_wp2_with fail
     refine hK.out _ _ ?_ (fun hS=>?_)
     ·exact KP.out _ hbq
     clear hK K
     (try simp only [Act.put,List.setIfInBounds_toArray,List.set_cons_zero,List.set_cons_succ,List.getElem_toArray,List.getElem_cons_zero,List.getElem_cons_succ])
     refine tkH (i:=2) (v:=?_) rfl (by kernel_rfl) (fun _ _ _ h=>h) (by rfl) hS ?_ ?_
     rotate_left
     ·(intro wq hSw;(try dsimp only at hSw);go_simp;try (with_reducible rfl))
     refine tkH (i:=3) (v:=?_) rfl (by kernel_rfl) (fun _ _ _ h=>h) (by rfl) hS ?_ ?_
     rotate_left
     ·(intro wq hSw;(try dsimp only at hSw);go_simp;try (with_reducible rfl))
     (try simp only [Act.put,List.setIfInBounds_toArray,List.set_cons_zero,List.set_cons_succ,List.getElem_toArray,List.getElem_cons_zero,List.getElem_cons_succ])
     refine wpAnyH_ready (rs:=[4]) (by kernel_rfl) (by simp) ?_;refine AllReadyH.cons rfl (fun K hK=>?_) AllReadyH.nil;go_simp
     go_at_call 55
     refine (zCK HR.out B m1 e1 _ (jh.out.below hbq)).mono ?_;rintro e wr ⟨rfl,fS⟩;replace hbq:ZZ ZR.heap.size ZR wr:=zAa hbq fS hbq.size;clear fS;go_wp2_with fail
     refine hK.out _ _ ?_ (fun hS=>?_)
     ·exact KP.out _ hbq
     clear hK K
     (try simp only [Act.put,List.setIfInBounds_toArray,List.set_cons_zero,List.set_cons_succ,List.getElem_toArray,List.getElem_cons_zero,List.getElem_cons_succ])
     refine tkH (i:=5) (v:=?_) rfl (by kernel_rfl) (fun _ _ _ h=>h) (by rfl) hS ?_ ?_
     rotate_left
     ·(intro wq hSw;(try dsimp only at hSw);go_simp;try (with_reducible rfl))
     refine tkH (i:=6) (v:=?_) rfl (by kernel_rfl) (fun _ _ _ h=>h) (by rfl) hS ?_ ?_
     rotate_left
     ·(intro wq hSw;(try dsimp only at hSw);go_simp;try (with_reducible rfl))
     (try simp only [Act.put,List.setIfInBounds_toArray,List.set_cons_zero,List.set_cons_succ,List.getElem_toArray,List.getElem_cons_zero,List.getElem_cons_succ])
     refine skH (i:=7) rfl (by kernel_rfl) (fun _ _ _ h=>h) (by rfl) hS ?_;refine skH (i:=8) rfl (by kernel_rfl) (fun _ _ _ h=>h) (by rfl) hS ?_;refine skH (i:=9) rfl (by kernel_rfl) (fun _ _ _ h=>h) (by rfl) hS ?_;refine skH (i:=10) rfl (by kernel_rfl) (fun _ _ _ h=>h) (by rfl) hS ?_
     (try simp only [Act.put,List.setIfInBounds_toArray,List.set_cons_zero,List.set_cons_succ,List.getElem_toArray,List.getElem_cons_zero,List.getElem_cons_succ])
     refine tkH (i:=11) (v:=?_) rfl (by kernel_rfl) (fun _ _ _ h=>h) (by rfl) hS ?_ ?_
     rotate_left
     ·(intro wq hSw;(try dsimp only at hSw);go_simp;try (with_reducible rfl))
     refine tkH (i:=12) (v:=?_) rfl (by kernel_rfl) (fun _ _ _ h=>h) (by rfl) hS ?_ ?_
     rotate_left
     ·(intro wq hSw;(try dsimp only at hSw);go_simp;try (with_reducible rfl))
     (try simp only [Act.put,List.setIfInBounds_toArray,List.set_cons_zero,List.set_cons_succ,List.getElem_toArray,List.getElem_cons_zero,List.getElem_cons_succ])
     refine skH (i:=13) rfl (by kernel_rfl) (fun _ _ _ h=>h) (by rfl) hS ?_;refine skH (i:=14) rfl (by kernel_rfl) (fun _ _ _ h=>h) (by rfl) hS ?_;refine skH (i:=15) rfl (by kernel_rfl) (fun _ _ _ h=>h) (by rfl) hS ?_;refine skH (i:=16) rfl (by kernel_rfl) (fun _ _ _ h=>h) (by rfl) hS ?_
     (try simp only [Act.put,List.setIfInBounds_toArray,List.set_cons_zero,List.set_cons_succ,List.getElem_toArray,List.getElem_cons_zero,List.getElem_cons_succ])
     refine skH (i:=17) rfl (by kernel_rfl) (fun _ _ _ h=>h) (by rfl) hS ?_;refine skH (i:=18) rfl (by kernel_rfl) (fun _ _ _ h=>h) (by rfl) hS ?_;refine skH (i:=19) rfl (by kernel_rfl) (fun _ _ _ h=>h) (by rfl) hS ?_;refine skH (i:=20) rfl (by kernel_rfl) (fun _ _ _ h=>h) (by rfl) hS ?_
     (try simp only [Act.put,List.setIfInBounds_toArray,List.set_cons_zero,List.set_cons_succ,List.getElem_toArray,List.getElem_cons_zero,List.getElem_cons_succ])
     refine tkH (i:=21) (v:=?_) rfl (by kernel_rfl) (fun _ _ _ h=>h) (by rfl) hS ?_ ?_
     rotate_left
     ·(intro wq hSw;(try dsimp only at hSw);go_simp;try (with_reducible rfl))
     (try simp only [Act.put,List.setIfInBounds_toArray,List.set_cons_zero,List.set_cons_succ,List.getElem_toArray,List.getElem_cons_zero,List.getElem_cons_succ])
     refine wpAnyH_done (by kernel_rfl) ?_ _;go_wp2_with fail
     go_meet
     case rel=>exact ⟨rfl,_,rfl,hbq⟩
    | true =>
     cases cn with
     | false =>
      have hqf:q=E:=by rw [<-HQ.out];rfl
      subst hqf;refine wp_region_held_drew (S:=(fun wx=>ZZ ZR.heap.size ZR wx/\wx.cell? ⟨ac,0,U⟩=Z (D J okind)/\wx.cell? ⟨ac,1,U⟩=Z (D J of)/\wx.cell? ⟨ac,2,U⟩=Z (D J off)/\wx.cell? ⟨ac,3,U⟩=Z (D J ofl)/\wx.cell? ⟨ac,4,U⟩=Z (G offar)/\wx.cell? ⟨ac,5,U⟩=Z (D J ofpc)/\wx.cell? ⟨ac,6,U⟩=Z (H B m1 e1)/\wx.cell? ⟨ac,7,U⟩=Z (G oover)/\wx.cell? ⟨ga,oa+i,U⟩=Z (W (bA P)))) (by kernel_rfl) ?_ (fun hS=>?_)
      ·exact KP.out _ hbq
      refine tkH (i:=0) (v:=?_) rfl (by kernel_rfl) (fun _ _ _ h=>h) (by rfl) hS ?_ ?_
      rotate_left
      ·(intro wq hSw;(try dsimp only at hSw);go_simp;try (with_reducible rfl))
      (try simp only [Act.put,List.setIfInBounds_toArray,List.set_cons_zero,List.set_cons_succ,List.getElem_toArray,List.getElem_cons_zero])
      refine wpAnyH_ready (rs:=[1]) (by kernel_rfl) (by simp) ?_;refine AllReadyH.cons rfl (fun K hK=>?_) AllReadyH.nil;go_simp
      go_at_call 56
      refine (zCd _).mono ?_;rintro e wa ⟨A2,c2,rfl,eH,hba⟩;replace hbq:ZZ ZR.heap.size ZR wa:=zAa hbq hba hbq.size;have HF:=qH (zDC eH);clear eH hba;go_wp2_with fail
      refine hK.out _ _ ?_ (fun hS=>?_)
      ·exact KP.out _ hbq
      clear hK K
      (try simp only [Act.put,List.setIfInBounds_toArray,List.set_cons_zero,List.set_cons_succ,List.getElem_toArray,List.getElem_cons_zero,List.getElem_cons_succ])
      refine tkH (i:=2) (v:=?_) rfl (by kernel_rfl) (fun _ _ _ h=>h) (by rfl) hS ?_ ?_
      rotate_left
      ·(intro wq hSw;(try dsimp only at hSw);go_simp;try (with_reducible rfl))
      refine tkH (i:=3) (v:=?_) rfl (by kernel_rfl) (fun _ _ _ h=>h) (by rfl) hS ?_ ?_
      rotate_left
      ·(intro wq hSw;(try dsimp only at hSw);go_simp;try (with_reducible rfl))
      (try simp only [Act.put,List.setIfInBounds_toArray,List.set_cons_zero,List.set_cons_succ,List.getElem_toArray,List.getElem_cons_zero,List.getElem_cons_succ])
      refine wpAnyH_ready (rs:=[4]) (by kernel_rfl) (by simp) ?_;refine AllReadyH.cons rfl (fun K hK=>?_) AllReadyH.nil;go_simp
      go_at_call 55
      refine (zCK HR.out B m1 e1 _ (jh.out.below hbq)).mono ?_;rintro e wr ⟨rfl,fS⟩;replace hbq:ZZ ZR.heap.size ZR wr:=zAa hbq fS hbq.size;clear fS;go_wp2_with fail
      refine hK.out _ _ ?_ (fun hS=>?_)
      ·exact KP.out _ hbq
      clear hK K
      (try simp only [Act.put,List.setIfInBounds_toArray,List.set_cons_zero,List.set_cons_succ,List.getElem_toArray,List.getElem_cons_zero,List.getElem_cons_succ])
      refine tkH (i:=5) (v:=?_) rfl (by kernel_rfl) (fun _ _ _ h=>h) (by rfl) hS ?_ ?_
      rotate_left
      ·(intro wq hSw;(try dsimp only at hSw);go_simp;try (with_reducible rfl))
      refine tkH (i:=6) (v:=?_) rfl (by kernel_rfl) (fun _ _ _ h=>h) (by rfl) hS ?_ ?_
      rotate_left
      ·(intro wq hSw;(try dsimp only at hSw);go_simp;try (with_reducible rfl))
      (try simp only [Act.put,List.setIfInBounds_toArray,List.set_cons_zero,List.set_cons_succ,List.getElem_toArray,List.getElem_cons_zero,List.getElem_cons_succ])
      refine tkH (i:=8) (v:=?_) rfl (by kernel_rfl) (fun _ _ _ h=>h) (by rfl) hS ?_ ?_
      rotate_left
      ·(intro wq hSw;(try dsimp only at hSw);go_simp;try (with_reducible rfl))
      (try simp only [Act.put,List.setIfInBounds_toArray,List.set_cons_zero,List.set_cons_succ,List.getElem_toArray,List.getElem_cons_zero,List.getElem_cons_succ])
      refine wpAnyH_ready (rs:=[7]) (by kernel_rfl) (by simp) ?_;refine AllReadyH.cons rfl (fun K hK=>?_) AllReadyH.nil;go_simp
      go_at_call 56
      refine (zCd _).mono ?_;rintro e wa ⟨A2,c2,rfl,eH,hba⟩;replace hbq:ZZ ZR.heap.size ZR wa:=zAa hbq hba hbq.size;have HF:=qH (zDC eH);clear eH hba;go_wp2_with fail
      refine hK.out _ _ ?_ (fun hS=>?_)
      ·exact KP.out _ hbq
      clear hK K
      (try simp only [Act.put,List.setIfInBounds_toArray,List.set_cons_zero,List.set_cons_succ,List.getElem_toArray,List.getElem_cons_zero,List.getElem_cons_succ])
      refine wpAnyH_ready (rs:=[9]) (by kernel_rfl) (by simp) ?_;refine AllReadyH.cons rfl (fun K hK=>?_) AllReadyH.nil;go_simp
      go_at_call 29
      refine (zMu ox.out B m1 e1 _ HF.out (jh.out.below hbq) HR.out).mono ?_;rintro e wc ⟨rfl,pb⟩;replace hbq:ZZ ZR.heap.size ZR wc:=zAa hbq pb hbq.size;clear pb;go_wp2_with fail
      refine hK.out _ _ ?_ (fun hS=>?_)
      ·exact KP.out _ hbq
      clear hK K
      (try simp only [Act.put,List.setIfInBounds_toArray,List.set_cons_zero,List.set_cons_succ,List.getElem_toArray,List.getElem_cons_zero,List.getElem_cons_succ])
      refine tkH (i:=10) (v:=?_) rfl (by kernel_rfl) (fun _ _ _ h=>h) (by rfl) hS ?_ ?_
      rotate_left
      ·(intro wq hSw;(try dsimp only at hSw);go_simp;try (with_reducible rfl))
      refine tkH (i:=11) (v:=?_) rfl (by kernel_rfl) (fun _ _ _ h=>h) (by rfl) hS ?_ ?_
      rotate_left
      ·(intro wq hSw;(try dsimp only at hSw);go_simp;try (with_reducible rfl))
      refine tkH (i:=12) (v:=?_) rfl (by kernel_rfl) (fun _ _ _ h=>h) (by rfl) hS ?_ ?_
      rotate_left
      ·(intro wq hSw;(try dsimp only at hSw);go_simp;try (with_reducible rfl))
      (try simp only [Act.put,List.setIfInBounds_toArray,List.set_cons_zero,List.set_cons_succ,List.getElem_toArray,List.getElem_cons_zero,List.getElem_cons_succ])
      refine skH (i:=13) rfl (by kernel_rfl) (fun _ _ _ h=>h) (by rfl) hS ?_;refine skH (i:=14) rfl (by kernel_rfl) (fun _ _ _ h=>h) (by rfl) hS ?_;refine skH (i:=15) rfl (by kernel_rfl) (fun _ _ _ h=>h) (by rfl) hS ?_;refine skH (i:=16) rfl (by kernel_rfl) (fun _ _ _ h=>h) (by rfl) hS ?_
      (try simp only [Act.put,List.setIfInBounds_toArray,List.set_cons_zero,List.set_cons_succ,List.getElem_toArray,List.getElem_cons_zero,List.getElem_cons_succ])
      refine skH (i:=17) rfl (by kernel_rfl) (fun _ _ _ h=>h) (by rfl) hS ?_;refine skH (i:=18) rfl (by kernel_rfl) (fun _ _ _ h=>h) (by rfl) hS ?_;refine skH (i:=19) rfl (by kernel_rfl) (fun _ _ _ h=>h) (by rfl) hS ?_;refine skH (i:=20) rfl (by kernel_rfl) (fun _ _ _ h=>h) (by rfl) hS ?_
      (try simp only [Act.put,List.setIfInBounds_toArray,List.set_cons_zero,List.set_cons_succ,List.getElem_toArray,List.getElem_cons_zero,List.getElem_cons_succ])
      refine tkH (i:=21) (v:=?_) rfl (by kernel_rfl) (fun _ _ _ h=>h) (by rfl) hS ?_ ?_
      rotate_left
      ·(intro wq hSw;(try dsimp only at hSw);go_simp;try (with_reducible rfl))
      (try simp only [Act.put,List.setIfInBounds_toArray,List.set_cons_zero,List.set_cons_succ,List.getElem_toArray,List.getElem_cons_zero,List.getElem_cons_succ])
      refine wpAnyH_done (by kernel_rfl) ?_ _;go_wp2_with fail
      go_meet
      case rel=>exact ⟨rfl,_,rfl,hbq⟩
     | true =>
      have n1:((bA ZO).toList==(bA P).toList)=q:=by rw [<-HQ.out,zBt,Bool.true_and,Bool.true_and];by_cases e:ZO=P<;>simp [e]
      refine wp_region_held_drew (S:=(fun wx=>ZZ ZR.heap.size ZR wx/\wx.cell? ⟨ac,0,U⟩=Z (D J okind)/\wx.cell? ⟨ac,1,U⟩=Z (D J of)/\wx.cell? ⟨ac,2,U⟩=Z (D J off)/\wx.cell? ⟨ac,3,U⟩=Z (D J ofl)/\wx.cell? ⟨ac,4,U⟩=Z (G offar)/\wx.cell? ⟨ac,5,U⟩=Z (D J ofpc)/\wx.cell? ⟨ac,6,U⟩=Z (H B m1 e1)/\wx.cell? ⟨ac,7,U⟩=Z (G oover)/\wx.cell? ⟨ga,oa+i,U⟩=Z (W (bA P)))) (by kernel_rfl) ?_ (fun hS=>?_)
      ·exact KP.out _ hbq
      refine tkH (i:=0) (v:=?_) rfl (by kernel_rfl) (fun _ _ _ h=>h) (by rfl) hS ?_ ?_
      rotate_left
      ·(intro wq hSw;(try dsimp only at hSw);go_simp;try (with_reducible rfl))
      (try simp only [Act.put,List.setIfInBounds_toArray,List.set_cons_zero,List.set_cons_succ,List.getElem_toArray,List.getElem_cons_zero])
      refine wpAnyH_ready (rs:=[1]) (by kernel_rfl) (by simp) ?_;refine AllReadyH.cons rfl (fun K hK=>?_) AllReadyH.nil;go_simp
      go_at_call 56
      refine (zCd _).mono ?_;rintro e wa ⟨A2,c2,rfl,eH,hba⟩;replace hbq:ZZ ZR.heap.size ZR wa:=zAa hbq hba hbq.size;have HF:=qH (zDC eH);clear eH hba;go_wp2_with fail
      refine hK.out _ _ ?_ (fun hS=>?_)
      ·exact KP.out _ hbq
      clear hK K
      (try simp only [Act.put,List.setIfInBounds_toArray,List.set_cons_zero,List.set_cons_succ,List.getElem_toArray,List.getElem_cons_zero,List.getElem_cons_succ])
      refine tkH (i:=2) (v:=?_) rfl (by kernel_rfl) (fun _ _ _ h=>h) (by rfl) hS ?_ ?_
      rotate_left
      ·(intro wq hSw;(try dsimp only at hSw);go_simp;try (with_reducible rfl))
      refine tkH (i:=3) (v:=?_) rfl (by kernel_rfl) (fun _ _ _ h=>h) (by rfl) hS ?_ ?_
      rotate_left
      ·(intro wq hSw;(try dsimp only at hSw);go_simp;try (with_reducible rfl))
      (try simp only [Act.put,List.setIfInBounds_toArray,List.set_cons_zero,List.set_cons_succ,List.getElem_toArray,List.getElem_cons_zero,List.getElem_cons_succ])
      refine wpAnyH_ready (rs:=[4]) (by kernel_rfl) (by simp) ?_;refine AllReadyH.cons rfl (fun K hK=>?_) AllReadyH.nil;go_simp
      go_at_call 55
      refine (zCK HR.out B m1 e1 _ (jh.out.below hbq)).mono ?_;rintro e wr ⟨rfl,fS⟩;replace hbq:ZZ ZR.heap.size ZR wr:=zAa hbq fS hbq.size;clear fS;go_wp2_with fail
      refine hK.out _ _ ?_ (fun hS=>?_)
      ·exact KP.out _ hbq
      clear hK K
      (try simp only [Act.put,List.setIfInBounds_toArray,List.set_cons_zero,List.set_cons_succ,List.getElem_toArray,List.getElem_cons_zero,List.getElem_cons_succ])
      refine tkH (i:=5) (v:=?_) rfl (by kernel_rfl) (fun _ _ _ h=>h) (by rfl) hS ?_ ?_
      rotate_left
      ·(intro wq hSw;(try dsimp only at hSw);go_simp;try (with_reducible rfl))
      refine tkH (i:=6) (v:=?_) rfl (by kernel_rfl) (fun _ _ _ h=>h) (by rfl) hS ?_ ?_
      rotate_left
      ·(intro wq hSw;(try dsimp only at hSw);go_simp;try (with_reducible rfl))
      (try simp only [Act.put,List.setIfInBounds_toArray,List.set_cons_zero,List.set_cons_succ,List.getElem_toArray,List.getElem_cons_zero,List.getElem_cons_succ])
      refine tkH (i:=8) (v:=?_) rfl (by kernel_rfl) (fun _ _ _ h=>h) (by rfl) hS ?_ ?_
      rotate_left
      ·(intro wq hSw;(try dsimp only at hSw);go_simp;try (with_reducible rfl))
      (try simp only [Act.put,List.setIfInBounds_toArray,List.set_cons_zero,List.set_cons_succ,List.getElem_toArray,List.getElem_cons_zero,List.getElem_cons_succ])
      refine wpAnyH_ready (rs:=[7]) (by kernel_rfl) (by simp) ?_;refine AllReadyH.cons rfl (fun K hK=>?_) AllReadyH.nil;go_simp
      go_at_call 56
      refine (zCd _).mono ?_;rintro e wa ⟨A2,c2,rfl,eH,hba⟩;replace hbq:ZZ ZR.heap.size ZR wa:=zAa hbq hba hbq.size;have HF:=qH (zDC eH);clear eH hba;go_wp2_with fail
      refine hK.out _ _ ?_ (fun hS=>?_)
      ·exact KP.out _ hbq
      clear hK K
      (try simp only [Act.put,List.setIfInBounds_toArray,List.set_cons_zero,List.set_cons_succ,List.getElem_toArray,List.getElem_cons_zero,List.getElem_cons_succ])
      refine wpAnyH_ready (rs:=[9]) (by kernel_rfl) (by simp) ?_;refine AllReadyH.cons rfl (fun K hK=>?_) AllReadyH.nil;go_simp
      go_at_call 29
      refine (zMu ox.out B m1 e1 _ HF.out (jh.out.below hbq) HR.out).mono ?_;rintro e wc ⟨rfl,pb⟩;replace hbq:ZZ ZR.heap.size ZR wc:=zAa hbq pb hbq.size;clear pb;go_wp2_with fail
      refine hK.out _ _ ?_ (fun hS=>?_)
      ·exact KP.out _ hbq
      clear hK K
      (try simp only [Act.put,List.setIfInBounds_toArray,List.set_cons_zero,List.set_cons_succ,List.getElem_toArray,List.getElem_cons_zero,List.getElem_cons_succ])
      refine tkH (i:=10) (v:=?_) rfl (by kernel_rfl) (fun _ _ _ h=>h) (by rfl) hS ?_ ?_
      rotate_left
      ·(intro wq hSw;(try dsimp only at hSw);go_simp;try (with_reducible rfl))
      refine tkH (i:=11) (v:=?_) rfl (by kernel_rfl) (fun _ _ _ h=>h) (by rfl) hS ?_ ?_
      rotate_left
      ·(intro wq hSw;(try dsimp only at hSw);go_simp;try (with_reducible rfl))
      refine tkH (i:=12) (v:=?_) rfl (by kernel_rfl) (fun _ _ _ h=>h) (by rfl) hS ?_ ?_
      rotate_left
      ·(intro wq hSw;(try dsimp only at hSw);go_simp;try (with_reducible rfl))
      (try simp only [Act.put,List.setIfInBounds_toArray,List.set_cons_zero,List.set_cons_succ,List.getElem_toArray,List.getElem_cons_zero,List.getElem_cons_succ])
      refine tkH (i:=14) (v:=?_) rfl (by kernel_rfl) (fun _ _ _ h=>h) (by rfl) hS ?_ ?_
      rotate_left
      ·(intro wq hSw;(try dsimp only at hSw);go_simp;try (with_reducible rfl))
      refine tkH (i:=16) (v:=?_) rfl (by kernel_rfl) (fun _ _ _ h=>h) (by rfl) hS ?_ ?_
      rotate_left
      ·(intro wq hSw;(try dsimp only at hSw);go_simp;try (with_reducible rfl))
      refine tkH (i:=17) (v:=?_) rfl (by kernel_rfl) (fun _ _ _ h=>h) (by rfl) hS ?_ ?_
      rotate_left
      ·(intro wq hSw;(try dsimp only at hSw);go_simp;try (with_reducible rfl))
      refine tkH (i:=18) (v:=?_) rfl (by kernel_rfl) (fun _ _ _ h=>h) (by rfl) hS ?_ ?_
      rotate_left
      ·(intro wq hSw;(try dsimp only at hSw);go_simp;try (with_reducible rfl))
      refine tkH (i:=19) (v:=?_) rfl (by kernel_rfl) (fun _ _ _ h=>h) (by rfl) hS ?_ ?_
      rotate_left
      ·(intro wq hSw;(try dsimp only at hSw);go_simp;try (with_reducible rfl))
      (try simp only [Act.put,List.setIfInBounds_toArray,List.set_cons_zero,List.set_cons_succ,List.getElem_toArray,List.getElem_cons_zero,List.getElem_cons_succ])
      refine wpAnyH_ready (rs:=[13]) (by kernel_rfl) (by simp) ?_;refine AllReadyH.cons rfl (fun K hK=>?_) AllReadyH.nil;go_simp
      go_at_call 56
      refine (zCd _).mono ?_;rintro e wa ⟨A2,c2,rfl,eH,hba⟩;replace hbq:ZZ ZR.heap.size ZR wa:=zAa hbq hba hbq.size;have HF:=qH (zDC eH);clear eH hba;go_wp2_with fail
      refine hK.out _ _ ?_ (fun hS=>?_)
      ·exact KP.out _ hbq
      clear hK K
      (try simp only [Act.put,List.setIfInBounds_toArray,List.set_cons_zero,List.set_cons_succ,List.getElem_toArray,List.getElem_cons_zero,List.getElem_cons_succ])
      refine wpAnyH_ready (rs:=[15]) (by kernel_rfl) (by simp) ?_;refine AllReadyH.cons rfl (fun K hK=>?_) AllReadyH.nil;go_simp
      go_at_call 71
      refine (zRe HW.out B m1 e1 _ HF.out zUl (jh.out.below hbq) HR.out yf).mono ?_;rintro e ww ⟨rfl,hbw⟩;replace hbq:ZZ ZR.heap.size ZR ww:=zAa hbq hbw hbq.size;clear hbw;go_wp2_with fail
      refine hK.out _ _ ?_ (fun hS=>?_)
      ·exact KP.out _ hbq
      clear hK K
      (try simp only [Act.put,List.setIfInBounds_toArray,List.set_cons_zero,List.set_cons_succ,List.getElem_toArray,List.getElem_cons_zero,List.getElem_cons_succ])
      refine tkH (i:=20) (v:=?_) rfl (by kernel_rfl) (fun _ _ _ h=>h) (by rfl) hS ?_ ?_
      rotate_left
      ·(intro wq hSw;(try dsimp only at hSw);go_simp;try (with_reducible rfl))
      refine tkH (i:=21) (v:=?_) rfl (by kernel_rfl) (fun _ _ _ h=>h) (by rfl) hS ?_ ?_
      rotate_left
      ·(intro wq hSw;(try dsimp only at hSw);go_simp;try (with_reducible rfl))
      (try simp only [Act.put,List.setIfInBounds_toArray,List.set_cons_zero,List.set_cons_succ,List.getElem_toArray,List.getElem_cons_zero,List.getElem_cons_succ])
      refine wpAnyH_done (by kernel_rfl) ?_ _;go_wp2_with fail
      go_meet
      case rel=>exact ⟨by first | rfl | (rw [<-n1];rfl) | (simp;exact n1),_,rfl,hbq⟩
   case rest =>
    obtain ⟨rfl,V,hV,hbv⟩:=hcut;subst hV;replace jg:=qH (zAa jg.out hbv jg.out.size);replace ak:=ak.below hbv ak.lt;replace ab:=ab.below hbv ab.lt;replace dq:=dq.below hbv;replace HB:=qH (zAa HB.out hbv HB.out.size);clear hbv eM
    cases q with
    | false =>
     simp only [Bool.not_false];have hno:=wS.out HQ.out;have HF:=qH (d9.out [] 6 hno.1.symm hno.2.symm (.returned (.tuple #[H U 0 0,D J 6])) V ⟨U,0,0,[],rfl,rfl,by omega,OpsOwn.none_ _ _,HB.out⟩);clear hno ak ab dq;go_wp2_with fail
     go_ret2;exact HF.out
    | true =>
     simp only [Bool.not_true];obtain ⟨n0,hsc,hpo,hpb⟩:=nT.out HQ.out;have hr1:r=Q:=by have h:=HQ.out;rw [Bool.and_eq_true,Bool.and_eq_true] at h;exact h.1.1
     have wR:=qH (HR.out.trans hr1);have ir:=qH hpo;have pJ:=qH hpb;have zJ:=qH hsc;clear hsc hpo hpb hr1 wS nT HQ HR HW ox jh;have iW:=qH (show Stps V B m1 opath from (zDW dq (by omega) fk.out.1.2));obtain ⟨gI,gH,gG⟩:=cQ3 ak;obtain ⟨aj,aK,aw,aE,aD,aC,aJ,ap⟩:=cQ8 ab;go_wp2_with fail
     refine (zIQ Bb.out Bk.out _ (HA.out.below HB.out) iW.out wR.out yf).mono ?_;rintro e V2 ⟨B2,m2,d2,rfl,iw,cE,hb⟩;have fO:=qH cE;clear cE iW;clear gI gH gG aj aK aw aE aD aC aJ ap;replace jg:=qH (zAa jg.out hb jg.out.size);have hgv:X1.heap.size<=V.heap.size:=by have:=jg.out.size;have h2:=ab.lt;omega
     replace iw:=iw.mono hgv;replace ak:=ak.below hb ak.lt;replace ab:=ab.below hb ab.lt;replace dq:=dq.below hb;replace HB:=qH (zAa HB.out hb HB.out.size);clear hb;replace jg:=qH (zAa jg.out ((M V2.heap.size V2).alloc (O _) (.cells #[D J pkind,D J pf,D J pff,D J pfl,G pffar,D J pfpc,H B2 m2 d2,G pover] 32)) jg.out.size);have q3:=(M V2.heap.size V2).alloc (O _) (.cells #[D J pkind,D J pf,D J pff,D J pfl,G pffar,D J pfpc,H B2 m2 d2,G pover] 32);replace ak:=ak.below q3 ak.lt;replace ab:=ab.below q3 ab.lt;replace dq:=dq.below q3;replace iw:=iw.below q3;replace HB:=qH (zAa HB.out q3 HB.out.size);have xL:=Blk.new V2 32 #[D J pkind,D J pf,D J pff,D J pfl,G pffar,D J pfpc,H B2 m2 d2,G pover];clear q3;go_upto_region 15 with fail
     generalize (V2.alloc (.cells #[D J pkind,D J pf,D J pff,D J pfl,G pffar,D J pfpc,H B2 m2 d2,G pover] 32))=Z2 at jg ak ab xL dq iw HB ⊢;generalize hz_x:V2.heap.size=a_x at xL ⊢;clear hz_x;go_cut [8] (fun v8 wv=>v8=G (ms||!b')/\wv=Z2)
     case first =>
      clear ak ab xL dq iw
      cases ms with
      | true =>
       go_wp2_with fail
       go_meet
       case rel=>exact ⟨rfl,rfl⟩
      | false =>
       cases b' with
       | true =>
        go_wp2_with fail
        go_meet
        case rel=>exact ⟨rfl,rfl⟩
       | false =>
        go_wp2_with fail
        go_meet
        case rel=>exact ⟨rfl,rfl⟩
     case rest =>
      obtain ⟨rfl,hV⟩:=hcut;subst wc;have hsn:=zCu zJ.out;have hoo:=zPS FL.out hsn.1;rw [<-ir.out] at hoo;have hpl:ppath.length<=8000:=by
       have h1:=zGS hsn.1;rw [<-hsn.2.2] at h1;have h2:=congrArg (fun o:Og=>o.path.length) ir.out;have h3:((oOf L n0).path).length=n0.path.length:=by show (n0.path.map (pOf L)).length=_;rw [List.length_map]
       have h4:=Dq.out;simp only at h2;omega
      have iP:=ot.out.below jg.out;have o5:m2<=1000000:=by rw [fO.out];omega
      have hzz:Y.heap.size<=X1.heap.size:=wO.out.size;have ly:=qH (show Y.heap.size<=Z2.heap.size from Nat.le_trans hzz jg.out.size)
      have lA:=qH (show ∀k,blk B2=Z k->k < Z2.heap.size/\blk A'≠Z k from fun k hk=>by
       have h1:=iw.lt k hk
       refine ⟨h1.2,fun e2=>?_⟩
       have h2:=(ot.out.row.lt k e2).2
       omega)
      have on:=qH iw;have kg:=qH hoo;have cz:=zAa wO.out jg.out hzz;obtain ⟨f0,f1,f2,f3,f4,f5,f6,f7⟩:=cQ8 xL;clear iw dq ab xL ak hsn hoo hpl;go_upto_region 10 with (at_builtin;refine zEK ?_)
      refine qH ?_;refine zSf (y:=⟨⟨pkind,pf,⟨pff,pfl,pffar,pfpc⟩,ppath,pover⟩,B2,m2,d2⟩) (N:=i+1) (base:=Y.heap.size) (A:=A') (n:=i) (c:=c') (Es:=Es) rfl (.tmp 64) (.tmp 66) ?_ ?_ ?_ ?_ ?_ ?_ ?_ ?_
      ·rfl
      ·exact iP.row
      ·rfl
      ·rfl
      ·rfl
      ·omega
      ·exact ly.out
      intro A3 c3 w9 hR9 b8 cl;have bn:=iP.row.belowOf b8 ly.out;have fq:=iP.push ⟨⟨pkind,pf,⟨pff,pfl,pffar,pfpc⟩,ppath,pover⟩,B2,m2,d2⟩ ⟨kg.out.1,zDW on.out o5 kg.out.2,on.out.cap,lA.out⟩ hR9 b8 cl;have hbz:=cz.trans bn
      have HF:=qH (show zRw L T (i+1) E (ms||!b') (Es++[(⟨⟨pkind,pf,⟨pff,pfl,pffar,pfpc⟩,ppath,pover⟩,B2,m2,d2⟩:Oe)]) from by
       have h1:=zKO HI.out Dp.out zJ.out (⟨⟨pkind,pf,⟨pff,pfl,pffar,pfpc⟩,ppath,pover⟩,B2,m2,d2⟩:Oe) ir.out
       rw [pJ.out,Bool.not_not];exact h1)
      clear iP b8 cl hR9 bn cz f0 f1 f2 f3 f4 f5 f6 f7;go_wp2_with fail
      go_roundw
      case rel=>exact ⟨_,A3,i+1,c3,_,_,rfl,rfl,rfl,by go_num,hlt,fq,hbz,HF⟩
      case measure=>simp [intOf];omega
  ·have j1:¬(i:Int) < (m:Int):=by omega
   have hend:=zMW (L:=L) (S:=S) (i:=i) (bad:=E) (lost:=ms) (Es:=Es) (by rw [lw.out];exact HI.out) (by rw [lw.out,el.out];omega) tV.out;clear ak eN
   cases ms with
   | true =>
    have HF:=qH (d9.out [] 8 (by rw [fw.out.1,hend.1];rfl) (by rw [fw.out.2,hend.2.2 (by rw [hend.1];decide)]) (.returned (.tuple #[H U 0 0,D J 8])) X1 ⟨U,0,0,[],rfl,rfl,by omega,OpsOwn.none_ _ _,HB.out⟩);clear hend;go_wp2_with fail
    go_ret2;exact HF.out
   | false =>
    have HF:=qH (d9.out (List.map (fun x:Oe=>x.o) Es) 0 (by rw [fw.out.1,hend.1];rfl) (by rw [fw.out.2,hend.2.1 (by rw [hend.1];rfl)]) (.returned (.tuple #[H A' i c',D J 0])) X1 ⟨A',i,c',Es,rfl,rfl,by omega,ot.out.mono hz,HB.out⟩);clear hend;go_wp2_with fail
    go_ret2;exact HF.out
theorem zJX {A:Option Addr} {n c:Nat} {L:List Fg} {re lo:Int} {S:List UInt8} {ZM:List Og} {ZQ:Int} (h1:rsE L re lo S=ZQ) (h2:rsO L re lo S=ZM) (w:ZY) (hA:Fgs w A n L) (hv:frB L re lo=Q) :
  Calls ZX 32 #[frV A n c re lo,W (bA S)] w (zDX w ZM ZQ):=by
 subst h1;subst h2;exact zIp A n c L re lo S w hA hv
theorem zRp {A:Option Addr} {n c:Nat} {L:List Fg} {re lo:Int} {S:List UInt8} {ZQ:Int} {o:Og} (hE:zDt L S=ZQ) (hO:zEL L S=o) (hS:¬8000 < S.length) (w:ZY) (hA:Fgs w A n L) (hv:frB L re lo=Q) :
  Calls ZX 20 #[frV A n c re lo,W (bA S)] w (OpErr w o ZQ):=by
 obtain ⟨h1,h2⟩:=zXI hv hS;have:=zIl A n c L re lo S w hA hv;rw [h1,h2,hE,hO] at this;exact this
theorem zIq (A:Option Addr) (n c:Nat) (L:List Fg) (re lo:Int) (S:List UInt8) (w:ZY) (hA:Fgs w A n L) (hv:frB L re lo=Q) :
  Calls ZX 26 #[frV A n c re lo,W (bA S)] w (zHC w (rlR L re lo S).1 (rlR L re lo S).2.1 (rlR L re lo S).2.2):=by
 have kY:L.length<=17592186043904:=by rw [hA.len];exact hA.le
 have hs:=zBz S;obtain ⟨nS,dm⟩:∃k,S.length=k:=⟨_,rfl⟩
 rw [dm] at hs;have HN:=qH dm;have HA:=qH hA;have FL:=qH kY;have HB:=qH (M w.heap.size w);obtain ⟨⟨TO,TN,TE⟩,p6⟩:∃x,rlR L re lo S=x:=⟨_,rfl⟩
 have qX:=qH p6;rw [p6];simp only;have d9:=qH (fun (ZM:List Og) (n:Nat) (er:Int) (hq:(ZM,n,er)=(TO,TN,TE)) (e:Ending) (wx:ZY) (h:zHC w ZM n er e wx)=>(show zHC w TO TN TE e wx by injection hq with h1 h2;injection h2 with h2 h3;subst h1;subst h2;subst h3;exact h));have HV:=qH hv;clear dm hA p6 hv kY;go_enter Tryz.func26,Tryz.ntmps26;have q1:=(M w.heap.size w).alloc (O _) (.cells #[H A n c,D J re,D J lo] 24);have nc:=HB.out.size;replace HB:=qH (zAa HB.out q1 HB.out.size);have ak:=Blk.new w 24 #[H A n c,D J re,D J lo];clear q1;go_upto_region 1 with fail
 generalize w.alloc (.cells #[H A n c,D J re,D J lo] 24)=X at ak HB ⊢;obtain ⟨dv,gA⟩:∃a,w.heap.size=a:=⟨_,rfl⟩
 replace nc:w.heap.size<=dv:=Nat.le_of_eq gA;rw [gA] at ak ⊢;clear gA;by_cases h8:8000 < nS
 ·have i0:(8000:Int) < (nS:Int):=by omega
  have HF:=qH (d9.out [] 0 7 (by rw [<-qX.out];exact (zVW HV.out (by rw [HN.out];exact h8)).symm) _ X ⟨U,0,0,[],rfl,rfl,by omega,OpsOwn.none_ _ _,HB.out⟩);clear ak h8;go_wp2_with fail
  go_ret3
  exact HF.out
 have i0:¬(8000:Int) < (nS:Int):=by omega
 obtain ⟨T,hT⟩:∃T,zAI 10 S=T:=⟨_,rfl⟩
 have ke:=qH (show (TO,TN,TE)=zAO L T [] by rw [<-qX.out,zTo HV.out (by rw [HN.out];exact h8),hT]);have Gy:=qH (show 0 < T.length by rw [<-hT];exact zJW 10 S);have qb:=qH (show T.length<=8001 by rw [<-hT];have:=zFI 10 S;rw [HN.out] at this;omega);have qW:=qH (show ∀p∈T,¬8000 < p.length from fun p hp=>by rw [<-hT] at hp;have:=zAJ 10 S p hp;rw [HN.out] at this;omega);have eO:=qH (fun w=>zFu hT (by rw [HN.out];omega) w);clear h8 hT qX;go_wp2_with fail
 refine (eO.out _).mono ?_;rintro e Y ⟨B1,m,d1,rfl,an,o6,hb⟩;have fN:=HB.out.size;replace ak:=ak.below hb ak.lt;replace HB:=qH (zAa HB.out hb HB.out.size);replace an:=an.mono fN;clear hb fN;have el:=qH (show T.length=m by have:=an.len;simpa using this);have jF:m<=8001:=by rw [<-el.out];exact qb.out
 have hm0:0 < m:=by rw [<-el.out];exact Gy.out
 obtain ⟨ga,oa,rfl,_,hga⟩:=an.form hm0;have eN:=qH (an.txts (by omega));have qY:=qH ak;clear o6 eO qb Gy an ak hga;go_wp2_with fail
 go_loopw [8,9] (fun v8 v9 wv=>∃(V:ZY) (A':Option Addr) (i c':Nat) (Es:List Oe),V=wv/\v8=H A' i c'/\v9=D J i/\i+1<=m/\OpsOwn V Y.heap.size A' i c' Es/\ZZ Y.heap.size Y V/\Hid (Es.length=i/\(TO,TN,TE)=zAO L (T.drop i) (List.map (fun x:Oe=>x.o) Es))) (fun _ v9 _=>m-(intOf v9).toNat)
 case atStart=>exact ⟨_,U,0,0,[],rfl,rfl,rfl,hm0,OpsOwn.none_ _ _,M _ _,qH ⟨rfl,ke.out⟩⟩
 case round =>
  obtain ⟨X1,A',i,c',Es,hX,rfl,rfl,hi,hO,hb,HI⟩:=hrel;subst hX;have hz:w.heap.size<=Y.heap.size:=HB.out.size;have fB:=qH (zAa HB.out hb hz);replace qY:=qH (qY.out.below hb qY.out.lt);replace eN:=qH (eN.out.below hb);have wO:=qH hb;have ot:=qH hO;have j9:IntKind.i64.wrap ((i:Int)+1)=(i:Int)+1:=IntWalk.i64_in _ (by omega);clear hb hO ke;by_cases hlt:i+1 < m
  ·have j1:(i:Int)+1 < (m:Int):=by omega
   have EY:i+1 < T.length:=by rw [el.out];exact hlt
   have hst:=zMv L EY (List.map (fun x:Oe=>x.o) Es);have hwd:=qW.out (xa T i) (List.mem_of_getElem? (zOK (by omega)));obtain ⟨hgx,x0⟩:=eN.out.cell (j:=i) (show i < m by omega);obtain ⟨P,hP⟩:∃P,xa T i=P:=⟨_,rfl⟩
   rw [hP] at hst hwd x0;obtain ⟨o,ho⟩:∃o,zEL L P=o:=⟨_,rfl⟩
   obtain ⟨er,her⟩:∃er,zDt L P=er:=⟨_,rfl⟩
   have vk:=zPU FL.out P;have j7:=zMV L P;rw [ho,her] at hst;rw [ho] at vk j7;have G6:=qH (show ∀wx,ZZ X1.heap.size X1 wx->Calls ZX 20 #[frV A n c re lo,W (bA P)] wx (OpErr wx o er) from fun wx hx=>zRp her ho hwd wx (HA.out.below (zAa fB.out hx fB.out.size)) HV.out);have iW:=qH (HI.out.2.trans hst);have ji:=qH HI.out.1;have ir:=qH vk;have fY:=qH (show o.path.length<=1000000 by omega);clear hst hwd hP ho her vk j7 HI EY;obtain ⟨okind,of,⟨off,ofl,offar,ofpc⟩,opath,oover⟩:=o;have i2:(0:Int)<=(i:Int):=by omega
   have i3:(i:Int) < (m:Int):=by omega
   have nU:=qH (show ga < X1.heap.size/\X1.cell? ⟨ga,oa+i,U⟩=Z (W (bA P)) from ⟨hgx,x0⟩);clear hgx x0;have KP:=qH (show ∀wx,ZZ X1.heap.size X1 wx->(ZZ X1.heap.size X1 wx/\wx.cell? ⟨dv,0,U⟩=Z (H A n c)/\wx.cell? ⟨dv,1,U⟩=Z (D J re)/\wx.cell? ⟨dv,2,U⟩=Z (D J lo)/\wx.cell? ⟨ga,oa+i,U⟩=Z (W (bA P))) from fun wx h=>⟨h,((qY.out.below h qY.out.lt).cell 0).trans rfl,((qY.out.below h qY.out.lt).cell 1).trans rfl,((qY.out.below h qY.out.lt).cell 2).trans rfl,(h.cell (p:=⟨ga,oa+i,U⟩) nU.out.1).trans nU.out.2⟩);go_upto_region 8 with fail
   go_cut [10,11] (fun lU v11 wv=>∃(V:ZY) (b4:Nat) (B:Option Addr) (m2 d2:Nat),V=wv/\lU=.pointer (Z ⟨b4,0,U⟩)/\v11=D J er/\m2=opath.length/\Blk V b4 32 #[D J okind,D J of,D J off,D J ofl,G offar,D J ofpc,H B m2 d2,G oover]/\X1.heap.size<=b4/\ZZ X1.heap.size X1 V/\Row V X1.heap.size 5 B m2 d2 (opath.flatMap zCl))
   case first =>
    go_region_held3 (fun wx=>ZZ X1.heap.size X1 wx/\wx.cell? ⟨dv,0,U⟩=Z (H A n c)/\wx.cell? ⟨dv,1,U⟩=Z (D J re)/\wx.cell? ⟨dv,2,U⟩=Z (D J lo)/\wx.cell? ⟨ga,oa+i,U⟩=Z (W (bA P))) (first | (with_reducible refine KP.out _ ?_;repeat (first | with_reducible assumption | with_reducible exact And.left (by assumption) | ((with_reducible refine zAc ?_ ?_ _ _ _ _ _ _ _ _);rotate_left;(focus first | omega | (simp;done) | (simp;omega))) | with_reducible exact M _ _ | with_reducible apply Below.drew | ((with_reducible refine zEb ?_ ?_);focus (first | omega | (simp;done) | (simp;omega))))))
     (first | (go_at_call 20;refine (G6.out _ (And.left (by assumption))).mono ?_;rintro e wd ⟨B,m2,d2,rfl,oz,cE,hbd⟩;have fO:=qH cE;clear cE;have hbq:ZZ X1.heap.size X1 wd:=zAa (And.left (by assumption)) hbd (Below.size (And.left (by assumption)));have At:=Below.size hbq;have EB:=oz.mono (show X1.heap.size<=_ from Below.size (And.left (by assumption)));(try (refine (fun (bW:Blk wd X1.heap.size 32 #[D J 0,D J 0,D J 0,D J 0,G E,D J 0,H U 0 0,G E])=>?_) (Blk.below ?_ hbd ?_);rotate_left;(focus first | exact Blk.drew (Blk.new _ _ _) | exact Blk.new _ _ _);(focus first | (simp;done) | (simp;omega));have Ak:wd.cell? ⟨X1.heap.size,0,U⟩=Z (D J 0):=(bW.cell 0).trans rfl;have AY:=bW.frozen 0;have Aj:wd.cell? ⟨X1.heap.size,1,U⟩=Z (D J 0):=(bW.cell 1).trans rfl;have AX:=bW.frozen 1;have Ai:wd.cell? ⟨X1.heap.size,2,U⟩=Z (D J 0):=(bW.cell 2).trans rfl;have AW:=bW.frozen 2;have Ah:wd.cell? ⟨X1.heap.size,3,U⟩=Z (D J 0):=(bW.cell 3).trans rfl;have AV:=bW.frozen 3;have Bp:wd.cell? ⟨X1.heap.size,4,U⟩=Z (G E):=(bW.cell 4).trans rfl;have C6:=bW.frozen 4;have Bo:wd.cell? ⟨X1.heap.size,5,U⟩=Z (D J 0):=(bW.cell 5).trans rfl;have C5:=bW.frozen 5;have Bn:wd.cell? ⟨X1.heap.size,6,U⟩=Z (H U 0 0):=(bW.cell 6).trans rfl;have C4:=bW.frozen 6;have Bm:wd.cell? ⟨X1.heap.size,7,U⟩=Z (G E):=(bW.cell 7).trans rfl;have C3:=bW.frozen 7;have frB:∀k,blk B=Z k->k≠X1.heap.size:=(fun k hk=>Nat.ne_of_gt (by have h9:=(oz.lt k hk).1;simp at h9;omega))))))
    all_goals
     go_wp2_with fail
     go_meet
    all_goals refine ⟨_,_,B,m2,d2,rfl,rfl,rfl,fO.out,?_,?_,?_,?_⟩
    all_goals first
     | with_reducible exact Blk.new _ _ _
     | with_reducible exact At
     | with_reducible exact hbq.alloc At _
     | with_reducible exact Blk.store8 bW (D J okind) (D J of) (D J off) (D J ofl) (G offar) (D J ofpc) (H B m2 d2) (G oover)
     | with_reducible exact O _
     | with_reducible exact zAc hbq (O _) (D J okind) (D J of) (D J off) (D J ofl) (G offar) (D J ofpc) (H B m2 d2) (G oover)
     | with_reducible exact EB.alloc _
     | with_reducible exact EB.store8of frB (D J okind) (D J of) (D J off) (D J ofl) (G offar) (D J ofpc) (H B m2 d2) (G oover)
   case rest =>
    obtain ⟨V,b4,B,m2,d2,hV,rfl,rfl,cE,ab,hge,hbv,Al⟩:=hcut;subst hV;have fO:=qH cE;clear cE KP G6;by_cases h0:er=0
    ·subst h0;have zW:=qH (iW.out.trans (qP rfl));have iP:=ot.out.below hbv;have o5:m2<=1000000:=by rw [fO.out];exact fY.out
     have hzz:Y.heap.size<=X1.heap.size:=wO.out.size;have ly:=qH (show Y.heap.size<=V.heap.size from Nat.le_trans hzz hbv.size)
     have pJ:=qH (show ∀k,blk B=Z k->k < V.heap.size/\blk A'≠Z k from fun k hk=>by
      have h1:=Al.lt k hk
      refine ⟨h1.2,fun e2=>?_⟩
      have h2:=(ot.out.row.lt k e2).2
      omega)
     have on:=qH Al;have cz:=zAa wO.out hbv hzz;obtain ⟨f0,f1,f2,f3,f4,f5,f6,f7⟩:=cQ8 ab;clear Al ab;go_upto_region 7 with (at_builtin;refine zEK ?_)
     refine qH ?_;refine zSf (y:=⟨⟨okind,of,⟨off,ofl,offar,ofpc⟩,opath,oover⟩,B,m2,d2⟩) (N:=i+1) (base:=Y.heap.size) (A:=A') (n:=i) (c:=c') (Es:=Es) rfl (.tmp 37) (.tmp 39) ?_ ?_ ?_ ?_ ?_ ?_ ?_ ?_
     ·rfl
     ·exact iP.row
     ·rfl
     ·rfl
     ·rfl
     ·omega
     ·exact ly.out
     intro A2 c2 w9 hR9 b8 cl;have bn:=iP.row.belowOf b8 ly.out;have fq:=iP.push ⟨⟨okind,of,⟨off,ofl,offar,ofpc⟩,opath,oover⟩,B,m2,d2⟩ ⟨ir.out.1,zDW on.out o5 ir.out.2,on.out.cap,pJ.out⟩ hR9 b8 cl;have hbz:=cz.trans bn;have HF:=qH (show (Es++[(⟨⟨okind,of,⟨off,ofl,offar,ofpc⟩,opath,oover⟩,B,m2,d2⟩:Oe)]).length=i+1/\(TO,TN,TE)=zAO L (T.drop (i+1)) (List.map (fun x:Oe=>x.o) (Es++[(⟨⟨okind,of,⟨off,ofl,offar,ofpc⟩,opath,oover⟩,B,m2,d2⟩:Oe)])) from ⟨by simp [ji.out],by rw [zW.out,List.map_append];rfl⟩);clear iP b8 cl hR9 bn cz hbv f0 f1 f2 f3 f4 f5 f6 f7;go_wp2_with fail
     go_roundw
     case rel=>exact ⟨_,A2,i+1,c2,_,rfl,rfl,by go_num,hlt,fq,hbz,HF⟩
     case measure=>simp [intOf];omega
    ·have k0:(er != 0)=Q:=by simpa using h0
     have HF:=qH (d9.out [] i er (by rw [iW.out,qN h0,List.length_map,ji.out]) _ V ⟨U,0,0,[],rfl,rfl,by omega,OpsOwn.none_ _ _,zAa fB.out hbv fB.out.size⟩);clear ab Al hbv h0;go_wp2_with fail
     go_ret3
     exact HF.out
  ·have j1:¬(i:Int)+1 < (m:Int):=by omega
   have him:i+1=m:=by omega
   have hlast:=zMw L (T:=T) (i:=i) (by rw [el.out];exact him) (List.map (fun x:Oe=>x.o) Es);obtain ⟨hgx,x0⟩:=eN.out.cell (j:=i) (show i < m by omega);obtain ⟨P,hP⟩:∃P,xa T i=P:=⟨_,rfl⟩
   rw [hP] at hlast x0;have q2:(m:Int)-1=(i:Int):=by omega
   have q4:IntKind.i64.wrap (i:Int)=(i:Int):=IntWalk.i64_in _ (by omega);have i2:(0:Int)<=(i:Int):=by omega
   have i3:(i:Int) < (m:Int):=by omega
   by_cases h0:P=[]
   ·have n0:((bA P).toList==[])=Q:=by rw [zAr,h0];rfl
    have HF:=qH (d9.out (List.map (fun x:Oe=>x.o) Es) i 0 (by rw [HI.out.2,hlast,qP h0,List.length_map,HI.out.1]) _ X1 ⟨A',i,c',Es,rfl,rfl,by omega,ot.out.mono hz,fB.out⟩);clear hlast hP h0 him;go_wp2_with fail
    go_ret3
    exact HF.out
   ·have n0:((bA P).toList==[])=E:=by rw [zAr];simpa using h0
    have HF:=qH (d9.out [] i 6 (by rw [HI.out.2,hlast,qN h0,List.length_map,HI.out.1]) _ X1 ⟨U,0,0,[],rfl,rfl,by omega,OpsOwn.none_ _ _,fB.out⟩);clear hlast hP h0 him;go_wp2_with fail
    go_ret3
    exact HF.out
theorem zJY {A:Option Addr} {n c:Nat} {L:List Fg} {re lo:Int} {S:List UInt8} {ZM:List Og} {k:Nat} {ZQ:Int} (h:rlR L re lo S=(ZM,k,ZQ)) (w:ZY) (hA:Fgs w A n L) (hv:frB L re lo=Q) :
  Calls ZX 26 #[frV A n c re lo,W (bA S)] w (zHC w ZM k ZQ):=by
 have:=zIq A n c L re lo S w hA hv;rw [h] at this;exact this
