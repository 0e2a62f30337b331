/-
  Lemmas. Conditions: each one's own.
-/
import Derived.Test.YtlmdfmnbcndhoaaGreatDoorRt24
import Derived.Deep.CutBlock
open Go.RowKit
set_option maxHeartbeats 12800000
set_option maxRecDepth 100000
open Go.Value renaming bool->G,int->D,slice->H,string->W
open Go.IntKind renaming i64->J
open Option renaming none->U,some->Z
open Bool renaming false->E,true->Q
open Go renaming World->ZY
open Go.Proofs.Tryz renaming prog->ZX
open Go.RowKit.Below renaming refl->M
open Nat renaming le_refl->O
open Go.RowKit renaming Below->ZZ
namespace Go.Proofs.YtlmdfmnbcndhoaaGreatDoor
theorem zXB (f:Int) (b:Bool) (w:ZY):(Instr.build 32 #[(1,D J f),(4,G b)]).run ZX w=.ok (.agg #[D J 0,D J f,D J 0,D J 0,G E,D J 0,H U 0 0,G b]) w:=run_build w _ _ _ (by kernel_rfl)
theorem zHQ {f:Int} {T:List (List UInt8)} {g:Og} (h:zOP f T=g) {A:Option Addr} {n:Nat} (c:Nat) (w:ZY) (base:Nat) (hA:Row w base 1 A n c (T.map zDE)) (hn:n<=10000) (hw:∀p∈T,p.length<=100000) :
  Calls ZX 101 #[.agg #[D J 0,D J f,D J 0,D J 0,G E,D J 0,H U 0 0,G E],H A n c] w (OpG w g):=by
 subst h;exact zJS f A n c T w base hA hn hw
theorem zEc {ZO L:List UInt8} (h:ZO≠L):((bA ZO).toList==L)=E:=by rw [zAp];exact beq_eq_false_iff_ne.2 h
theorem zEd {ZO L:List UInt8} (h:ZO=L):((bA ZO).toList==L)=Q:=by rw [zAp,h];exact beq_self_eq_true _
theorem zOz (S:List UInt8) (w:ZY) (hS:S.length<=8000) :
  Calls ZX 54 #[W (bA S)] w (OpG w (zLl S)):=by
 obtain ⟨T,hT⟩:∃T,zAI 32 S=T:=⟨_,rfl⟩
 have jM:T.length<=8001:=by rw [<-hT];have:=zBp S;omega
 have E9:∀p∈T,p.length<=100000:=fun p hp=>by rw [<-hT] at hp;have:=zAJ 32 S p hp;omega
 have eO:=qH (fun w=>zFu hT (by omega) w);obtain ⟨g,hg⟩:∃g,zLl S=g:=⟨_,rfl⟩
 have HG:=qH (show zJC T=g by rw [<-hg];unfold zLl;rw [hT]);rw [hg];have qb:=qH jM;have qW:=qH E9;have HB:=qH (M w.heap.size w);clear hT jM E9 hg hS;go_enter Tryz.func54,Tryz.ntmps54;have q1:=(M w.heap.size w).alloc (O _) (.cells #[D J 0,D J 0,D J 0,D J 0,G E,D J 0,H U 0 0,G E] 32);have aB:=HB.out.size;replace HB:=qH (zAa HB.out q1 HB.out.size);have aa:=Blk.new w 32 #[D J 0,D J 0,D J 0,D J 0,G E,D J 0,H U 0 0,G E];clear q1;go_upto_region 1 with fail
 generalize w.alloc (.cells #[D J 0,D J 0,D J 0,D J 0,G E,D J 0,H U 0 0,G E] 32)=X at aa HB ⊢;obtain ⟨ae,eD⟩:∃a,w.heap.size=a:=⟨_,rfl⟩
 replace aB:w.heap.size<=ae:=Nat.le_of_eq eD;rw [eD] at aa ⊢;clear eD;go_wp2_with fail
 refine (eO.out _).mono ?_;rintro e Y ⟨B1,m,d1,rfl,an,o6,hb⟩;have fN:=HB.out.size;replace aa:=aa.below hb aa.lt;replace HB:=qH (zAa HB.out hb HB.out.size);replace an:=an.mono fN;clear hb fN;have el:=qH (show T.length=m by have:=an.len;simpa using this);clear o6 eO;have jF:m<=8001:=by rw [<-el.out];exact qb.out
 clear qb;by_cases hl2:m < 2
 ·have i0:(m:Int) < 2:=by omega
  have bO:=qH (show g=o0 by rw [<-HG.out];unfold zJC;rw [qP (by rw [el.out];exact hl2)]);clear HG hl2;obtain ⟨bg,bf,be,bc,aZ,aY,aX,aW⟩:=cQ8 aa;have aV:=aa.frozen 0;have aU:=aa.frozen 1;have aT:=aa.frozen 2;have aS:=aa.frozen 3;have aR:=aa.frozen 4;have aQ:=aa.frozen 5;have aP:=aa.frozen 6;have aO:=aa.frozen 7;have SV:=qH (aa.store8 (D J 0) (D J 0) (D J 0) (D J 0) (G E) (D J 0) (H U 0 0) (G E));have BV:=zAc HB.out aB (D J 0) (D J 0) (D J 0) (D J 0) (G E) (D J 0) (H U 0 0) (G E);have bU:=qH (show OpG w g (.returned (.agg #[D J 0,D J 0,D J 0,D J 0,G E,D J 0,H U 0 0,G E])) ((((((((Y.setCell ⟨ae,0,U⟩ (D J 0)).setCell ⟨ae,1,U⟩ (D J 0)).setCell ⟨ae,2,U⟩ (D J 0)).setCell ⟨ae,3,U⟩ (D J 0)).setCell ⟨ae,4,U⟩ (G E)).setCell ⟨ae,5,U⟩ (D J 0)).setCell ⟨ae,6,U⟩ (H U 0 0)).setCell ⟨ae,7,U⟩ (G E)) from by rw [bO.out];exact OpG.of (o:=o0) (Row.none_ _ _ _) rfl BV);clear aa an BV;go_wp2_with fail
  exact zAi rfl rfl SV.out Tryz.underlying32 rfl (by kernel_rfl) rfl bU.out
 have i0:¬(m:Int) < 2:=by omega
 have i1:0 < m:=by omega
 have i2:1 < m:=by omega
 have i4:(1:Int) < (m:Int):=by omega
 obtain ⟨l,hl⟩:∃l,m=l+1:=⟨m-1,by omega⟩
 have i5:(m:Int)-1=(l:Int):=by omega
 have i6:IntKind.i64.wrap (l:Int)=(l:Int):=IntWalk.i64_in _ (by omega);have i7:(l:Int) < (m:Int):=by omega
 have i8:l < m:=by omega
 have i9:(0:Int)<=(l:Int):=by omega
 obtain ⟨ga,oa,rfl,_,hga⟩:=an.form i1;have eN:=qH (an.txts (by omega));obtain ⟨W0,cA⟩:∃ZO,xa T 0=ZO:=⟨_,rfl⟩
 obtain ⟨W1,de⟩:∃ZO,xa T 1=ZO:=⟨_,rfl⟩
 obtain ⟨WL,Cv⟩:∃ZO,xa T l=ZO:=⟨_,rfl⟩
 have x0:Y.cell? ⟨ga,oa,U⟩=Z (W (bA W0)):=by have:=(eN.out.cell (j:=0) i1).2;rw [cA] at this;exact this
 have x1:Y.cell? ⟨ga,oa+1,U⟩=Z (W (bA W1)):=by have:=(eN.out.cell (j:=1) i2).2;rw [de] at this;exact this
 have xl:Y.cell? ⟨ga,oa+l,U⟩=Z (W (bA WL)):=by have:=(eN.out.cell (j:=l) i8).2;rw [Cv] at this;exact this
 have n9:=zAp WL [111,118,101,114];rw [show (WL==[111,118,101,114])=ovT WL from rfl] at n9;obtain ⟨ov,hov⟩:∃b,ovT WL=b:=⟨_,rfl⟩
 rw [hov] at n9;obtain ⟨F1,jP⟩:∃k,fnA W1=k:=⟨_,rfl⟩
 have qd:=qH (fun w=>zCk jP w);have HX:=qH (show ga < Y.heap.size/\Y.cell? ⟨ga,oa,U⟩=Z (W (bA W0))/\Y.cell? ⟨ga,oa+1,U⟩=Z (W (bA W1))/\Y.cell? ⟨ga,oa+l,U⟩=Z (W (bA WL)) from ⟨hga,x0,x1,xl⟩);have KP:=qH (show ∀wx,ZZ Y.heap.size Y wx->(ZZ Y.heap.size Y wx/\wx.cell? ⟨ga,oa+1,U⟩=Z (W (bA W1))/\wx.cell? ⟨ga,oa+l,U⟩=Z (W (bA WL))) from fun wx h=>⟨h,(h.cell (p:=⟨ga,oa+1,U⟩) HX.out.1).trans HX.out.2.2.1,(h.cell (p:=⟨ga,oa+l,U⟩) HX.out.1).trans HX.out.2.2.2⟩);have hln:¬T.length < 2:=by rw [el.out];exact hl2
 have ep:=qH (show g=zJC T from HG.out.symm);have HW:=qH (show xa T 0=W0/\xa T 1=W1/\xa T (T.length-1)=WL/\fnA W1=F1/\ovT WL=ov from ⟨cA,de,by rw [el.out,hl];exact Cv,jP,hov⟩);have bo:=qH hln;clear hl cA de Cv hov jP hln hl2 hga x0 HG;go_upto_region 4 with fail
 go_cut [4] (fun v4 wv=>∃(V:ZY) (b4:Nat),V=wv/\v4=.pointer (Z ⟨b4,0,U⟩)/\Blk V b4 32 #[D J 0,D J (F1:Int),D J 0,D J 0,G E,D J 0,H U 0 0,G ov]/\Y.heap.size<=b4/\ZZ Y.heap.size Y V)
 case first =>
  go_region_held3 (fun wx=>ZZ Y.heap.size Y wx/\wx.cell? ⟨ga,oa+1,U⟩=Z (W (bA W1))/\wx.cell? ⟨ga,oa+l,U⟩=Z (W (bA WL))) (first | (with_reducible refine KP.out _ ?_;repeat (first | with_reducible assumption | with_reducible exact And.left (by assumption) | ((with_reducible refine zAc ?_ ?_ _ _ _ _ _ _ _ _);rotate_left;(focus first | omega | (simp;done) | (simp;omega))) | with_reducible exact M _ _ | with_reducible apply Below.drew | ((with_reducible refine zEb ?_ ?_);focus (first | omega | (simp;done) | (simp;omega))))))
   (first | (go_at_call 99;refine (qd.out _).mono ?_;rintro e wd ⟨rfl,hbd⟩;have hbq:ZZ Y.heap.size Y wd:=zAa (And.left (by assumption)) hbd (Below.size (And.left (by assumption)));have hz:=Below.size hbq;(try (refine (fun (bW:Blk wd Y.heap.size 32 #[D J 0,D J 0,D J 0,D J 0,G E,D J 0,H U 0 0,G E])=>?_) (Blk.below ?_ hbd ?_);rotate_left;(focus first | exact Blk.drew (Blk.new _ _ _) | exact Blk.new _ _ _);(focus first | (simp;done) | (simp;omega));have Ak:wd.cell? ⟨Y.heap.size,0,U⟩=Z (D J 0):=(bW.cell 0).trans rfl;have AY:=bW.frozen 0;have Aj:wd.cell? ⟨Y.heap.size,1,U⟩=Z (D J 0):=(bW.cell 1).trans rfl;have AX:=bW.frozen 1;have Ai:wd.cell? ⟨Y.heap.size,2,U⟩=Z (D J 0):=(bW.cell 2).trans rfl;have AW:=bW.frozen 2;have Ah:wd.cell? ⟨Y.heap.size,3,U⟩=Z (D J 0):=(bW.cell 3).trans rfl;have AV:=bW.frozen 3;have Bp:wd.cell? ⟨Y.heap.size,4,U⟩=Z (G E):=(bW.cell 4).trans rfl;have C6:=bW.frozen 4;have Bo:wd.cell? ⟨Y.heap.size,5,U⟩=Z (D J 0):=(bW.cell 5).trans rfl;have C5:=bW.frozen 5;have Bn:wd.cell? ⟨Y.heap.size,6,U⟩=Z (H U 0 0):=(bW.cell 6).trans rfl;have C4:=bW.frozen 6;have Bm:wd.cell? ⟨Y.heap.size,7,U⟩=Z (G E):=(bW.cell 7).trans rfl;have C3:=bW.frozen 7))))
  all_goals
   go_wp2_with fail
   go_meet
  all_goals refine ⟨_,_,rfl,rfl,?_,?_,?_⟩
  all_goals first
   | with_reducible exact Blk.new _ _ _
   | with_reducible exact hz
   | with_reducible exact hbq.alloc hz _
   | with_reducible exact Blk.store8 bW (D J 0) (D J (F1:Int)) (D J 0) (D J 0) (G E) (D J 0) (H U 0 0) (G ov)
   | with_reducible exact O _
   | with_reducible exact zAc hbq (O _) (D J 0) (D J (F1:Int)) (D J 0) (D J 0) (G E) (D J 0) (H U 0 0) (G ov)
 case rest =>
  obtain ⟨V,ac,hV,rfl,ab,hge,hbv⟩:=hcut;subst hV;have ag:ae < ac:=Nat.lt_of_lt_of_le aa.lt hge;have am:w.heap.size<=ac:=by omega
  have aA:∀k,blk (Z (⟨ga,oa,U⟩:Addr))=Z k->k≠ac:=fun k hk=>by have:=(an.lt k hk).2;omega
  have x0:V.cell? ⟨ga,oa,U⟩=Z (W (bA W0)):=(hbv.cell (p:=⟨ga,oa,U⟩) HX.out.1).trans HX.out.2.1;replace aa:=aa.below hbv aa.lt;replace an:=an.below hbv;replace HB:=qH (zAa HB.out hbv HB.out.size);clear hbv hge x1 xl n9 KP HX;clear eN;go_upto_block 0 with fail
  go_cut [] (fun wv=>∃(o:Og) (B:Option Addr) (m2 d2:Nat) (V:ZY),V=wv/\Blk V ac 32 #[D J o.kind,D J o.f,D J o.fr.f,D J o.fr.l,G o.fr.far,D J o.fr.pc,H B m2 d2,G o.over]/\Blk V ae 32 #[D J 0,D J 0,D J 0,D J 0,G E,D J 0,H U 0 0,G E]/\Row V w.heap.size 5 B m2 d2 (o.path.flatMap zCl)/\Hid (m2=o.path.length)/\Hid (ZZ w.heap.size w V)/\Hid (g=o)/\Hid (∀k,blk B=Z k->k≠ae))
  case first =>
   by_cases h1:W0=[114,101,108,101,97,115,101]
   ·have t1:=zEd h1;have bO:=qH (show g=⟨1,(F1:Int),⟨0,0,E,0⟩,[],E⟩ by rw [ep.out];unfold zJC;rw [qN bo.out,qP (by rw [HW.out.1];exact h1)];rw [HW.out.2.1,HW.out.2.2.2.1];rfl);clear ep bo;clear h1;have au:=ab.frozen 0;have aj:V.cell? ⟨ac,0,U⟩=Z (D J 0):=(ab.cell 0).trans rfl;have bK:=ab.frozen 7;have ap:V.cell? ⟨ac,7,U⟩=Z (G ov):=(ab.cell 7).trans rfl;go_wp2_with fail
    clear au aj bK ap;replace aa:=aa.far (p:=⟨ac,0,U⟩) (Nat.ne_of_lt ag) (D J 1);replace ab:=ab.set_ 0 (D J 1);replace an:=an.farSet 0 (D J 1) aA;replace HB:=qH (HB.out.setCell (p:=⟨ac,0,U⟩) am (D J 1));replace aa:=aa.far (p:=⟨ac,7,U⟩) (Nat.ne_of_lt ag) (G E);replace ab:=ab.set_ 7 (G E);replace an:=an.farSet 7 (G E) aA;replace HB:=qH (HB.out.setCell (p:=⟨ac,7,U⟩) am (G E));replace ab:Blk ((V.setCell ⟨ac,0,U⟩ (D J 1)).setCell ⟨ac,7,U⟩ (G E)) ac 32 #[D J 1,D J (F1:Int),D J 0,D J 0,G E,D J 0,H U 0 0,G E]:=ab;generalize ((V.setCell ⟨ac,0,U⟩ (D J 1)).setCell ⟨ac,7,U⟩ (G E))=ZR at aa ab an HB ⊢;go_meet
    case rel=>exact ⟨⟨1,(F1:Int),⟨0,0,E,0⟩,[],E⟩,U,0,0,_,rfl,ab,aa,Row.none_ _ _ _,qH rfl,HB,bO,qH (fun k hk=>by cases hk)⟩
   have t1:=zEc h1;by_cases h2:W0=[110,97,118,97,104,111]
   ·have t2:=zEd h2;have bO:=qH (show g=⟨2,(F1:Int),⟨0,0,E,0⟩,[],E⟩ by rw [ep.out];unfold zJC;rw [qN bo.out,qN (by rw [HW.out.1];exact h1),qP (by rw [HW.out.1];exact h2)];rw [HW.out.2.1,HW.out.2.2.2.1];rfl);clear ep bo;clear h1 h2;have au:=ab.frozen 0;have aj:V.cell? ⟨ac,0,U⟩=Z (D J 0):=(ab.cell 0).trans rfl;have bK:=ab.frozen 7;have ap:V.cell? ⟨ac,7,U⟩=Z (G ov):=(ab.cell 7).trans rfl;go_wp2_with fail
    clear au aj bK ap;replace aa:=aa.far (p:=⟨ac,0,U⟩) (Nat.ne_of_lt ag) (D J 2);replace ab:=ab.set_ 0 (D J 2);replace an:=an.farSet 0 (D J 2) aA;replace HB:=qH (HB.out.setCell (p:=⟨ac,0,U⟩) am (D J 2));replace aa:=aa.far (p:=⟨ac,7,U⟩) (Nat.ne_of_lt ag) (G E);replace ab:=ab.set_ 7 (G E);replace an:=an.farSet 7 (G E) aA;replace HB:=qH (HB.out.setCell (p:=⟨ac,7,U⟩) am (G E));replace ab:Blk ((V.setCell ⟨ac,0,U⟩ (D J 2)).setCell ⟨ac,7,U⟩ (G E)) ac 32 #[D J 2,D J (F1:Int),D J 0,D J 0,G E,D J 0,H U 0 0,G E]:=ab;generalize ((V.setCell ⟨ac,0,U⟩ (D J 2)).setCell ⟨ac,7,U⟩ (G E))=ZR at aa ab an HB ⊢;go_meet
    case rel=>exact ⟨⟨2,(F1:Int),⟨0,0,E,0⟩,[],E⟩,U,0,0,_,rfl,ab,aa,Row.none_ _ _ _,qH rfl,HB,bO,qH (fun k hk=>by cases hk)⟩
   have t2:=zEc h2;by_cases h8:W0=[100,114,111,112]
   ·have t8:=zEd h8;have bO:=qH (show g=⟨8,(F1:Int),⟨0,0,E,0⟩,[],E⟩ by rw [ep.out];unfold zJC;rw [qN bo.out,qN (by rw [HW.out.1];exact h1),qN (by rw [HW.out.1];exact h2),qP (by rw [HW.out.1];exact h8)];rw [HW.out.2.1,HW.out.2.2.2.1];rfl);clear ep bo;clear h1 h2 h8;have au:=ab.frozen 0;have aj:V.cell? ⟨ac,0,U⟩=Z (D J 0):=(ab.cell 0).trans rfl;have bK:=ab.frozen 7;have ap:V.cell? ⟨ac,7,U⟩=Z (G ov):=(ab.cell 7).trans rfl;go_wp2_with fail
    clear au aj bK ap;replace aa:=aa.far (p:=⟨ac,0,U⟩) (Nat.ne_of_lt ag) (D J 8);replace ab:=ab.set_ 0 (D J 8);replace an:=an.farSet 0 (D J 8) aA;replace HB:=qH (HB.out.setCell (p:=⟨ac,0,U⟩) am (D J 8));replace aa:=aa.far (p:=⟨ac,7,U⟩) (Nat.ne_of_lt ag) (G E);replace ab:=ab.set_ 7 (G E);replace an:=an.farSet 7 (G E) aA;replace HB:=qH (HB.out.setCell (p:=⟨ac,7,U⟩) am (G E));replace ab:Blk ((V.setCell ⟨ac,0,U⟩ (D J 8)).setCell ⟨ac,7,U⟩ (G E)) ac 32 #[D J 8,D J (F1:Int),D J 0,D J 0,G E,D J 0,H U 0 0,G E]:=ab;generalize ((V.setCell ⟨ac,0,U⟩ (D J 8)).setCell ⟨ac,7,U⟩ (G E))=ZR at aa ab an HB ⊢;go_meet
    case rel=>exact ⟨⟨8,(F1:Int),⟨0,0,E,0⟩,[],E⟩,U,0,0,_,rfl,ab,aa,Row.none_ _ _ _,qH rfl,HB,bO,qH (fun k hk=>by cases hk)⟩
   have t8:=zEc h8;by_cases h4:W0=[116,119,105,115,116]
   ·have t4:=zEd h4;have bO:=qH (show g=⟨4,(F1:Int),⟨0,0,E,0⟩,[],ov⟩ by rw [ep.out];unfold zJC;rw [qN bo.out,qN (by rw [HW.out.1];exact h1),qN (by rw [HW.out.1];exact h2),qN (by rw [HW.out.1];exact h8),qP (by rw [HW.out.1];exact h4)];rw [HW.out.2.1,HW.out.2.2.2.1,HW.out.2.2.1,HW.out.2.2.2.2];rfl);clear ep bo;clear h1 h2 h8 h4;have au:=ab.frozen 0;have aj:V.cell? ⟨ac,0,U⟩=Z (D J 0):=(ab.cell 0).trans rfl;go_wp2_with fail
    clear au aj;replace aa:=aa.far (p:=⟨ac,0,U⟩) (Nat.ne_of_lt ag) (D J 4);replace ab:=ab.set_ 0 (D J 4);replace an:=an.farSet 0 (D J 4) aA;replace HB:=qH (HB.out.setCell (p:=⟨ac,0,U⟩) am (D J 4));replace ab:Blk (V.setCell ⟨ac,0,U⟩ (D J 4)) ac 32 #[D J 4,D J (F1:Int),D J 0,D J 0,G E,D J 0,H U 0 0,G ov]:=ab;generalize (V.setCell ⟨ac,0,U⟩ (D J 4))=ZR at aa ab an HB ⊢;go_meet
    case rel=>exact ⟨⟨4,(F1:Int),⟨0,0,E,0⟩,[],ov⟩,U,0,0,_,rfl,ab,aa,Row.none_ _ _ _,qH rfl,HB,bO,qH (fun k hk=>by cases hk)⟩
   have t4:=zEc h4;by_cases h5:W0=[116,97,107,101]
   ·have t5:=zEd h5;by_cases h3l:3 < m
    ·have e3:(3:Int) < (m:Int):=by omega
     obtain ⟨s,hs⟩:∃s,zGu (T.drop 3)=s:=⟨_,rfl⟩
     obtain ⟨⟨sf,sl,sfar,spc⟩,sk⟩:=s;have ke:=qH hs;have bO:=qH (show g=⟨5,(F1:Int),⟨sf,sl,sfar,spc⟩,[],ov⟩ by rw [ep.out];unfold zJC;rw [qN bo.out,qN (by rw [HW.out.1];exact h1),qN (by rw [HW.out.1];exact h2),qN (by rw [HW.out.1];exact h8),qN (by rw [HW.out.1];exact h4),qP (by rw [HW.out.1];exact h5)];rw [HW.out.2.1,HW.out.2.2.2.1,HW.out.2.2.1,HW.out.2.2.2.2];rw [qP (by rw [el.out];exact h3l),hs]);obtain ⟨A1,hsl,jN⟩:=zCa an (i:=3) (v:=3) (by omega) rfl;have cR:=qH (jN.txts (by omega));clear ep bo hs jN h3l h1 h2 h8 h4 h5;have au:=ab.frozen 0;have aj:V.cell? ⟨ac,0,U⟩=Z (D J 0):=(ab.cell 0).trans rfl;go_upto_region 19 with fail
     clear au aj;replace aa:=aa.far (p:=⟨ac,0,U⟩) (Nat.ne_of_lt ag) (D J 5);replace ab:=ab.set_ 0 (D J 5);replace an:=an.farSet 0 (D J 5) aA;replace HB:=qH (HB.out.setCell (p:=⟨ac,0,U⟩) am (D J 5));replace ab:Blk (V.setCell ⟨ac,0,U⟩ (D J 5)) ac 32 #[D J 5,D J (F1:Int),D J 0,D J 0,G E,D J 0,H U 0 0,G ov]:=ab;generalize (V.setCell ⟨ac,0,U⟩ (D J 5))=Z1 at aa ab an HB ⊢;clear cR;obtain ⟨A1',hsl',jN⟩:=zCa an (i:=3) (v:=3) (by omega) rfl;have cR:=qH (jN.txts (by omega));clear jN hsl;go_wp2_with fail
     refine (zER ke.out _ _ cR.out).mono ?_;rintro e Z2 ⟨rfl,hb⟩;replace aa:=aa.below hb aa.lt;replace ab:=ab.below hb ab.lt;replace an:=an.below hb;replace HB:=qH (zAa HB.out hb HB.out.size);clear hb;have cq:=ab.frozen 2;have aw:Z2.cell? ⟨ac,2,U⟩=Z (D J 0):=(ab.cell 2).trans rfl;have eW:=ab.frozen 3;have aE:Z2.cell? ⟨ac,3,U⟩=Z (D J 0):=(ab.cell 3).trans rfl;have eV:=ab.frozen 4;have aD:Z2.cell? ⟨ac,4,U⟩=Z (G E):=(ab.cell 4).trans rfl;have eU:=ab.frozen 5;have aC:Z2.cell? ⟨ac,5,U⟩=Z (D J 0):=(ab.cell 5).trans rfl;go_wp2_with fail
     clear cq aw eW aE eV aD eU aC;replace aa:=aa.far (p:=⟨ac,2,U⟩) (Nat.ne_of_lt ag) (D J sf);replace ab:=ab.set_ 2 (D J sf);replace an:=an.farSet 2 (D J sf) aA;replace HB:=qH (HB.out.setCell (p:=⟨ac,2,U⟩) am (D J sf));replace aa:=aa.far (p:=⟨ac,3,U⟩) (Nat.ne_of_lt ag) (D J sl);replace ab:=ab.set_ 3 (D J sl);replace an:=an.farSet 3 (D J sl) aA;replace HB:=qH (HB.out.setCell (p:=⟨ac,3,U⟩) am (D J sl));replace aa:=aa.far (p:=⟨ac,4,U⟩) (Nat.ne_of_lt ag) (G sfar);replace ab:=ab.set_ 4 (G sfar);replace an:=an.farSet 4 (G sfar) aA;replace HB:=qH (HB.out.setCell (p:=⟨ac,4,U⟩) am (G sfar));replace aa:=aa.far (p:=⟨ac,5,U⟩) (Nat.ne_of_lt ag) (D J spc);replace ab:=ab.set_ 5 (D J spc);replace an:=an.farSet 5 (D J spc) aA;replace HB:=qH (HB.out.setCell (p:=⟨ac,5,U⟩) am (D J spc));replace ab:Blk ((((Z2.setCell ⟨ac,2,U⟩ (D J sf)).setCell ⟨ac,3,U⟩ (D J sl)).setCell ⟨ac,4,U⟩ (G sfar)).setCell ⟨ac,5,U⟩ (D J spc)) ac 32 #[D J 5,D J (F1:Int),D J sf,D J sl,G sfar,D J spc,H U 0 0,G ov]:=ab;generalize ((((Z2.setCell ⟨ac,2,U⟩ (D J sf)).setCell ⟨ac,3,U⟩ (D J sl)).setCell ⟨ac,4,U⟩ (G sfar)).setCell ⟨ac,5,U⟩ (D J spc))=Z3 at aa ab an HB ⊢;go_meet
     case rel=>exact ⟨⟨5,(F1:Int),⟨sf,sl,sfar,spc⟩,[],ov⟩,U,0,0,_,rfl,ab,aa,Row.none_ _ _ _,qH rfl,HB,bO,qH (fun k hk=>by cases hk)⟩
    ·have e3:¬(3:Int) < (m:Int):=by omega
     have bO:=qH (show g=⟨5,(F1:Int),⟨0,0,E,0⟩,[],ov⟩ by rw [ep.out];unfold zJC;rw [qN bo.out,qN (by rw [HW.out.1];exact h1),qN (by rw [HW.out.1];exact h2),qN (by rw [HW.out.1];exact h8),qN (by rw [HW.out.1];exact h4),qP (by rw [HW.out.1];exact h5)];rw [HW.out.2.1,HW.out.2.2.2.1,HW.out.2.2.1,HW.out.2.2.2.2];rw [qN (by rw [el.out];exact h3l)];rfl);clear ep bo h3l h1 h2 h8 h4 h5;have au:=ab.frozen 0;have aj:V.cell? ⟨ac,0,U⟩=Z (D J 0):=(ab.cell 0).trans rfl;go_wp2_with fail
     clear au aj;replace aa:=aa.far (p:=⟨ac,0,U⟩) (Nat.ne_of_lt ag) (D J 5);replace ab:=ab.set_ 0 (D J 5);replace an:=an.farSet 0 (D J 5) aA;replace HB:=qH (HB.out.setCell (p:=⟨ac,0,U⟩) am (D J 5));replace ab:Blk (V.setCell ⟨ac,0,U⟩ (D J 5)) ac 32 #[D J 5,D J (F1:Int),D J 0,D J 0,G E,D J 0,H U 0 0,G ov]:=ab;generalize (V.setCell ⟨ac,0,U⟩ (D J 5))=ZR at aa ab an HB ⊢;go_meet
     case rel=>exact ⟨⟨5,(F1:Int),⟨0,0,E,0⟩,[],ov⟩,U,0,0,_,rfl,ab,aa,Row.none_ _ _ _,qH rfl,HB,bO,qH (fun k hk=>by cases hk)⟩
   have t5:=zEc h5;by_cases h6:W0=[116,114,97,110,115,102,101,114]
   ·have t6:=zEd h6;have t7:((bA W0).toList==[101,120,99,104,97,110,103,101])=E:=by rw [h6];rw [zAp];rfl
    by_cases h3l:3 < m
    ·have e3:(3:Int) < (m:Int):=by omega
     have e4:3 < m:=h3l;obtain ⟨F3,kZ⟩:∃k,fnA (xa T 3)=k:=⟨_,rfl⟩
     have rc:=qH (fun w=>zCk kZ w);have bO:=qH (show g=⟨6,(F1:Int),⟨(F3:Int),0,E,0⟩,[],ov⟩ by rw [ep.out];unfold zJC;rw [qN bo.out,qN (by rw [HW.out.1];exact h1),qN (by rw [HW.out.1];exact h2),qN (by rw [HW.out.1];exact h8),qN (by rw [HW.out.1];exact h4),qN (by rw [HW.out.1];exact h5),qP (by rw [HW.out.1];exact h6)];rw [HW.out.2.1,HW.out.2.2.2.1,HW.out.2.2.1,HW.out.2.2.2.2];rw [qP (by rw [el.out];exact h3l),kZ]);clear ep bo kZ h3l h1 h2 h8 h4 h5 h6;have au:=ab.frozen 0;have aj:V.cell? ⟨ac,0,U⟩=Z (D J 0):=(ab.cell 0).trans rfl;go_upto_region 24 with fail
     clear au aj;replace aa:=aa.far (p:=⟨ac,0,U⟩) (Nat.ne_of_lt ag) (D J 6);replace ab:=ab.set_ 0 (D J 6);replace an:=an.farSet 0 (D J 6) aA;replace HB:=qH (HB.out.setCell (p:=⟨ac,0,U⟩) am (D J 6));replace ab:Blk (V.setCell ⟨ac,0,U⟩ (D J 6)) ac 32 #[D J 6,D J (F1:Int),D J 0,D J 0,G E,D J 0,H U 0 0,G ov]:=ab;generalize (V.setCell ⟨ac,0,U⟩ (D J 6))=Z1 at aa ab an HB ⊢;have x0:Z1.cell? ⟨ga,oa,U⟩=Z (W (bA W0)):=by have:=((an.txts (by omega)).cell (j:=0) i1).2;rw [HW.out.1] at this;exact this
     go_upto_region 26 with fail
     clear x0;have x3:=((an.txts (by omega)).cell (j:=3) e4).2;generalize xa T 3=W3 at x3 rc;go_wp2_with fail
     clear x3;refine (rc.out _).mono ?_;rintro e Z2 ⟨rfl,hb⟩;replace aa:=aa.below hb aa.lt;replace ab:=ab.below hb ab.lt;replace an:=an.below hb;replace HB:=qH (zAa HB.out hb HB.out.size);clear hb;have cq:=ab.frozen 2;have aw:Z2.cell? ⟨ac,2,U⟩=Z (D J 0):=(ab.cell 2).trans rfl;go_wp2_with fail
     clear cq aw;replace aa:=aa.far (p:=⟨ac,2,U⟩) (Nat.ne_of_lt ag) (D J (F3:Int));replace ab:=ab.set_ 2 (D J (F3:Int));replace an:=an.farSet 2 (D J (F3:Int)) aA;replace HB:=qH (HB.out.setCell (p:=⟨ac,2,U⟩) am (D J (F3:Int)));replace ab:Blk (Z2.setCell ⟨ac,2,U⟩ (D J (F3:Int))) ac 32 #[D J 6,D J (F1:Int),D J (F3:Int),D J 0,G E,D J 0,H U 0 0,G ov]:=ab;generalize (Z2.setCell ⟨ac,2,U⟩ (D J (F3:Int)))=Z3 at aa ab an HB ⊢;go_meet
     case rel=>exact ⟨⟨6,(F1:Int),⟨(F3:Int),0,E,0⟩,[],ov⟩,U,0,0,_,rfl,ab,aa,Row.none_ _ _ _,qH rfl,HB,bO,qH (fun k hk=>by cases hk)⟩
    ·have e3:¬(3:Int) < (m:Int):=by omega
     have bO:=qH (show g=⟨6,(F1:Int),⟨0,0,E,0⟩,[],ov⟩ by rw [ep.out];unfold zJC;rw [qN bo.out,qN (by rw [HW.out.1];exact h1),qN (by rw [HW.out.1];exact h2),qN (by rw [HW.out.1];exact h8),qN (by rw [HW.out.1];exact h4),qN (by rw [HW.out.1];exact h5),qP (by rw [HW.out.1];exact h6)];rw [HW.out.2.1,HW.out.2.2.2.1,HW.out.2.2.1,HW.out.2.2.2.2];rw [qN (by rw [el.out];exact h3l)]);clear ep bo h3l h1 h2 h8 h4 h5 h6;have au:=ab.frozen 0;have aj:V.cell? ⟨ac,0,U⟩=Z (D J 0):=(ab.cell 0).trans rfl;go_upto_region 24 with fail
     clear au aj;replace aa:=aa.far (p:=⟨ac,0,U⟩) (Nat.ne_of_lt ag) (D J 6);replace ab:=ab.set_ 0 (D J 6);replace an:=an.farSet 0 (D J 6) aA;replace HB:=qH (HB.out.setCell (p:=⟨ac,0,U⟩) am (D J 6));replace ab:Blk (V.setCell ⟨ac,0,U⟩ (D J 6)) ac 32 #[D J 6,D J (F1:Int),D J 0,D J 0,G E,D J 0,H U 0 0,G ov]:=ab;generalize (V.setCell ⟨ac,0,U⟩ (D J 6))=Z0 at aa ab an HB ⊢;have x0:Z0.cell? ⟨ga,oa,U⟩=Z (W (bA W0)):=by have:=((an.txts (by omega)).cell (j:=0) i1).2;rw [HW.out.1] at this;exact this
     go_wp2_with fail
     go_meet
     case rel=>exact ⟨⟨6,(F1:Int),⟨0,0,E,0⟩,[],ov⟩,U,0,0,_,rfl,ab,aa,Row.none_ _ _ _,qH rfl,HB,bO,qH (fun k hk=>by cases hk)⟩
   have t6:=zEc h6;by_cases h7:W0=[101,120,99,104,97,110,103,101]
   ·have t7:=zEd h7;by_cases h3l:3 < m
    ·have e3:(3:Int) < (m:Int):=by omega
     have e4:3 < m:=h3l;obtain ⟨F3,kZ⟩:∃k,fnA (xa T 3)=k:=⟨_,rfl⟩
     have rc:=qH (fun w=>zCk kZ w);have bO:=qH (show g=⟨7,(F1:Int),⟨(F3:Int),0,E,0⟩,[],ov⟩ by rw [ep.out];unfold zJC;rw [qN bo.out,qN (by rw [HW.out.1];exact h1),qN (by rw [HW.out.1];exact h2),qN (by rw [HW.out.1];exact h8),qN (by rw [HW.out.1];exact h4),qN (by rw [HW.out.1];exact h5),qN (by rw [HW.out.1];exact h6),qP (by rw [HW.out.1];exact h7)];rw [HW.out.2.1,HW.out.2.2.2.1,HW.out.2.2.1,HW.out.2.2.2.2];rw [qP (by rw [el.out];exact h3l),kZ]);clear ep bo kZ h3l h1 h2 h8 h4 h5 h6 h7;have au:=ab.frozen 0;have aj:V.cell? ⟨ac,0,U⟩=Z (D J 0):=(ab.cell 0).trans rfl;go_upto_region 24 with fail
     clear au aj;replace aa:=aa.far (p:=⟨ac,0,U⟩) (Nat.ne_of_lt ag) (D J 6);replace ab:=ab.set_ 0 (D J 6);replace an:=an.farSet 0 (D J 6) aA;replace HB:=qH (HB.out.setCell (p:=⟨ac,0,U⟩) am (D J 6));replace ab:Blk (V.setCell ⟨ac,0,U⟩ (D J 6)) ac 32 #[D J 6,D J (F1:Int),D J 0,D J 0,G E,D J 0,H U 0 0,G ov]:=ab;generalize (V.setCell ⟨ac,0,U⟩ (D J 6))=Z0 at aa ab an HB ⊢;have x0:Z0.cell? ⟨ga,oa,U⟩=Z (W (bA W0)):=by have:=((an.txts (by omega)).cell (j:=0) i1).2;rw [HW.out.1] at this;exact this
     have au:=ab.frozen 0;have aj:Z0.cell? ⟨ac,0,U⟩=Z (D J 6):=(ab.cell 0).trans rfl;go_upto_region 26 with fail
     clear au aj;replace aa:=aa.far (p:=⟨ac,0,U⟩) (Nat.ne_of_lt ag) (D J 7);replace ab:=ab.set_ 0 (D J 7);replace an:=an.farSet 0 (D J 7) aA;replace HB:=qH (HB.out.setCell (p:=⟨ac,0,U⟩) am (D J 7));replace ab:Blk (Z0.setCell ⟨ac,0,U⟩ (D J 7)) ac 32 #[D J 7,D J (F1:Int),D J 0,D J 0,G E,D J 0,H U 0 0,G ov]:=ab;generalize (Z0.setCell ⟨ac,0,U⟩ (D J 7))=Z1 at aa ab an HB ⊢;clear x0;have x3:=((an.txts (by omega)).cell (j:=3) e4).2;generalize xa T 3=W3 at x3 rc;go_wp2_with fail
     clear x3;refine (rc.out _).mono ?_;rintro e Z2 ⟨rfl,hb⟩;replace aa:=aa.below hb aa.lt;replace ab:=ab.below hb ab.lt;replace an:=an.below hb;replace HB:=qH (zAa HB.out hb HB.out.size);clear hb;have cq:=ab.frozen 2;have aw:Z2.cell? ⟨ac,2,U⟩=Z (D J 0):=(ab.cell 2).trans rfl;go_wp2_with fail
     clear cq aw;replace aa:=aa.far (p:=⟨ac,2,U⟩) (Nat.ne_of_lt ag) (D J (F3:Int));replace ab:=ab.set_ 2 (D J (F3:Int));replace an:=an.farSet 2 (D J (F3:Int)) aA;replace HB:=qH (HB.out.setCell (p:=⟨ac,2,U⟩) am (D J (F3:Int)));replace ab:Blk (Z2.setCell ⟨ac,2,U⟩ (D J (F3:Int))) ac 32 #[D J 7,D J (F1:Int),D J (F3:Int),D J 0,G E,D J 0,H U 0 0,G ov]:=ab;generalize (Z2.setCell ⟨ac,2,U⟩ (D J (F3:Int)))=Z3 at aa ab an HB ⊢;go_meet
     case rel=>exact ⟨⟨7,(F1:Int),⟨(F3:Int),0,E,0⟩,[],ov⟩,U,0,0,_,rfl,ab,aa,Row.none_ _ _ _,qH rfl,HB,bO,qH (fun k hk=>by cases hk)⟩
    ·have e3:¬(3:Int) < (m:Int):=by omega
     have bO:=qH (show g=⟨7,(F1:Int),⟨0,0,E,0⟩,[],ov⟩ by rw [ep.out];unfold zJC;rw [qN bo.out,qN (by rw [HW.out.1];exact h1),qN (by rw [HW.out.1];exact h2),qN (by rw [HW.out.1];exact h8),qN (by rw [HW.out.1];exact h4),qN (by rw [HW.out.1];exact h5),qN (by rw [HW.out.1];exact h6),qP (by rw [HW.out.1];exact h7)];rw [HW.out.2.1,HW.out.2.2.2.1,HW.out.2.2.1,HW.out.2.2.2.2];rw [qN (by rw [el.out];exact h3l)]);clear ep bo h3l h1 h2 h8 h4 h5 h6 h7;have au:=ab.frozen 0;have aj:V.cell? ⟨ac,0,U⟩=Z (D J 0):=(ab.cell 0).trans rfl;go_upto_region 24 with fail
     clear au aj;replace aa:=aa.far (p:=⟨ac,0,U⟩) (Nat.ne_of_lt ag) (D J 6);replace ab:=ab.set_ 0 (D J 6);replace an:=an.farSet 0 (D J 6) aA;replace HB:=qH (HB.out.setCell (p:=⟨ac,0,U⟩) am (D J 6));replace ab:Blk (V.setCell ⟨ac,0,U⟩ (D J 6)) ac 32 #[D J 6,D J (F1:Int),D J 0,D J 0,G E,D J 0,H U 0 0,G ov]:=ab;generalize (V.setCell ⟨ac,0,U⟩ (D J 6))=Z0 at aa ab an HB ⊢;have x0:Z0.cell? ⟨ga,oa,U⟩=Z (W (bA W0)):=by have:=((an.txts (by omega)).cell (j:=0) i1).2;rw [HW.out.1] at this;exact this
     have au:=ab.frozen 0;have aj:Z0.cell? ⟨ac,0,U⟩=Z (D J 6):=(ab.cell 0).trans rfl;go_wp2_with fail
     clear au aj;replace aa:=aa.far (p:=⟨ac,0,U⟩) (Nat.ne_of_lt ag) (D J 7);replace ab:=ab.set_ 0 (D J 7);replace an:=an.farSet 0 (D J 7) aA;replace HB:=qH (HB.out.setCell (p:=⟨ac,0,U⟩) am (D J 7));replace ab:Blk (Z0.setCell ⟨ac,0,U⟩ (D J 7)) ac 32 #[D J 7,D J (F1:Int),D J 0,D J 0,G E,D J 0,H U 0 0,G ov]:=ab;generalize (Z0.setCell ⟨ac,0,U⟩ (D J 7))=Z1 at aa ab an HB ⊢;go_meet
     case rel=>exact ⟨⟨7,(F1:Int),⟨0,0,E,0⟩,[],ov⟩,U,0,0,_,rfl,ab,aa,Row.none_ _ _ _,qH rfl,HB,bO,qH (fun k hk=>by cases hk)⟩
   have t7:=zEc h7;by_cases h3:W0=[112,105,99,107]
   ·have t3:=zEd h3;obtain ⟨o,ho⟩:∃o,zOP (F1:Int) (T.drop 2)=o:=⟨_,rfl⟩
    have zN:=qH ho;have bO:=qH (show g=o by rw [ep.out];unfold zJC;rw [qN bo.out,qN (by rw [HW.out.1];exact h1),qN (by rw [HW.out.1];exact h2),qN (by rw [HW.out.1];exact h8),qN (by rw [HW.out.1];exact h4),qN (by rw [HW.out.1];exact h5),qN (by rw [HW.out.1];exact h6),qN (by rw [HW.out.1];exact h7),qP (by rw [HW.out.1];exact h3)];rw [HW.out.2.1,HW.out.2.2.2.1];exact ho);obtain ⟨A1,hsl,jN⟩:=zCa an (i:=2) (v:=2) (by omega) rfl;have cR:=qH jN;have nV:=qH (show ∀p∈T.drop 2,p.length<=100000 from fun p hp=>qW.out p (List.mem_of_mem_drop hp));obtain ⟨okind,of,⟨off,ofl,offar,ofpc⟩,opath,oover⟩:=o;clear ep bo ho jN hsl h1 h2 h8 h4 h5 h6 h7 h3;have bK:=ab.frozen 7;have ap:V.cell? ⟨ac,7,U⟩=Z (G ov):=(ab.cell 7).trans rfl;go_upto_region 30 with fail
    clear bK ap;replace aa:=aa.far (p:=⟨ac,7,U⟩) (Nat.ne_of_lt ag) (G E);replace ab:=ab.set_ 7 (G E);replace an:=an.farSet 7 (G E) aA;replace HB:=qH (HB.out.setCell (p:=⟨ac,7,U⟩) am (G E));replace ab:Blk (V.setCell ⟨ac,7,U⟩ (G E)) ac 32 #[D J 0,D J (F1:Int),D J 0,D J 0,G E,D J 0,H U 0 0,G E]:=ab;generalize (V.setCell ⟨ac,7,U⟩ (G E))=Z1 at aa ab an HB ⊢;clear cR;obtain ⟨A1',hsl,jN⟩:=zCa an (i:=2) (v:=2) (by omega) rfl;have cR:=qH jN;clear jN;obtain ⟨aj,aK,aw,aE,aD,aC,aJ,ap⟩:=cQ8 ab;have au:=ab.frozen 0;have cq:=ab.frozen 2;have eW:=ab.frozen 3;have eV:=ab.frozen 4;have eU:=ab.frozen 5;have bK:=ab.frozen 7;have eM:=qH ab;have GW:=qH HB.out.size;go_region_with (go_at_call 101;(first | refine (zHQ zN.out _ _ w.heap.size cR.out (by omega) nV.out).mono ?_ | refine (zHQ zN.out _ _ w.heap.size (cR.out.below (M Z1.heap.size Z1).drew) (by omega) nV.out).mono ?_);rintro e wd ⟨B,m2,d2,rfl,oz,cE,hbd⟩;have fO:=qH cE;clear cE;have hbq:ZZ Z1.heap.size Z1 wd:=zAa ((M Z1.heap.size Z1).drew) hbd (O _);have bW:=eM.out.below hbq eM.out.lt;have Ak:wd.cell? ⟨ac,0,U⟩=Z (D J 0):=(bW.cell 0).trans rfl;have AY:=bW.frozen 0;have Aj:wd.cell? ⟨ac,1,U⟩=Z (D J (F1:Int)):=(bW.cell 1).trans rfl;have AX:=bW.frozen 1;have Ai:wd.cell? ⟨ac,2,U⟩=Z (D J 0):=(bW.cell 2).trans rfl;have AW:=bW.frozen 2;have Ah:wd.cell? ⟨ac,3,U⟩=Z (D J 0):=(bW.cell 3).trans rfl;have AV:=bW.frozen 3;have Bp:wd.cell? ⟨ac,4,U⟩=Z (G E):=(bW.cell 4).trans rfl;have C6:=bW.frozen 4;have Bo:wd.cell? ⟨ac,5,U⟩=Z (D J 0):=(bW.cell 5).trans rfl;have C5:=bW.frozen 5;have Bn:wd.cell? ⟨ac,6,U⟩=Z (H U 0 0):=(bW.cell 6).trans rfl;have C4:=bW.frozen 6;have Bm:wd.cell? ⟨ac,7,U⟩=Z (G E):=(bW.cell 7).trans rfl;have C3:=bW.frozen 7)
    all_goals
     clear aj aK aw aE aD aC aJ ap au cq eW eV eU bK;have f9:Row wd Z1.heap.size 5 B m2 d2 (opath.flatMap zCl):=oz;have pB:∀k,blk B=Z k->k≠ac:=fun k hk=>Nat.ne_of_gt (Nat.lt_of_lt_of_le ab.lt (f9.lt k hk).1)
     have fA:∀k,blk B=Z k->k≠ae:=fun k hk=>Nat.ne_of_gt (Nat.lt_of_lt_of_le aa.lt (f9.lt k hk).1)
     replace f9:=f9.mono GW.out;have Hd:=zAc (zAa HB.out hbq HB.out.size) am (D J okind) (D J of) (D J off) (D J ofl) (G offar) (D J ofpc) (H B m2 d2) (G oover);have c8:=bW.store8 (D J okind) (D J of) (D J off) (D J ofl) (G offar) (D J ofpc) (H B m2 d2) (G oover);have ey:=(((((((((aa.below hbq aa.lt).far (p:=⟨ac,0,U⟩) (Nat.ne_of_lt ag) (D J okind)).far (p:=⟨ac,1,U⟩) (Nat.ne_of_lt ag) (D J of)).far (p:=⟨ac,2,U⟩) (Nat.ne_of_lt ag) (D J off)).far (p:=⟨ac,3,U⟩) (Nat.ne_of_lt ag) (D J ofl)).far (p:=⟨ac,4,U⟩) (Nat.ne_of_lt ag) (G offar)).far (p:=⟨ac,5,U⟩) (Nat.ne_of_lt ag) (D J ofpc)).far (p:=⟨ac,6,U⟩) (Nat.ne_of_lt ag) (H B m2 d2)).far (p:=⟨ac,7,U⟩) (Nat.ne_of_lt ag) (G oover));replace f9:=f9.store8of pB (D J okind) (D J of) (D J off) (D J ofl) (G offar) (D J ofpc) (H B m2 d2) (G oover);clear ab aa an bW HB oz hbd;go_wp2_with fail
     clear hbq Ak AY Aj AX Ai AW Ah AV Bp C6 Bo C5 Bn C4 Bm C3;have HB:=qH Hd;have ab:=c8;have aa:=ey;clear Hd c8 ey;generalize ((((((((wd.setCell ⟨ac,0,U⟩ (D J okind)).setCell ⟨ac,1,U⟩ (D J of)).setCell ⟨ac,2,U⟩ (D J off)).setCell ⟨ac,3,U⟩ (D J ofl)).setCell ⟨ac,4,U⟩ (G offar)).setCell ⟨ac,5,U⟩ (D J ofpc)).setCell ⟨ac,6,U⟩ (H B m2 d2)).setCell ⟨ac,7,U⟩ (G oover))=Z2 at HB ab aa f9 ⊢;clear hsl cR eM GW;go_meet
     case rel=>exact ⟨⟨okind,of,⟨off,ofl,offar,ofpc⟩,opath,oover⟩,B,m2,d2,_,rfl,ab,aa,f9,fO,HB,bO,qH fA⟩
   have t3:=zEc h3;have bO:=qH (show g=⟨0,(F1:Int),⟨0,0,E,0⟩,[],ov⟩ by rw [ep.out];unfold zJC;rw [qN bo.out,qN (by rw [HW.out.1];exact h1),qN (by rw [HW.out.1];exact h2),qN (by rw [HW.out.1];exact h8),qN (by rw [HW.out.1];exact h4),qN (by rw [HW.out.1];exact h5),qN (by rw [HW.out.1];exact h6),qN (by rw [HW.out.1];exact h7),qN (by rw [HW.out.1];exact h3)];rw [HW.out.2.1,HW.out.2.2.2.1,HW.out.2.2.1,HW.out.2.2.2.2];rfl);clear ep bo h1 h2 h8 h4 h5 h6 h7 h3;go_wp2_with fail
   go_meet
   case rel=>exact ⟨⟨0,(F1:Int),⟨0,0,E,0⟩,[],ov⟩,U,0,0,_,rfl,ab,aa,Row.none_ _ _ _,qH rfl,HB,bO,qH (fun k hk=>by cases hk)⟩
  case rest =>
   obtain ⟨⟨okind,of,⟨off,ofl,offar,ofpc⟩,opath,oover⟩,B,m2,d2,Z9,hV,ab,aa,f9,fO,HB,bO,fW⟩:=hcut;subst hV;have fA:=fW.out;clear ep bo;obtain ⟨aj,aK,aw,aE,aD,aC,aJ,ap⟩:=cQ8 ab;obtain ⟨bg,bf,be,bc,aZ,aY,aX,aW⟩:=cQ8 aa;have aV:=aa.frozen 0;have aU:=aa.frozen 1;have aT:=aa.frozen 2;have aS:=aa.frozen 3;have aR:=aa.frozen 4;have aQ:=aa.frozen 5;have aP:=aa.frozen 6;have aO:=aa.frozen 7;have SV:=qH (aa.store8 (D J okind) (D J of) (D J off) (D J ofl) (G offar) (D J ofpc) (H B m2 d2) (G oover));have BV:=zAc HB.out aB (D J okind) (D J of) (D J off) (D J ofl) (G offar) (D J ofpc) (H B m2 d2) (G oover);have RV:=f9.store8of fA (D J okind) (D J of) (D J off) (D J ofl) (G offar) (D J ofpc) (H B m2 d2) (G oover);have bU:=qH (show OpG w g (.returned (.agg #[D J okind,D J of,D J off,D J ofl,G offar,D J ofpc,H B m2 d2,G oover])) ((((((((Z9.setCell ⟨ae,0,U⟩ (D J okind)).setCell ⟨ae,1,U⟩ (D J of)).setCell ⟨ae,2,U⟩ (D J off)).setCell ⟨ae,3,U⟩ (D J ofl)).setCell ⟨ae,4,U⟩ (G offar)).setCell ⟨ae,5,U⟩ (D J ofpc)).setCell ⟨ae,6,U⟩ (H B m2 d2)).setCell ⟨ae,7,U⟩ (G oover)) from by rw [bO.out];exact OpG.of (o:=⟨okind,of,⟨off,ofl,offar,ofpc⟩,opath,oover⟩) RV fO.out BV);clear aa ab f9 BV RV;go_wp2_with fail
   exact zAi rfl rfl SV.out Tryz.underlying32 rfl (by kernel_rfl) rfl bU.out
theorem zYG (S:List UInt8):fnA S<=126:=by
 unfold fnA zDA
 cases zGs S with
 | none=>simp
 | some f=>rw [<-zHD];exact zDF
theorem zXC (S:List UInt8):0<=zJB S/\zJB S<=999999999:=by
 unfold zJB;by_cases h:S≠[]/\S.length<=9/\S.head?≠Z 48/\S.all zHZ=Q
 ·have h2:zAs S=((zAs S).1,Q):=by
   have:(zAs S).2=Q:=by unfold zAs;rw [qP h]
   rw [<-this]
  have:=zCB h2;omega
 ·rw [zDr h];simp
theorem zES:SgOk s0:=⟨zBj (by decide) (by decide),zBj (by decide) (by decide),zBj (by decide) (by decide)⟩
theorem zXD (S:List UInt8):I64 (zJB S):=by have:=zXC S;exact ⟨by omega,by omega⟩
theorem zTj (S:List UInt8):I64 (fnA S:Int):=by have:=zYG S;exact zBj (by omega) (by omega)
theorem zEe:I64 0:=zBj (by decide) (by decide)
theorem zQY (T:List (List UInt8)):SgOk (zGu T).1:=by
 unfold zGu;split
 ·exact zES
 ·refine ⟨zTj _,?_,?_⟩
  ·show I64 (loF T).1;unfold loF;split
   ·exact zXD _
   ·exact zEe
  ·show I64 (piF T (loF T).2).1;unfold piF;split
   ·exact zXD _
   ·exact zEe
theorem zUj:∀(n:Nat) (P:List Sp) (T:List (List UInt8)) (ZP:List Sp) (s:Sg),zGO n P T=Z (ZP,s)->(∀x∈P,SgOk x.s)->(∀x∈ZP,SgOk x.s)/\SgOk s/\ZP.length<=P.length+T.length
 | 0,P,T,ZP,s,h,_=>by simp [zGO] at h
 | n+1,P,T,ZP,s,h,hP=>by
  rw [zGO] at h;split at h
  ·injection h with h;injection h with h1 h2
   rw [<-h1,<-h2];exact ⟨hP,zES,by omega⟩
  ·rename_i hT;split at h
   ·injection h with h;injection h with h1 h2
    rw [<-h1,<-h2];exact ⟨hP,zQY _,by omega⟩
   ·split at h
    ·cases h
    ·obtain ⟨a,b,c⟩:=zUj n _ _ ZP s h (fun x hx=>by
      rcases List.mem_append.1 hx with hx | hx
      ·exact hP x hx
      ·rw [List.mem_singleton.1 hx];exact zQY _)
     refine ⟨a,b,?_⟩;have:0 < T.length:=List.length_pos_iff.2 hT;simp only [List.length_append,List.length_cons,List.length_nil,List.length_drop] at c;omega
theorem zXE {k:Int} (h1:0<=k) (h2:k<=8):I64 k:=zBj h1 (by omega)
theorem zDy {k f:Int} {s:Sg} {b:Bool} (h1:0<=k) (h2:k<=8) (hf:I64 f) (hs:SgOk s) {P:List Sp} (hP:∀x∈P,SgOk x.s):OgOk ⟨k,f,s,P,b⟩/\∀x∈(⟨k,f,s,P,b⟩:Og).path,SgOk x.s:=⟨⟨zXE h1 h2,hf,hs⟩,hP⟩
theorem zBS:∀x∈([]:List Sp),SgOk x.s:=fun x hx=>by simp at hx
theorem zNv {f:Int} (h:I64 f):SgOk ⟨f,0,E,0⟩:=⟨h,zEe,zEe⟩
def zLf (o:Og) (m:Nat):Prop:=(OgOk o/\∀x∈o.path,SgOk x.s)/\o.path.length<=m
theorem zXF (f:Int) (hf:I64 f) (T:List (List UInt8)):zLf (zOP f T) T.length:=by
 unfold zOP
 cases h:zGO (T.length+1) [] T with
 | none=>exact ⟨zLW,by simp [o0]⟩
 | some R =>
  obtain ⟨P,s⟩:=R;obtain ⟨a,b,c⟩:=zUj _ _ _ _ _ h zBS;exact ⟨zDy (by omega) (by omega) hf b a,by simpa using c⟩
theorem zVS (T:List (List UInt8)):zLf (zJC T) T.length:=by
 have hf:=zTj (xa T 1);have h3:I64 (if 3 < T.length then (fnA (xa T 3):Int) else 0):=by split;exact zTj _;exact zEe
 have h5:SgOk (if 3 < T.length then (zGu (T.drop 3)).1 else s0):=by split;exact zQY _;exact zES
 unfold zJC;split;exact ⟨zLW,by simp [o0]⟩
 split;exact ⟨zDy (by omega) (by omega) hf zES zBS,by simp⟩
 split;exact ⟨zDy (by omega) (by omega) hf zES zBS,by simp⟩
 split;exact ⟨zDy (by omega) (by omega) hf zES zBS,by simp⟩
 split;exact ⟨zDy (by omega) (by omega) hf zES zBS,by simp⟩
 split;exact ⟨zDy (by omega) (by omega) hf h5 zBS,by simp⟩
 split
 ·refine ⟨zDy (by omega) (by omega) hf (zNv ?_) zBS,by simp⟩;split
  ·exact zTj _
  ·exact zEe
 split
 ·refine ⟨zDy (by omega) (by omega) hf (zNv ?_) zBS,by simp⟩;split
  ·exact zTj _
  ·exact zEe
 split
 ·have:=zXF _ hf (T.drop 2);exact ⟨this.1,by have:=this.2;simp only [List.length_drop] at this;omega⟩
 ·exact ⟨zDy (by omega) (by omega) hf zES zBS,by simp⟩
theorem zXG (S:List UInt8):zLf (zLl S) (S.length+1):=by
 have:=zVS (zAI 32 S);have h2:=zBp S;exact ⟨this.1,by have:=this.2;unfold zLl;omega⟩
theorem zTk (S:List UInt8):SgOk (rbF S):=by
 unfold rbF;split
 ·exact zES
 ·exact ⟨zTj _,zEe,zEe⟩
theorem zUk:∀(T:List (List UInt8)) (P ZP:List Sp),zIb T P=Z ZP->(∀x∈P,SgOk x.s)->(∀x∈ZP,SgOk x.s)/\ZP.length=P.length+T.length
 | [],P,ZP,h,hP=>by rw [zIb] at h;injection h with h;rw [<-h];exact ⟨hP,by simp⟩
 | S :: T,P,ZP,h,hP=>by
  rw [zIb] at h;split at h
  ·cases h
  ·obtain ⟨a,b⟩:=zUk T _ ZP h (fun x hx=>by
    rcases List.mem_append.1 hx with hx | hx
    ·exact hP x hx
    ·rw [List.mem_singleton.1 hx];exact zTk _)
   exact ⟨a,by simp at b ⊢;omega⟩
theorem zFI (c:UInt8) (S:List UInt8):(zAI c S).length<=S.length+1:=by
 rw [zEk];have:=List.count_le_length (a:=c) (l:=S);omega
theorem zVT (b:UInt8) (f:Int) (hf:I64 f) (R:List UInt8):zLf (zHG b f R) (R.length+1):=by
 have h5:SgOk (if R=[] then s0 else rbF R.dropLast):=by split;exact zES;exact zTk _
 unfold zHG;split;exact ⟨zDy (by omega) (by omega) hf zES zBS,by simp⟩
 split;exact ⟨zDy (by omega) (by omega) hf zES zBS,by simp⟩
 split;exact ⟨zDy (by omega) (by omega) hf zES zBS,by simp⟩
 split;exact ⟨zDy (by omega) (by omega) hf zES zBS,by simp⟩
 split;exact ⟨zDy (by omega) (by omega) hf h5 zBS,by simp⟩
 split
 ·refine ⟨zDy (by omega) (by omega) hf (zNv ?_) zBS,by simp⟩;split
  ·exact zEe
  ·exact zTj _
 split
 ·refine ⟨zDy (by omega) (by omega) hf (zNv ?_) zBS,by simp⟩;split
  ·exact zEe
  ·exact zTj _
 split
 ·unfold zQg;split
  ·split
   ·rename_i P hP;obtain ⟨a,b⟩:=zUk _ _ _ hP zBS;refine ⟨zDy (by omega) (by omega) hf (zTk _) a,?_⟩;have h1:=zFI 44 (xa (zAI 60 R) 0);have h2:(xa (zAI 60 R) 0).length<=R.length:=by
     unfold xa
     cases e:(zAI 60 R)[0]? with
     | none=>simp
     | some p=>exact zAJ 60 R p (List.mem_of_getElem? e)
    simp only [List.length_nil] at b;show P.length<=_;omega
   ·exact ⟨zLW,by simp [o0]⟩
  ·exact ⟨zDy (by omega) (by omega) hf (zTk _) zBS,by simp⟩
 ·exact ⟨zDy (by omega) (by omega) hf zES zBS,by simp⟩
theorem zXH (S:List UInt8):zLf (zJE S) (S.length+1):=by
 unfold zJE;split
 ·exact ⟨zLW,by simp [o0]⟩
 ·obtain ⟨a,b⟩:=zVT ((S[nmL S]?).getD 0) _ (zTj (S.take (nmL S))) (S.drop (nmL S+1));exact ⟨a,by simp only [List.length_drop] at b;omega⟩
theorem zOA (s:Sg) (k:Nat) (w:ZY) :
  Calls ZX 102 #[sgV s,D J (k:Int)] w fun e w'=>e=.returned (G (zAo k s))/\ZZ w.heap.size w w':=by
 have ah:ZZ w.heap.size w (w.alloc (.cells #[D J s.f,D J s.l,G s.far,D J s.pc] 29)):=(M _ _).alloc (O _) _;have HB:=qH ah;have hr:=qH (show zAo k s=(decide (1<=s.f)&&decide (s.f<=(k:Int))&&decide (0<=s.l)&&decide (s.l<=999999999)&&decide (0<=s.pc)&&decide (s.pc<=999999999)) from rfl);clear ah;go_enter Tryz.func102,Tryz.ntmps102;go_wp2_with fail
 all_goals
  go_ret;refine ⟨zBJ ?_,HB.out⟩;rw [hr.out];simp
  try omega
theorem zJT {k:Nat} {s:Sg} {b:Bool} (h:zAo k s=b) (w:ZY) :
  Calls ZX 102 #[sgV s,D J (k:Int)] w fun e w'=>e=.returned (G b)/\ZZ w.heap.size w w':=by
 subst h;exact zOA s k w
theorem zOB {k:Nat} {o:Og} (h1:1<=o.f) (h2:o.f<=(k:Int)) (hp:o.path=[]):zAf k o=zBn k o:=by
 unfold zAf;simp [h1,h2,hp]
theorem zOC {k:Nat} {o:Og} (h:o.kind≠3) (hp:o.path≠[]):zAf k o=E:=zHe fun e=>by
 rcases e.2.2 with e | e
 ·exact h e
 ·exact hp e
theorem zQZ {k:Nat} {f:Int}:zAo k ⟨f,0,E,0⟩=(decide (1<=f)&&decide (f<=(k:Int))):=by unfold zAo;simp
theorem zOD (k:Nat) (o:Og) (B:Option Addr) (m d:Nat) (w:ZY) (hO:OpIn w o B m d) :
  Calls ZX 55 #[opV o B m d,D J (k:Int)] w fun e w'=>e=.returned (G (zAf k o))/\ZZ w.heap.size w w':=by
 have hlen:=hO.path.len;have hle:=hO.path.le;obtain ⟨kind,f,⟨ff,fl,far,fpc⟩,path,over⟩:=o;simp only at hlen hle ⊢;have hP:Stps w B m path:=hO.path;have ah:ZZ w.heap.size w (w.alloc (.cells #[D J kind,D J f,D J ff,D J fl,G far,D J fpc,H B m d,G over] 32)):=(M _ _).alloc (O _) _;have hk0:Blk (w.alloc (.cells #[D J kind,D J f,D J ff,D J fl,G far,D J fpc,H B m d,G over] 32)) w.heap.size 32 #[D J kind,D J f,D J ff,D J fl,G far,D J fpc,H B m d,G over]:=Blk.new _ _ _;have dn:=qH ah;have aL:=qH hlen;have bs0:=zPP;have bs1:=zPO;obtain ⟨q,hq⟩:∃q,sgB ⟨ff,fl,far,fpc⟩ s0=q:=⟨_,rfl⟩
 have hqs:=fun w=>zXQ ⟨ff,fl,far,fpc⟩ s0 w
 simp only [hq] at hqs;rw [show sgV s0=.agg #[D J 0,D J 0,G E,D J 0] from rfl] at hqs;have HQ:=qH hq;clear hO hq ah hlen;by_cases hf:1<=f/\f<=(k:Int)
 ·obtain ⟨h1,h2⟩:=hf;have i1:¬f < 1:=by omega
  have i2:¬(k:Int) < f:=by omega
  have HF:=qH (And.intro h1 h2);clear h1 h2;by_cases h3:kind=3
  ·subst h3;obtain ⟨b,hbd⟩:∃b,zAo k ⟨ff,fl,far,fpc⟩=b:=⟨_,rfl⟩
   have iu:=qH hbd;clear hbd;go_enter Tryz.func55,Tryz.ntmps55;go_wp2_with fail
   generalize w.alloc (.cells #[D J 3,D J f,D J ff,D J fl,G far,D J fpc,H B m d,G over] 32)=Y at dn hk0 ⊢;go_loopw [6] (fun v wr=>∃i:Nat,i<=m/\v=D J i/\ZZ Y.heap.size Y wr/\Hid (∀j:Nat,j < i->zAo k (pa path j).s=Q)) (fun v _=>m-(intOf v).toNat)
   case atStart=>exact ⟨0,Nat.zero_le _,rfl,M _ _,qH (fun j hj=>by omega)⟩
   case round =>
    obtain ⟨i,hi,rfl,hbr,HS⟩:=hrel;have hkr:=hk0.below hbr hk0.lt;have hbw:=zAa dn.out hbr dn.out.size;have c2:wr.cell? ⟨w.heap.size,2,U⟩=Z (D J ff):=(hkr.cell 2).trans rfl;have c3:wr.cell? ⟨w.heap.size,3,U⟩=Z (D J fl):=(hkr.cell 3).trans rfl;have c4:wr.cell? ⟨w.heap.size,4,U⟩=Z (G far):=(hkr.cell 4).trans rfl;have c5:wr.cell? ⟨w.heap.size,5,U⟩=Z (D J fpc):=(hkr.cell 5).trans rfl;have c6:wr.cell? ⟨w.heap.size,6,U⟩=Z (H B m d):=(hkr.cell 6).trans rfl;by_cases hlt:i < m
    ·obtain ⟨g,p,rfl,hg,⟨x0,x1,x2,x3,x4⟩,_⟩:=(hP.below hbw).at_ hlt;have j0:(0:Int)<=(i:Int):=by omega
     have j1:(i:Int) < (m:Int):=by omega
     obtain ⟨bx,hbx⟩:∃b,zAo k (pa path i).s=b:=⟨_,rfl⟩
     have fB:=qH hbx;clear hbx;generalize hpx:pa path i=x at x0 x1 x2 x3 x4 fB;have lA:=qH hpx;clear hpx;go_wp2_with fail
     refine (zJT fB.out _).mono ?_;rintro e wb ⟨rfl,hbb⟩;have ai:=zAa hbr hbb hbr.size;clear x0 x1 x2 x3 x4 c2 c3 c4 c5 c6 hbr hbb hg
     cases bx with
     | true =>
      have cR:=qH (show ∀j:Nat,j < i+1->zAo k (pa path j).s=Q from fun j hj=>by
       rcases Nat.decEq j i with e | e
       ·exact HS.out j (by omega)
       ·subst e;rw [lA.out];exact fB.out)
      clear HS fB;go_wp2_with fail
      go_roundw
      case rel=>exact ⟨i+1,by omega,by go_num,ai,cR⟩
      case measure=>simp [intOf];omega
     | false =>
      have HR:=qH (show zAf k ⟨3,f,⟨ff,fl,far,fpc⟩,path,over⟩=E from zHf (i:=i) (by rw [aL.out];exact hlt) (by rw [lA.out];exact fB.out));clear HS fB;go_wp2_with fail
      go_ret;exact ⟨zBJ (by rw [HR.out]),zAa dn.out ai dn.out.size⟩
    ·have j1:¬(i:Int) < (m:Int):=by omega
     have HR:=qH (show zAf k ⟨3,f,⟨ff,fl,far,fpc⟩,path,over⟩=(b&&!over) by
      rw [zEF ⟨HF.out.1,HF.out.2,.inl rfl⟩ (fun j hj=>HS.out j (by rw [aL.out] at hj;omega))]
      unfold zBn
      rw [qN (by simp),qN (by simp),qP rfl]
      simp only
      rw [iu.out]
      cases b<;>cases over<;>rfl)
     have c7:wr.cell? ⟨w.heap.size,7,U⟩=Z (G over):=(hkr.cell 7).trans rfl;clear HS;go_wp2_with fail
     refine (zJT iu.out _).mono ?_;rintro e wb ⟨rfl,hbb⟩;have ai:=zAa hbw hbb hbw.size;have c7:wb.cell? ⟨w.heap.size,7,U⟩=Z (G over):=((hkr.below hbb hkr.lt).cell 7).trans rfl;clear c2 c3 c4 c5 c6
     cases b with
     | true =>
      go_wp2_with fail
      go_ret;exact ⟨zBJ (by rw [HR.out];simp),ai⟩
     | false =>
      go_wp2_with fail
      go_ret;exact ⟨zBJ (by rw [HR.out];simp),ai⟩
  ·obtain ⟨z,hz⟩:∃z,((m:Int)==0)=z:=⟨_,rfl⟩
   have HZ:=qH (show z=decide (path=[]) by
    rw [<-hz]
    cases path with
    | nil=>rw [show m=0 from aL.out.symm];rfl
    | cons x P=>rw [<-aL.out];simp;omega)
   have HR:=qH (show zAf k ⟨kind,f,⟨ff,fl,far,fpc⟩,path,over⟩=(z&&zBn k ⟨kind,f,⟨ff,fl,far,fpc⟩,path,over⟩) by
    rw [HZ.out]
    by_cases hp:path=[]
    ·rw [zOB HF.out.1 HF.out.2 hp];simp [hp]
    ·rw [zOC h3 hp];simp [hp])
   clear HZ aL hP hle;by_cases h1:kind=1∨kind=2∨kind=8
   ·have HE:=qH (show zBn k ⟨kind,f,⟨ff,fl,far,fpc⟩,path,over⟩=(!over&&q) by
     unfold zBn
     rw [qP h1]
     simp only
     rw [HQ.out])
    rcases h1 with rfl | rfl | rfl
    all_goals
     cases q
     ·go_enter Tryz.func55,Tryz.ntmps55;go_wp2_with fail
      go_ret;exact ⟨zBJ (by rw [HR.out,HE.out];simp),dn.out⟩
     ·cases z
      ·go_enter Tryz.func55,Tryz.ntmps55;go_wp2_with fail
       go_ret;exact ⟨zBJ (by rw [HR.out];rfl),dn.out⟩
      ·go_enter Tryz.func55,Tryz.ntmps55;go_wp2_with fail
       go_ret;exact ⟨zBJ (by rw [HR.out,HE.out];simp),dn.out⟩
   by_cases h4:kind=4
   ·subst h4
    have HE:=qH (show zBn k ⟨4,f,⟨ff,fl,far,fpc⟩,path,over⟩=q by
     unfold zBn
     rw [qN (by simp),qP rfl]
     simp only
     rw [HQ.out])
    cases q
    ·go_enter Tryz.func55,Tryz.ntmps55;go_wp2_with fail
     go_ret;exact ⟨zBJ (by rw [HR.out,HE.out];simp),dn.out⟩
    ·go_enter Tryz.func55,Tryz.ntmps55;go_wp2_with fail
     go_ret;exact ⟨zBJ (by rw [HR.out,HE.out,<-hz];simp),dn.out⟩
   by_cases h5:kind=5
   ·subst h5;obtain ⟨b,hbd⟩:∃b,zAo k ⟨ff,fl,far,fpc⟩=b:=⟨_,rfl⟩
    have iu:=qH hbd;clear hbd
    have HE:=qH (show zBn k ⟨5,f,⟨ff,fl,far,fpc⟩,path,over⟩=b by
     unfold zBn
     rw [qN (by simp),qN (by simp),qN (by simp),qP rfl]
     exact iu.out)
    go_enter Tryz.func55,Tryz.ntmps55;go_wp2_with fail
    refine (zJT iu.out _).mono ?_;rintro e wb ⟨rfl,hbb⟩;have ai:=zAa dn.out hbb dn.out.size;have hkb:=hk0.below hbb hk0.lt;have c6:wb.cell? ⟨w.heap.size,6,U⟩=Z (H B m d):=(hkb.cell 6).trans rfl
    cases b
    ·go_wp2_with fail
     go_ret;exact ⟨zBJ (by rw [HR.out,HE.out];simp),ai⟩
    ·go_wp2_with fail
     go_ret;exact ⟨zBJ (by rw [HR.out,HE.out,<-hz];simp),ai⟩
   by_cases h6:kind=6∨kind=7
   ·obtain ⟨q2,ew⟩:∃q,sgB ⟨ff,fl,far,fpc⟩ ⟨ff,0,E,0⟩=q:=⟨_,rfl⟩
    have B4:=fun w=>zXQ ⟨ff,fl,far,fpc⟩ ⟨ff,0,E,0⟩ w
    simp only [ew] at B4
    have HE:=qH (show zBn k ⟨kind,f,⟨ff,fl,far,fpc⟩,path,over⟩=(decide (1<=ff)&&decide (ff<=(k:Int))&&q2) by
     unfold zBn
     rw [qN (by omega),qN (by omega),qN (by omega),qN (by omega),qP h6]
     simp only
     rw [ew]
     cases q2 with
     | false=>simp
     | true=>rw [zED.1 ew,zQZ])
    clear ew HQ;by_cases a1:1<=ff
    ·by_cases a2:ff<=(k:Int)
     ·have nr:=qH (show zBn k ⟨kind,f,⟨ff,fl,far,fpc⟩,path,over⟩=q2 by rw [HE.out];simp [a1,a2]);rcases h6 with rfl | rfl
      all_goals
       cases q2
       ·go_enter Tryz.func55,Tryz.ntmps55;go_wp2_with fail
        go_ret;exact ⟨zBJ (by rw [HR.out,nr.out];simp),dn.out⟩
       ·go_enter Tryz.func55,Tryz.ntmps55;go_wp2_with fail
        go_ret;exact ⟨zBJ (by rw [HR.out,nr.out,<-hz];simp),dn.out⟩
     ·have nr:=qH (show zBn k ⟨kind,f,⟨ff,fl,far,fpc⟩,path,over⟩=E by rw [HE.out];simp [a2]);rcases h6 with rfl | rfl
      all_goals
       go_enter Tryz.func55,Tryz.ntmps55;go_wp2_with fail
       go_ret;exact ⟨zBJ (by rw [HR.out,nr.out];simp),dn.out⟩
    ·have nr:=qH (show zBn k ⟨kind,f,⟨ff,fl,far,fpc⟩,path,over⟩=E by rw [HE.out];simp [a1]);rcases h6 with rfl | rfl
     all_goals
      go_enter Tryz.func55,Tryz.ntmps55;go_wp2_with fail
      go_ret;exact ⟨zBJ (by rw [HR.out,nr.out];simp),dn.out⟩
   have HE:=qH (show zBn k ⟨kind,f,⟨ff,fl,far,fpc⟩,path,over⟩=E by
    unfold zBn
    rw [qN h1,qN h4,qN h3,qN h5,qN h6])
   have k1:(kind==1)=E:=by simp;omega
   have k2:(kind==2)=E:=by simp;omega
   have k8:(kind==8)=E:=by simp;omega
   have k4:(kind==4)=E:=by simp;omega
   have k3:(kind==3)=E:=by simp;omega
   have k5:(kind==5)=E:=by simp;omega
   have k6:(kind==6)=E:=by simp;omega
   have k7:(kind==7)=E:=by simp;omega
   clear h1 h3 h4 h5 h6;go_enter Tryz.func55,Tryz.ntmps55;go_wp2_with fail
   go_ret;exact ⟨zBJ (by rw [HR.out,HE.out];simp),dn.out⟩
 ·have HR:=qH (show zAf k ⟨kind,f,⟨ff,fl,far,fpc⟩,path,over⟩=E from zHe fun e=>hf ⟨e.1,e.2.1⟩);by_cases h1:f < 1
  ·go_enter Tryz.func55,Tryz.ntmps55;go_wp2_with fail
   go_ret;exact ⟨zBJ (by rw [HR.out]),dn.out⟩
  ·have h2:(k:Int) < f:=by omega
   go_enter Tryz.func55,Tryz.ntmps55;go_wp2_with fail
   go_ret;exact ⟨zBJ (by rw [HR.out]),dn.out⟩
theorem zRa {A:Option Addr} {n c:Nat} {L:List Fg} {re lo:Int} {b:Bool} (h:frB L re lo=b) (w:ZY) (hA:Fgs w A n L) :
  Calls ZX 18 #[frV A n c re lo] w fun e w'=>e=.returned (G b)/\ZZ w.heap.size w w':=by
 subst h;exact zNL A n c L re lo w hA
theorem zTl {k:Nat} {o:Og} {b:Bool} (h:zAf k o=b) (B:Option Addr) (m d:Nat) (w:ZY) (hO:OpIn w o B m d) :
  Calls ZX 55 #[opV o B m d,D J (k:Int)] w fun e w'=>e=.returned (G b)/\ZZ w.heap.size w w':=by
 subst h;exact zOD k o B m d w hO
