/-
  Lemmas, part 47. Conditions: each theorem's own.
-/
import Derived.Test.YtlmdfmnbcndhoaaGreatDoorRc43
import Derived.Test.YtlmdfmnbcndhoaaGreatDoorRc41
import Derived.Test.YtlmdfmnbcndhoaaGreatDoorRc46
open Option renaming none→U,some→Z
open Go.Value renaming bool→G,int→D,slice→H,string→W
open Go.IntKind renaming i64→J
open Bool renaming false→E,true→Q
namespace Go.Proofs.YtlmdfmnbcndhoaaGreatDoor
open Go.RowKit
theorem zRi {c:UInt8}:∀{S p:List UInt8},p∈zAN c S→p.length≤S.length
 | [],p,hp=>by simp [zAN] at hp;subst hp;simp
 | b :: l,p,hp=>by
  have ih:=fun (q:List UInt8) (h:q∈zAN c l)=>zRi h
  cases hs:zAN c l with
  | nil=>exact absurd hs (zFV c l)
  | cons q ps =>
   rw [hs] at ih;by_cases h:b=c
   ·subst h;rw [zEk,hs] at hp;rcases List.mem_cons.1 hp with rfl | hp
    ·simp
    ·have:=ih p hp;rw [List.length_cons];omega
   ·rw [zCE h hs] at hp;rcases List.mem_cons.1 hp with rfl | hp
    ·have:=ih q (List.mem_cons_self ..);rw [List.length_cons,List.length_cons];omega
    ·have:=ih p (List.mem_cons_of_mem _ hp);rw [List.length_cons];omega
theorem zTh {c:UInt8} {S:List UInt8} {i m:Nat} (hS:S.length≤m):(xa (zAN c S) i).length≤m:=by
 by_cases h:i < (zAN c S).length
 ·have:=zRi (S:=S) (c:=c) (List.mem_of_getElem? (zQK h));omega
 ·unfold xa;rw [List.getElem?_eq_none (by omega)];simp
theorem zVF {kk:Nat} {B:Option Addr} {b0 n d:Nat} {l:List Bi} {g:Nat} {M:List Int} {gs cr nu:Nat} {ZS:List Lt} (h:zGI M cr nu l n=ZS) (w:World) (hB:Row w b0 4 B n d (l.flatMap zOA)) (hln:l.length=n) (hM:OwnI w 0 g (kk+1) M) (hS:OwnI w 0 gs cr (zRu cr nu)) (hk:kk≤40) (hn:n≤20001)
  (hl:∀x∈l,0≤x.f∧x.f≤(kk:Int)∧1≤x.n∧x.n≤999999999∧(x.f=0→x.n≤(cr:Int))) (hMb:∀j,j < kk+1→∃v:Nat,M[j]? = Z (v:Int)∧v≤100000) (hM0:M[0]? = Z 0) (hcr:cr≤12) :
  Calls Tryz.prog 85 #[D J (kk:Int),H B n d,H (Z ⟨g,0,U⟩) (kk+1) (kk+1),H (Z ⟨gs,0,U⟩) cr cr] w (zHX w (kk:Int) ZS):=by
 subst h;exact zQS kk B b0 n d l g M gs cr nu w hB hln hM hS hk hn hl hMb hM0 hcr
set_option maxHeartbeats 64000000 in
set_option maxRecDepth 100000 in
theorem zGn (A:Option Addr) (n c:Nat) (F:List Fg) (re lo:Int) (S:List UInt8) (w:World) (hA:Fgs w A n F) (hv:frB F re lo=Q) :
  Calls Tryz.prog 38 #[frV A n c re lo,W (bA S)] w (zJN w (n:Int) (rqR F re lo S).1 (rqR F re lo S).2):=by
 have ez:=qH hA.len;have ma:n≤40:=by have:=(zCT.1 hv).1;rw [ez.out] at this;exact this
 have hs:=zCU S;have HV:=qH hv;obtain ⟨⟨TC,TE⟩,oE⟩:∃x,rqR F re lo S=x:=⟨_,rfl⟩
 rw [oE];simp only;have dd:=qH (fun (Cs:List (List Lt)) (er:Int) (hq:rqR F re lo S=(Cs,er)) (e:Ending) (wx:World) (h:zJN w (n:Int) Cs er e wx)=>(show zJN w (n:Int) TC TE e wx by rw [oE] at hq;injection hq with h1 h2;subst h1;subst h2;exact h));have HA:=qH hA;have HB:=qH (Below.refl w.heap.size w);obtain ⟨nS,dz⟩:∃k,S.length=k:=⟨_,rfl⟩
 rw [dz] at hs;have HN:=qH dz;clear hA hv oE dz;by_cases h8:8000 < nS
 ·have i0:(8000:Int) < (nS:Int):=by omega
  have HQ:=qH (show rqR F re lo S=([],7) by
   have h1:=zOo (re:=re) (lo:=lo) HV.out (show 8000 < S.length by rw [HN.out];exact h8)
   unfold rqR;rw [if_pos (by rw [h1];simp),h1])
  clear h8;go_enter Tryz.func38,Tryz.ntmps38;have hba:=(Below.refl w.heap.size w).alloc (Nat.le_refl _) (.cells #[H A n c,D J re,D J lo] 24);replace HA:=qH (HA.out.below hba);replace HB:=qH (zAa HB.out hba HB.out.size);have KF:=qH (Blk.new w 24 #[H A n c,D J re,D J lo]);clear hba;go_upto_region 1 with fail
  generalize w.alloc (.cells #[H A n c,D J re,D J lo] 24)=X at HA HB KF ⊢;have bY:=qH (dd.out _ _ (HQ.out) _ _ ⟨U,0,0,[],rfl,rfl,by omega,CodesOwn.none_ _ _ _,HB.out⟩);go_wp2_with fail
  go_ret2;exact bY.out
 have i0:¬(8000:Int) < (nS:Int):=by omega
 have BX:nS≤8000:=by omega
 have fz:=qH (zOn (re:=re) (lo:=lo) HV.out (show S.length≤8000 by rw [HN.out];exact BX));have n0:=zAH S zDm;clear h8;by_cases hba:S=zDm
 ·rw [show (S==zDm)=Q from by simpa using hba] at n0;unfold zDm at n0;have HQ:=qH (show rqR F re lo S=([[]],0) by unfold rqR;rw [if_neg (by rw [fz.out];simp),if_pos hba]);have bcd:=zHp (n:Int);have bsl:=zQx (n:Int) U 0 0;clear hba;go_enter Tryz.func38,Tryz.ntmps38;have hba:=(Below.refl w.heap.size w).alloc (Nat.le_refl _) (.cells #[H A n c,D J re,D J lo] 24);replace HA:=qH (HA.out.below hba);replace HB:=qH (zAa HB.out hba HB.out.size);have KF:=qH (Blk.new w 24 #[H A n c,D J re,D J lo]);clear hba;go_upto_region 1 with fail
  generalize w.alloc (.cells #[H A n c,D J re,D J lo] 24)=X at HA HB KF ⊢;have c0:X.cell? ⟨w.heap.size,0,U⟩=Z (H A n c):=(KF.out.cell 0).trans rfl;have c1:X.cell? ⟨w.heap.size,1,U⟩=Z (D J re):=(KF.out.cell 1).trans rfl;have c2:X.cell? ⟨w.heap.size,2,U⟩=Z (D J lo):=(KF.out.cell 2).trans rfl;have bY:=qH (dd.out _ _ HQ.out _ _ ⟨Z ⟨X.heap.size,0,U⟩,1,1,[⟨[],U,0,0⟩],rfl,rfl,by omega,zNd (K:=(n:Int)) HB.out.size,HB.out.alloc HB.out.size _⟩);go_wp2_with fail
  go_ret2;exact bY.out
 rw [show (S==zDm)=E from by simpa using hba] at n0;unfold zDm at n0;have yi:=qH hba;obtain ⟨T,hT⟩:∃T,zAN 32 S=T:=⟨_,rfl⟩
 obtain ⟨l,hl⟩:∃l,T.map (zGY F)=l:=⟨_,rfl⟩
 have so:=qH (show zDn F S=l by unfold zDn;rw [hT,hl]);have fS:=qH (fun w=>zNc (c:=32) hT (by rw [HN.out];omega) w);have va:=qH (show ∀i,(xa T i).length≤8000 from fun i=>by rw [←hT];exact zTh (by rw [HN.out];exact BX));have Gg:=qH (show T.length≤8001 by rw [←hT];have:=zSW 32 S;rw [HN.out] at this;omega);have HT:=qH hT;have HL:=qH hl;clear hba hT hl;go_enter Tryz.func38,Tryz.ntmps38;have hba:=(Below.refl w.heap.size w).alloc (Nat.le_refl _) (.cells #[H A n c,D J re,D J lo] 24);replace HA:=qH (HA.out.below hba);replace HB:=qH (zAa HB.out hba HB.out.size);have KF:=qH (Blk.new w 24 #[H A n c,D J re,D J lo]);clear hba;go_upto_region 1 with fail
 generalize w.alloc (.cells #[H A n c,D J re,D J lo] 24)=X at HA HB KF ⊢;go_wp2_with fail
 refine (fS.out _).mono ?_;rintro e Y ⟨B1,m1,d1,rfl,hr1,sV,hb⟩;replace HA:=qH (HA.out.below hb);replace HB:=qH (zAa HB.out hb HB.out.size);replace KF:=qH (KF.out.below hb KF.out.lt);have fo:=qH hr1;have pd:T.length=m1:=by have:=hr1.len;rw [List.length_map] at this;omega
 have mI:m1≤8001:=by rw [←pd];exact Gg.out
 have xW:=qH pd;clear hb hr1 sV pd fS Gg n0 i0 hs;go_wp2_with fail
 go_loopw [7,8,9] (fun v7 v8 v9 wv=>∃(i d2:Nat) (V:World) (A2:Option Addr) (ms:Bool),V=wv∧i≤m1∧v9=D J i∧v8=G ms∧v7=H A2 i d2∧Row V Y.heap.size 4 A2 i d2 (((T.take i).map (zGY F)).flatMap zOA)∧Below Y.heap.size Y V∧Hid (zCQ F (T.take i)=ms)∧Hid (zBY (T.take i)=E)) (fun _ _ v9 _=>m1-(intOf v9).toNat)
 case atStart=>exact ⟨0,0,_,U,E,rfl,Nat.zero_le _,rfl,rfl,rfl,Row.none_ _ _ _,Below.refl _ _,qH (by simp [zCQ]),qH (by simp [zBY,zMa])⟩
 case round =>
  obtain ⟨i,d2,V,A2,ms,hV,hi,rfl,rfl,rfl,hR,hbr,mB,dP⟩:=hrel;subst hV;have mR:=qH hbr;have pC:=qH hR;replace HA:=qH (HA.out.below hbr);replace HB:=qH (zAa HB.out hbr HB.out.size);replace KF:=qH (KF.out.below hbr KF.out.lt);replace fo:=qH (fo.out.below hbr);clear hbr hR;by_cases hlt:i < m1
  ·as_aux_lemma =>
    have j0:(0:Int)≤(i:Int):=by omega
    have j1:(i:Int) < (m1:Int):=by omega
    have wD:i < T.length:=by rw [xW.out];exact hlt
    obtain ⟨ga,oa,rfl,Bv,Bu⟩:=fo.out.form (by omega);have y0:=fo.out.cell (j:=i) (u:=W (bA (xa T i))) (by rw [List.getElem?_map,zQK wD];rfl);obtain ⟨P,hP⟩:∃P,xa T i=P:=⟨_,rfl⟩
    have uS:=va.out i;have uC:=qH (zQU wD);have iz:=qH (zOp (F:=F) wD);have ur:=qH (zLe (F:=F) wD);rw [hP] at y0 uS uC iz ur;rw [dP.out,Bool.false_or] at uC;rw [mB.out] at iz;obtain ⟨r,hr⟩:∃r,rdT P=r:=⟨_,rfl⟩
    have gH:=qH hr;have Gj:=qH (fun w=>zVt hr uS w);have on:=qH (show zBY (T.take (i+1))=Q→rqR F re lo S=([],6) from fun h=>zVv fz.out yi.out (by rw [HT.out];exact zQT h));clear hr uS hP wD mB dP Bv Bu;go_wp2_with fail
    refine (Gj.out _).mono ?_;rintro e X0 ⟨rfl,hb⟩;clear y0;replace HA:=qH (HA.out.below hb);replace HB:=qH (zAa HB.out hb HB.out.size);replace KF:=qH (KF.out.below hb KF.out.lt);replace fo:=qH (fo.out.below hb);replace mR:=qH (zAa mR.out hb mR.out.size);replace pC:=qH (pC.out.below hb);clear hb Gj;have hba:=(Below.refl X0.heap.size X0).alloc (Nat.le_refl _) (.cells #[D J r.f,D J r.n,G r.b,G r.ok] 132);have hx0:=Below.refl X0.heap.size X0;have jU:=qH hba;have kt:=Blk.new X0 132 #[D J r.f,D J r.n,G r.b,G r.ok];have DO:=qH (HA.out.below hba);have Ag:=qH (zAa HB.out hba HB.out.size);have nW:=qH (KF.out.below hba KF.out.lt);have yv:=qH (fo.out.below hba);have x9:=qH (pC.out.below hba);clear hba hx0;go_upto_region 12 with fail
    generalize X0.alloc (.cells #[D J r.f,D J r.n,G r.b,G r.ok] 132)=X1 at DO Ag nW yv x9 jU kt ⊢;obtain ⟨bP,jy⟩:∃a,X0.heap.size=a:=⟨_,rfl⟩
    have tY:X0.heap.size≤bP:=Nat.le_of_eq jy;rw [jy] at kt ⊢;clear jy;have c3:X1.cell? ⟨bP,3,U⟩=Z (G r.ok):=(kt.cell 3).trans rfl;have c0:X1.cell? ⟨bP,0,U⟩=Z (D J r.f):=(kt.cell 0).trans rfl;obtain ⟨rf,rn,rb,rk⟩:=r;simp only at c0 c3 kt ⊢
    cases rk with
    | false =>
     have HQ:=qH (on.out (by rw [uC.out,zWU (S:=P) (by rw [gH.out])];rfl));have bY:=qH (dd.out _ _ HQ.out _ _ ⟨U,0,0,[],rfl,rfl,by omega,CodesOwn.none_ _ _ _,Ag.out⟩);clear on uC;go_wp2_with fail
     go_ret2;exact bY.out
    | true =>
     have hrk:(rdT P).ok=Q:=by rw [gH.out]
     have hnum:=zWV hrk;have hz:=fun h=>zVu (F:=F) hrk h
     have hp:=fun h=>zTN (F:=F) hrk h
     rw [gH.out] at hnum hz hp;simp only at hnum hz hp;by_cases aa:i=0∧rf=0
     ·obtain ⟨hi0,hf0⟩:=aa;have HQ:=qH (on.out (by rw [uC.out,(hz hf0).2.2.1,hi0];simp));subst hi0;subst hf0
      have bY:=qH (dd.out _ _ HQ.out _ _ ⟨U,0,0,[],rfl,rfl,by omega,CodesOwn.none_ _ _ _,Ag.out⟩);clear on uC hz hp hnum hrk;go_wp2_with fail
      go_ret2;exact bY.out
     have HZ:=qH hz;have HP:=qH hp;have Dg:=qH hnum;clear hz hp hnum hrk on;go_cut [55] (fun v wv=>v=G E∧X1=wv)
     case first =>
      by_cases hi0:i=0
      ·have hf0:¬rf=0:=fun e=>aa ⟨hi0,e⟩
       have k1:(rf==0)=E:=by simpa using hf0
       subst hi0;clear aa hf0;go_wp2_with fail
       go_meet
       case rel=>exact ⟨rfl,rfl⟩
      ·have k1:((i:Int)==0)=E:=by simp;omega
       clear aa;go_wp2_with fail
       go_meet
       case rel=>exact ⟨rfl,rfl⟩
     obtain ⟨rfl,rfl⟩:=hcut;clear c3;obtain ⟨yO,sT⟩:∃b,zCQ F (T.take (i+1))=b:=⟨_,rfl⟩
     obtain ⟨⟨yf,yn,yb⟩,hy⟩:∃y,zGY F P=y:=⟨_,rfl⟩
     rw [sT] at iz;rw [hy] at ur;have Dm:=qH sT;have HY:=qH hy;clear sT hy;go_upto_if 58 with fail
     go_cut [8] (fun v8 wv=>v8=G yO∧∃ZV:World,ZV=wv∧Below X0.heap.size X0 ZV∧Blk ZV bP 132 #[D J yf,D J yn,G yb,G Q])
     case first =>
      by_cases hf0:rf=0
      ·obtain ⟨h1,h2,h3,h4⟩:=HZ.out hf0;have h5:=HY.out.symm.trans h1;injection h5 with e1 e2 e3
       subst e1;subst e2;subst e3
       have h6:=iz.out;rw [h2,Bool.or_false] at h6;subst h6;subst hf0
       have k2:decide ((0:Int) < 0)=E:=rfl;have yD:=qH jU.out;have KT:=qH kt;clear h1 h2 h3 h4 kt HZ HP iz;go_wp2_with fail
       go_meet
       case rel=>exact ⟨rfl,_,rfl,yD.out,KT.out⟩
      ·obtain ⟨f,h1,h2,h3,h4,_,_⟩:=HP.out hf0;have h7:=zMM h1;have hfa:=zXM h1;obtain ⟨q,hq⟩:∃q,zAM AL f=q+1:=⟨zAM AL f-1,by omega⟩
       rw [hq] at h2 hfa;rw [show q+1-1=q by omega] at hfa;have vX:q < 126:=by have:=hfa.2;rw [zPL] at this;exact this
       obtain ⟨k,hk⟩:∃k,zAM F f=k:=⟨_,rfl⟩
       rw [hk] at h3 h4;have pH:=qH hk;have DE:=qH hfa.1;have h5:=HY.out.symm.trans h3;injection h5 with e1 e2 e3
       subst e2;subst e3
       have hkn:k≤40:=by have:=zDo (f:=f) (L:=F);rw [hk,ez.out] at this;omega
       have h6:=iz.out;rw [h4] at h6;have Gb:=qH e1;have Gr:=qH h6;have k2:(0:Int) < rf:=by omega
       have k3:decide ((0:Int) < rf)=Q:=decide_eq_true k2;have q1:rf-1=(q:Int):=by omega
       have q2:IntKind.i64.wrap (q:Int)=(q:Int):=IntWalk.i64_in _ (by omega);have q3:(0:Int)≤(q:Int):=by omega
       have q4:(q:Int) < 126:=by omega
       have hfr:=zSX;have KT:=qH kt;clear h1 h2 h3 h4 h6 h7 hfa hq hk e1 hf0 kt HZ HP iz HY Dg;have f0:X1.cell? ⟨w.heap.size,0,U⟩=Z (H A n c):=(nW.out.cell 0).trans rfl;have f1:X1.cell? ⟨w.heap.size,1,U⟩=Z (D J re):=(nW.out.cell 1).trans rfl;have f2:X1.cell? ⟨w.heap.size,2,U⟩=Z (D J lo):=(nW.out.cell 2).trans rfl;go_upto_region 15 with fail
       go_region_with (first
        | (go_at_call 56;refine (zNl _).mono ?_;rintro e wa ⟨A3,c3',rfl,nI,hba⟩
           have hbq:Below X1.heap.size X1 wa:=by first | exact zAa ((Below.refl X1.heap.size X1).drew) hba (Nat.le_refl _) | exact zAa (Below.refl X1.heap.size X1) hba (Nat.le_refl _)
           have g0:wa.cell? ⟨w.heap.size,0,U⟩=Z (H A n c):=((nW.out.below hbq nW.out.lt).cell 0).trans rfl
           have g1:wa.cell? ⟨w.heap.size,1,U⟩=Z (D J re):=((nW.out.below hbq nW.out.lt).cell 1).trans rfl
           have g2:wa.cell? ⟨w.heap.size,2,U⟩=Z (D J lo):=((nW.out.below hbq nW.out.lt).cell 2).trans rfl
           have t0:wa.cell? ⟨bP,0,U⟩=Z (D J rf):=((KT.out.below hbq KT.out.lt).cell 0).trans rfl
           obtain ⟨ga3,oa3,rfl,hga3,⟨x0,x1,x2⟩,_⟩:=(zTL nI).at_ vX
           rw [DE.out] at x0 x1 x2)
        | (go_at_call 53;refine (zLd pH.out c re lo _ (DO.out.below (by first | exact hbq.drew | exact hbq))).mono ?_;rintro e wi ⟨rfl,hbi⟩
           have dS:Below X1.heap.size X1 wi:=by first | exact zAa hbq.drew hbi hbq.size | exact zAa hbq hbi hbq.size
           have KI:=qH (KT.out.below dS KT.out.lt)
           have t9:wi.cell? ⟨bP,0,U⟩=Z (D J rf):=(KI.out.cell 0).trans rfl
           have z9:=KI.out.frozen 0))
       all_goals
        have yE:=qH ((zAa jU.out dS jU.out.size).setCell (p:=⟨bP,0,U⟩) tY (D J (k:Int)));have uf:Blk (wi.setCell ⟨bP,0,U⟩ (D J (k:Int))) bP 132 #[D J (k:Int),D J yn,G yb,G Q]:=KI.out.set_ 0 (D J (k:Int));have uf:=qH uf;generalize wi.setCell ⟨bP,0,U⟩ (D J (k:Int))=ZU at yE uf ⊢;clear dS KI hbi hbq;have t9:ZU.cell? ⟨bP,0,U⟩=Z (D J (k:Int)):=(uf.out.cell 0).trans rfl;have z9:=uf.out.frozen 0;by_cases hk0:k=0
        ·have k5:((k:Int)==0)=Q:=by simp;omega
         have ui:=qH (show yf = -1 by rw [Gb.out,if_pos hk0]);have Dn:=qH (show yO=Q by rw [Gr.out,decide_eq_true hk0,Bool.or_true]);have ug:Blk (ZU.setCell ⟨bP,0,U⟩ (D J (-1))) bP 132 #[D J (-1),D J yn,G yb,G Q]:=uf.out.set_ 0 (D J (-1));have ug:=qH ug;have DN:=qH (yE.out.setCell (p:=⟨bP,0,U⟩) tY (D J (-1)));subst hk0
         cases ms
         all_goals
          go_wp2_with fail
          go_meet
          case rel=>exact ⟨by rw [Dn.out],_,rfl,DN.out,by rw [ui.out];exact ug.out⟩
        ·have k5:((k:Int)==0)=E:=by simp;omega
         have ui:=qH (show yf=(k:Int) by rw [Gb.out,if_neg hk0]);have Dn:=qH (show yO=ms by rw [Gr.out,decide_eq_false hk0,Bool.or_false]);clear hk0
         cases ms
         all_goals
          go_wp2_with fail
          go_meet
          case rel=>exact ⟨by rw [Dn.out],_,rfl,yE.out,by rw [ui.out];exact uf.out⟩
     case rest =>
      obtain ⟨rfl,ZV,hU,hb,ku⟩:=hcut;subst hU;clear c0 kt tY;replace HA:=qH (HA.out.below hb);replace HB:=qH (zAa HB.out hb HB.out.size);replace KF:=qH (KF.out.below hb KF.out.lt);replace fo:=qH (fo.out.below hb);replace mR:=qH (zAa mR.out hb mR.out.size);replace pC:=qH (pC.out.below hb);clear hb DO Ag nW yv x9 jU HZ HP iz;have u0:ZV.cell? ⟨bP,0,U⟩=Z (D J yf):=(ku.cell 0).trans rfl;have u1:ZV.cell? ⟨bP,1,U⟩=Z (D J yn):=(ku.cell 1).trans rfl;have u2:ZV.cell? ⟨bP,2,U⟩=Z (G yb):=(ku.cell 2).trans rfl;have u3:ZV.cell? ⟨bP,3,U⟩=Z (G Q):=(ku.cell 3).trans rfl;have btk:=zVs yf yn yb Q;have oC:i+1≤m1:=hlt;have hi9:i+1≤1000000:=by omega
      have hyu:Y.heap.size≤ZV.heap.size:=mR.out.size;clear ku;go_upto_region 10 with (at_builtin;refine zEw ?_)
      refine qH ?_;refine zWT (base:=Y.heap.size) (A:=A2) (n:=i) (c:=d2) (P:=(T.take i).map (zGY F)) rfl (.tmp 79) (.tmp 81) ?_ ?_ ⟨yf,yn,yb⟩ ?_ ?_ (i+1) ?_ ?_ ?_ ?_
      ·rfl
      ·exact pC.out
      ·rfl
      ·rfl
      ·rfl
      ·exact hi9
      ·exact hyu
      intro A4 d4 w9 hR9 aQ aL;have aJ:=pC.out.belowOf aQ hyu;have wX:Row w9 Y.heap.size 4 A4 (i+1) d4 (((T.take (i+1)).map (zGY F)).flatMap zOA):=by rw [ur.out];exact hR9
      have HBO:=qH (show zBY (T.take (i+1))=E by
       rw [uC.out]
       have hrk:(rdT P).ok=Q:=by rw [gH.out]
       have h1:=zTI P
       rw [hrk] at h1
       have h2:zIJ P=E:=by simpa using h1.symm
       rw [h2,Bool.false_or]
       by_cases e:i=0
       ·have hf:¬rf=0:=fun e2=>aa ⟨e,e2⟩
        obtain ⟨_,_,_,_,_,h3,_⟩:=zTN (F:=F) hrk (by rw [gH.out];exact hf)
        rw [h3,Bool.and_false]
       ·rw [decide_eq_false e,Bool.false_and])
      have HR9:=qH wX;have yE:=qH (mR.out.trans aJ);clear hR9 wX aQ aL aJ u0 u1 u2 u3 btk aa;go_wp2_with fail
      go_roundw
      case rel=>exact ⟨i+1,d4,_,A4,yO,rfl,oC,by go_num,rfl,rfl,HR9.out,yE.out,Dm,HBO⟩
      case measure=>simp [intOf];omega
  ·have j1:¬(i:Int) < (m1:Int):=by omega
   obtain rfl:i=m1:=by omega
   have mJ:T.take i=T:=by rw [List.take_of_length_le (by rw [xW.out];exact Nat.le_refl _)]
   have h1:=pC.out;rw [mJ,HL.out] at h1;have h2:=mB.out;rw [mJ] at h2;have h3:=dP.out;rw [mJ] at h3;have cw:=qH h1;replace mB:=qH h2;replace dP:=qH h3;have bj:=qH (show l.length=i by rw [←HL.out,List.length_map,xW.out]);have hlt2:i≤8001:=mI;clear mJ h1 h2 h3 pC fo mR hlt
   cases ms with
   | true =>
    have HQ:=qH (zVw (F:=F) fz.out yi.out (by rw [HT.out];exact dP.out) (by rw [HT.out];exact mB.out));have bY:=qH (dd.out _ _ (HQ.out) _ _ ⟨U,0,0,[],rfl,rfl,by omega,CodesOwn.none_ _ _ _,HB.out⟩);go_wp2_with fail
    go_ret2;exact bY.out
   | false =>
    as_aux_lemma =>
     have hio:=zNa dP.out mB.out;rw [HL.out,ez.out] at hio;have sr:=qH hio;have yy:=qH (show ∀x∈l,0≤x.f from fun x hx=>(hio x hx).1);have hvl:zCN l≤8001:=by have:=zGl l;rw [bj.out] at this;omega
     have w1:IntKind.i64.wrap ((n:Int)+1)=((n+1:Nat):Int):=by rw [show ((n:Int)+1)=((n+1:Nat):Int) by omega];exact IntWalk.i64_in _ (by omega)
     have w2:wrap64 ((n:Int)+1)=((n+1:Nat):Int):=by unfold wrap64;omega
     have lQ:=qH (show zBJ l=E→rqR F re lo S=([],3) from fun h=>zVx fz.out yi.out (by rw [HT.out];exact dP.out) (by rw [HT.out];exact mB.out) (by rw [so.out];exact h));have sl:=qH (show zBJ l=Q→(12 < crS F S∨400 < (zAT F S).length)→rqR F re lo S=([],7) from fun h h5=>zVy fz.out yi.out (by rw [HT.out];exact dP.out) (by rw [HT.out];exact mB.out) (by rw [so.out];exact h) h5);have yd:=qH (fun (h:zBJ l=Q) (h5:¬(12 < crS F S∨400 < (zAT F S).length)) (N:Nat) (hN:2 ^ crS F S=N) (ZS:List (List Lt)) (h6:zAI F re lo (crS F S) (zAT F S) N=ZS)=>zWW fz.out yi.out (by rw [HT.out];exact dP.out) (by rw [HT.out];exact mB.out) (by rw [so.out];exact h) h5 hN h6);have oN:=qH (show crS F S=zCN l / 2∧zAT F S=zAK (zBQ n l) l by unfold crS zAT;rw [so.out,ez.out];exact ⟨rfl,rfl⟩);clear hio;have c0:V.cell? ⟨w.heap.size,0,U⟩=Z (H A n c):=(KF.out.cell 0).trans rfl;have c1:V.cell? ⟨w.heap.size,1,U⟩=Z (D J re):=(KF.out.cell 1).trans rfl;have c2:V.cell? ⟨w.heap.size,2,U⟩=Z (D J lo):=(KF.out.cell 2).trans rfl;go_upto_region 23 with (refine zGq rfl _ _ rfl (n+1) _ rfl rfl (by first | rfl | exact w1 | exact w2 | omega) (by omega) (base:=V.heap.size) (Nat.le_refl _) ?_;intro Y2 mp aa lq)
     clear w1 w2 c0 c1 c2;obtain ⟨g,hg⟩:∃g,V.heap.size=g:=⟨_,rfl⟩
     have hgv:V.heap.size≤g:=Nat.le_of_eq hg;have iG:OwnI Y2 V.heap.size g (n+1) (zBy n (l.take 0)):=by rw [List.take_zero,zOl,←hg];exact mp
     have mF:=qH aa;rw [hg];clear hg mp aa lq;go_wp2_with fail
     go_loopw [12,13] (fun Ed v13 wv=>∃(j:Nat) (X:World),X=wv∧j≤i∧v13=D J j∧Ed=D J (zCN (l.take j):Nat)∧OwnI X V.heap.size g (n+1) (zBy n (l.take j))∧Below V.heap.size V X) (fun _ v13 _=>i-(intOf v13).toNat)
     case atStart=>exact ⟨0,_,rfl,Nat.zero_le _,rfl,by simp [zCN],iG,mF.out⟩
     case round =>
      obtain ⟨j,X,hX,hj,rfl,rfl,hO,hbx⟩:=hrel;subst hX;clear iG mF;have fy:=qH hO;have vg:=qH hbx;replace HA:=qH (HA.out.below hbx);replace HB:=qH (zAa HB.out hbx HB.out.size);replace KF:=qH (KF.out.below hbx KF.out.lt);replace cw:=qH (cw.out.below hbx);clear hO hbx;by_cases hjl:j < i
      ·have j0:(0:Int)≤(j:Int):=by omega
       have j2:(j:Int) < (i:Int):=by omega
       have hjn:j < l.length:=by rw [bj.out];exact hjl
       obtain ⟨gt,ot,rfl,hgt,x0,x1,x2,x3⟩:=zJU cw.out hjn hjl;have hmem:=List.mem_of_getElem? (zCK hjn);have hbd:=sr.out _ hmem;have xX:=qH (zVz hjn);obtain ⟨y,hy⟩:∃y,ba l j=y:=⟨_,rfl⟩
       rw [hy] at x0 hbd xX;have hvn:=zGl (l.take j);rw [List.length_take] at hvn;obtain ⟨vn,hvv⟩:∃v,zCN (l.take j)=v:=⟨_,rfl⟩
       rw [hvv] at hvn ⊢;have pB:=qH hvv;have te:j+1≤i:=hjl;clear x1 x2 x3 hmem hy hvv hgt hjn;obtain ⟨yf,yn,yb⟩:=y;simp only at x0 hbd;by_cases hf:0 < yf
       ·obtain ⟨q,rfl⟩:∃q:Nat,yf=(q:Int):=⟨yf.toNat,by omega⟩
        have hqn:q < n+1:=by omega
        have e1:=fy.out.cell (zCo n (l.take j) hqn);have hcn:=zGk (l.take j) (q:Int);rw [List.length_take] at hcn;obtain ⟨v,hv⟩:∃v,zHW (l.take j) (q:Int)=v:=⟨_,rfl⟩
        have jB:=fy.out.stored q ((v:Int)+1);rw [←hv,zOk n (l.take j) (b:=⟨(q:Int),yn,yb⟩) hf rfl,←xX.out,hv] at jB;rw [hv] at e1 hcn;have z1:=fy.out.frozen q;have gJ:=qH (vg.out.setCell (p:=⟨g,q,U⟩) hgv (D J ((v:Int)+1)));have Df:=qH jB;have C1:=qH (show zCN (l.take (j+1))=vn by rw [xX.out,zTz hf,pB.out]);have k1:decide ((0:Int) < (q:Int))=Q:=decide_eq_true hf;have k2:(0:Int) < (q:Int):=hf;have i7:(0:Int)≤(q:Int):=by omega
        have i8:(q:Int) < ((n+1:Nat):Int):=by omega
        have i9:(q:Int) < (n:Int)+1:=by omega
        clear hv hf hqn jB hbd;go_wp2_with fail
        go_roundw
        case rel=>exact ⟨j+1,_,rfl,te,by go_num,by rw [C1.out],Df.out,gJ.out⟩
        case measure=>simp [intOf];omega
       ·have hf0:yf=0:=by omega
        subst hf0;have C1:=qH (show zCN (l.take (j+1))=vn+1 by rw [xX.out,zQb (by simp),pB.out]);have Df:=qH (show OwnI X V.heap.size g (n+1) (zBy n (l.take (j+1))) by rw [xX.out,zMk n (l.take j) (b:=⟨0,yn,yb⟩) (by simp)];exact fy.out);have k1:decide ((0:Int) < 0)=E:=rfl;have gJ:=vg;clear hf hbd;go_wp2_with fail
        go_roundw
        case rel=>exact ⟨j+1,_,rfl,te,by go_num,by rw [C1.out];go_num,Df.out,gJ.out⟩
        case measure=>simp [intOf];omega
      ·have j2:¬(j:Int) < (i:Int):=by omega
       obtain rfl:j=i:=by omega
       have mJ:l.take j=l:=by rw [List.take_of_length_le (by rw [bj.out];exact Nat.le_refl _)]
       rw [mJ];have h1:=fy.out;rw [mJ] at h1;replace fy:=qH h1;obtain ⟨vn,hvv⟩:∃v,zCN l=v:=⟨_,rfl⟩
       rw [hvv] at hvl oN ⊢;have pB:=qH hvv;clear mJ h1 hjl hvv vg;go_wp2_with fail
       have nt:Hid (∀i,i < 0→zRt l (ba l i)=E∧∀k,k < i→zEU (ba l i) (ba l k)=E):=qH (fun i hi=>absurd hi (Nat.not_lt_zero _));go_loopw [14] (fun v14 wv=>∃(a:Nat) (ZS:World),ZS=wv∧a≤j∧v14=D J a∧Below X.heap.size X ZS∧Hid (∀i,i < a→zRt l (ba l i)=E∧∀k,k < i→zEU (ba l i) (ba l k)=E)) (fun v14 _=>j-(intOf v14).toNat)
       case atStart=>exact ⟨0,_,rfl,Nat.zero_le _,rfl,Below.refl _ _,nt⟩
       case round =>
        obtain ⟨a,ZS,hQ,ha,rfl,hbq,jS⟩:=hrel;subst hQ;have GF:=qH hbq;replace HA:=qH (HA.out.below hbq);replace HB:=qH (zAa HB.out hbq HB.out.size);replace KF:=qH (KF.out.below hbq KF.out.lt);replace cw:=qH (cw.out.below hbq);replace fy:=qH (fy.out.below hbq fy.out.lt);clear hbq nt;by_cases hal:a < j
        ·as_aux_lemma =>
          have a0:(0:Int)≤(a:Int):=by omega
          have a1:(a:Int) < (j:Int):=by omega
          have han:a < l.length:=by rw [bj.out];exact hal
          obtain ⟨gt,ot,rfl,hgt,x0,x1,x2,_⟩:=zJU cw.out han hal;have hbd:=sr.out _ (List.mem_of_getElem? (zCK han));obtain ⟨y,hy⟩:∃y,ba l a=y:=⟨_,rfl⟩
          rw [hy] at x0 x1 x2 hbd;obtain ⟨ov,hov⟩:∃b,zRt l y=b:=⟨_,rfl⟩
          have uA:=qH (show ov=Q→zBJ l=E from fun h=>zSY yy.out han (by rw [hy,hov,h]));have zM:=qH hy;have aZ:=qH hov;have yw:=qH hgt;have sd:=qH (show ZS.cell? ⟨gt,ot+a*4,U⟩=Z (D J y.f)∧ZS.cell? ⟨gt,ot+a*4+1,U⟩=Z (D J y.n)∧ZS.cell? ⟨gt,ot+a*4+2,U⟩=Z (G y.b) from ⟨x0,x1,x2⟩);have td:a+1≤j:=hal;have lO:=qH (fun k=>zAe (Below.refl ZS.heap.size ZS) k);clear hy han hgt x2;go_upto_region 33 with fail
          go_cut [158] (fun v wv=>v=G ov∧∃ZV:World,ZV=wv∧Below ZS.heap.size ZS ZV)
          case first =>
           obtain ⟨yf,yn,yb⟩:=y;simp only at x0 x1 hbd;have dv:=aZ.out;unfold zRt at dv;simp only at dv;clear sd zM uA aZ;by_cases hf:0 < yf
           ·obtain ⟨q,rfl⟩:∃q:Nat,yf=(q:Int):=⟨yf.toNat,by omega⟩
            have hqn:q < n+1:=by omega
            have e1:=fy.out.cell (zCo n l hqn);have hcn:=zGk l (q:Int);rw [bj.out] at hcn;obtain ⟨v,hv⟩:∃v,zHW l (q:Int)=v:=⟨_,rfl⟩
            rw [hv] at e1 hcn dv;have kq:((q:Int)==0)=E:=by simp;omega
            have Ew:(0:Int) < (q:Int):=hf;have Ex:0 < q:=by omega
            rw [decide_eq_true hf,Bool.true_and,kq,Bool.false_and,Bool.or_false] at dv;have i7:(0:Int)≤(q:Int):=by omega
            have i8:(q:Int) < ((n+1:Nat):Int):=by omega
            have i9:(q:Int) < (n:Int)+1:=by omega
            have dQ:=qH dv;clear hf hqn hv dv
            cases ov with
            | true =>
             have c1:(v:Int) < yn:=by have:=dQ.out;simpa using this
             clear dQ;go_quiet (fail)
             go_wp2_with fail
             go_meet
             case rel=>exact ⟨rfl,_,rfl,lO.out _⟩
            | false =>
             have c1:¬(v:Int) < yn:=by have:=dQ.out;simpa using this
             clear dQ;go_quiet (fail)
             go_wp2_with fail
             go_meet
             case rel=>exact ⟨rfl,_,rfl,lO.out _⟩
           ·have hf0:yf=0:=by omega
            subst hf0;rw [decide_eq_false hf,Bool.false_and,Bool.false_or,show ((0:Int)==0)=Q from rfl,Bool.true_and,pB.out] at dv;have dQ:=qH dv;have w1:IntKind.i64.wrap (2*yn)=2*yn:=IntWalk.i64_in _ (by omega);have w2:wrap64 (2*yn)=2*yn:=by unfold wrap64;omega
            clear hf dv
            cases ov with
            | true =>
             have c1:(vn:Int) < 2*yn:=by have:=dQ.out;simpa using this
             clear dQ;go_quiet (fail)
             go_wp2_with fail
             go_meet
             case rel=>exact ⟨rfl,_,rfl,lO.out _⟩
            | false =>
             have c1:¬(vn:Int) < 2*yn:=by have:=dQ.out;simpa using this
             clear dQ;go_quiet (fail)
             go_wp2_with fail
             go_meet
             case rel=>exact ⟨rfl,_,rfl,lO.out _⟩
          case rest =>
           obtain ⟨rfl,ZV,hU,hb⟩:=hcut;subst hU;have r9:=qH (show gt < ZV.heap.size∧ZV.cell? ⟨gt,ot+a*4,U⟩=Z (D J y.f)∧ZV.cell? ⟨gt,ot+a*4+1,U⟩=Z (D J y.n)∧ZV.cell? ⟨gt,ot+a*4+2,U⟩=Z (G y.b) from ⟨Nat.lt_of_lt_of_le yw.out hb.size,(hb.cell (p:=⟨gt,ot+a*4,U⟩) yw.out).trans sd.out.1,(hb.cell (p:=⟨gt,ot+a*4+1,U⟩) yw.out).trans sd.out.2.1,(hb.cell (p:=⟨gt,ot+a*4+2,U⟩) yw.out).trans sd.out.2.2⟩);have DK:=qH (zAa GF.out hb GF.out.size);replace HA:=qH (HA.out.below hb);replace HB:=qH (zAa HB.out hb HB.out.size);replace KF:=qH (KF.out.below hb KF.out.lt);replace cw:=qH (cw.out.below hb);replace fy:=qH (fy.out.below hb fy.out.lt);clear hb x0 x1 sd yw lO
           cases ov with
           | true =>
            have oK:=qH (lQ.out (uA.out rfl));have bY:=qH (dd.out _ _ (oK.out) _ _ ⟨U,0,0,[],rfl,rfl,by omega,CodesOwn.none_ _ _ _,HB.out⟩);clear jS aZ;go_wp2_with fail
            go_ret2;exact bY.out
           | false =>
            have vU:Hid (∀k,k < 0→zEU y (ba l k)=E):=qH (fun k hk=>absurd hk (Nat.not_lt_zero _));clear uA;go_wp2_with fail
            go_loopw [15] (fun v15 wv=>∃(b:Nat) (R:World),R=wv∧b≤a∧v15=D J b∧Below ZV.heap.size ZV R∧Hid (∀k,k < b→zEU y (ba l k)=E)) (fun v15 _=>a-(intOf v15).toNat)
            case atStart=>exact ⟨0,_,rfl,Nat.zero_le _,rfl,Below.refl _ _,vU⟩
            case round =>
             obtain ⟨b,R,hR,hb,rfl,hbr,mA⟩:=hrel;subst hR;have yB:=qH hbr;have DJ:=qH (zAa DK.out hbr DK.out.size);have Gc:=qH (show gt < R.heap.size∧R.cell? ⟨gt,ot+a*4,U⟩=Z (D J y.f)∧R.cell? ⟨gt,ot+a*4+1,U⟩=Z (D J y.n)∧R.cell? ⟨gt,ot+a*4+2,U⟩=Z (G y.b) from ⟨Nat.lt_of_lt_of_le r9.out.1 hbr.size,(hbr.cell (p:=⟨gt,ot+a*4,U⟩) r9.out.1).trans r9.out.2.1,(hbr.cell (p:=⟨gt,ot+a*4+1,U⟩) r9.out.1).trans r9.out.2.2.1,(hbr.cell (p:=⟨gt,ot+a*4+2,U⟩) r9.out.1).trans r9.out.2.2.2⟩);replace HA:=qH (HA.out.below hbr);replace HB:=qH (zAa HB.out hbr HB.out.size);replace KF:=qH (KF.out.below hbr KF.out.lt);replace cw:=qH (cw.out.below hbr);replace fy:=qH (fy.out.below hbr fy.out.lt);clear hbr vU r9 DK;by_cases hbl:b < a
             ·have b0:(0:Int)≤(b:Int):=by omega
              have b1:(b:Int) < (a:Int):=by omega
              have b2:(b:Int) < (j:Int):=by omega
              have a0:(0:Int)≤(a:Int):=by omega
              have a1:(a:Int) < (j:Int):=by omega
              have hbn:b < l.length:=by rw [bj.out];omega
              obtain ⟨gt2,ot2,he2,_,z0,z1,z2,_⟩:=zJU cw.out hbn (show b < j by omega);injection he2 with he2
              injection he2 with he3 he4
              subst he3;subst he4
              obtain ⟨x0,x1,x2⟩:=Gc.out.2;obtain ⟨z,hz⟩:∃z,ba l b=z:=⟨_,rfl⟩
              rw [hz] at z0 z1 z2;obtain ⟨sm,hsm⟩:∃s,zEU y z=s:=⟨_,rfl⟩
              have C3:=qH hsm;have uA:=qH (show sm=Q→zBJ l=E from fun h=>zSZ yy.out (i:=a) (k:=b) (by rw [bj.out];exact hal) hbl (by rw [zM.out,hz,hsm,h]));have Ga:=qH hz;have lO:=qH (fun k=>zAe (Below.refl R.heap.size R) k);have bg:b+1≤a:=hbl;clear hz hsm hbn;go_upto_region 38 with fail
              go_cut [208] (fun v wv=>v=G sm∧∃T':World,T'=wv∧Below R.heap.size R T')
              case first =>
               obtain ⟨yf,yn,yb⟩:=y;obtain ⟨zf,zn,zb⟩:=z;simp only at x0 x1 x2 z0 z1 z2;have fZ:=C3.out;unfold zEU at fZ;simp only at fZ;have dB:=qH fZ;clear fZ C3 uA Ga Gc zM aZ mA jS;by_cases q1:yf=zf
               ·subst q1;have k1:(yf==yf)=Q:=by simp
                by_cases q2:yn=zn
                ·subst q2;have k2:(yn==yn)=Q:=by simp
                 by_cases q3:0 < yf
                 ·have k3:(0:Int) < yf:=q3;have k4:decide ((0:Int) < yf)=Q:=decide_eq_true q3;obtain rfl:Q=sm:=by rw [←dB.out,k1,k2,k4];rfl
                  clear dB q3;go_quiet (fail)
                  go_wp2_with fail
                  go_meet
                  case rel=>exact ⟨rfl,_,rfl,lO.out _⟩
                 ·have k3:¬(0:Int) < yf:=q3;have k4:decide ((0:Int) < yf)=E:=decide_eq_false q3;obtain rfl:(yb==zb)=sm:=by rw [←dB.out,k1,k2,k4];rfl
                  clear dB q3
                  cases yb<;>cases zb
                  all_goals
                   go_quiet (fail)
                   go_wp2_with fail
                   go_meet
                   case rel=>exact ⟨rfl,_,rfl,lO.out _⟩
                ·have k2:(yn==zn)=E:=by simpa using q2
                 obtain rfl:E=sm:=by rw [←dB.out,k1,k2];rfl
                 clear dB;go_quiet (fail)
                 go_wp2_with fail
                 go_meet
                 case rel=>exact ⟨rfl,_,rfl,lO.out _⟩
               ·have k1:(yf==zf)=E:=by simpa using q1
                obtain rfl:E=sm:=by rw [←dB.out,k1];rfl
                clear dB;go_quiet (fail)
                go_wp2_with fail
                go_meet
                case rel=>exact ⟨rfl,_,rfl,lO.out _⟩
              case rest =>
               obtain ⟨rfl,T',hT',hbt⟩:=hcut;subst hT';have DL:=qH (zAa yB.out hbt yB.out.size);replace HA:=qH (HA.out.below hbt);replace HB:=qH (zAa HB.out hbt HB.out.size);replace KF:=qH (KF.out.below hbt KF.out.lt);replace cw:=qH (cw.out.below hbt);replace fy:=qH (fy.out.below hbt fy.out.lt);clear hbt x0 x1 x2 z0 z1 z2
               cases sm with
               | true =>
                have oK:=qH (lQ.out (uA.out rfl));have bY:=qH (dd.out _ _ (oK.out) _ _ ⟨U,0,0,[],rfl,rfl,by omega,CodesOwn.none_ _ _ _,HB.out⟩);clear jS mA;go_wp2_with fail
                go_ret2;exact bY.out
               | false =>
                have Dk:=qH (show ∀k,k < b+1→zEU y (ba l k)=E from fun k hk=>by
                 by_cases e:k=b
                 ·rw [e,Ga.out];exact C3.out
                 ·exact mA.out k (by omega))
                clear jS mA uA;go_wp2_with fail
                go_roundw
                case rel=>exact ⟨b+1,_,rfl,bg,by go_num,DL.out,Dk⟩
                case measure=>simp [intOf];omega
             ·have b1:¬(b:Int) < (a:Int):=by omega
              have Dh:=qH (show ∀i,i < a+1→zRt l (ba l i)=E∧∀k,k < i→zEU (ba l i) (ba l k)=E from fun i hi=>by
               by_cases e:i=a
               ·rw [e,zM.out];exact ⟨aZ.out,fun k hk=>mA.out k (by omega)⟩
               ·exact jS.out i (by omega))
              clear jS mA;go_wp2_with fail
              go_roundw
              case rel=>exact ⟨a+1,_,rfl,td,by go_num,DJ.out,Dh⟩
              case measure=>simp [intOf];omega
        ·have a1:¬(a:Int) < (j:Int):=by omega
         obtain rfl:a=j:=by omega
         have yh:=qH (show ∀i,i < l.length→zRt l (ba l i)=E∧∀k,k < i→zEU (ba l i) (ba l k)=E from by rw [bj.out];exact jS.out);obtain ⟨cr,hcr⟩:∃c,vn / 2=c:=⟨_,rfl⟩
         obtain ⟨m2,da⟩:∃c,vn % 2=c:=⟨_,rfl⟩
         have t1:(vn:Int).tdiv 2=(cr:Int):=by rw [Int.tdiv_eq_ediv_of_nonneg (by omega)];omega
         have t2:(vn:Int) / 2=(cr:Int):=by omega
         have t3:(vn:Int).tmod 2=(m2:Int):=by rw [Int.tmod_eq_emod_of_nonneg (by omega)];omega
         have t4:(vn:Int) % 2=(m2:Int):=by omega
         have t5:IntKind.i64.wrap (cr:Int)=(cr:Int):=IntWalk.i64_in _ (by omega);have t6:IntKind.i64.wrap (m2:Int)=(m2:Int):=IntWalk.i64_in _ (by omega);have ul:=qH (And.intro t1 (And.intro t2 t5));rw [hcr] at oN;have DI:=qH (show m2≠0→zBJ l=E from fun h=>zTa yy.out (by rw [pB.out,da];exact h));have DH:=qH (show m2=0→zBJ l=Q from fun h=>(zHb yy.out).2 ⟨yh.out,by rw [pB.out,da];exact h⟩);have hcr9:cr≤8001:=by omega
         clear hcr da jS hal;by_cases hm0:m2=0
         rotate_left
         ·have k1:((m2:Int) != 0)=Q:=by simp;omega
          have k2:((m2:Int)==0)=E:=by simp;omega
          have oK:=qH (lQ.out (DI.out hm0));have bY:=qH (dd.out _ _ (oK.out) _ _ ⟨U,0,0,[],rfl,rfl,by omega,CodesOwn.none_ _ _ _,HB.out⟩);clear DI DH hm0;go_wp2_with fail
          go_ret2;exact bY.out
         have k1:((m2:Int) != 0)=E:=by simp;omega
         have k2:((m2:Int)==0)=Q:=by simp;omega
         have DG:=qH (DH.out hm0);clear DI DH hm0;go_upto_region 42 with fail
         clear t3 t4 t6;obtain ⟨QL,hQL⟩:∃q,2*a-vn=q:=⟨_,rfl⟩
         have hva:vn≤a:=by rw [←pB.out,←bj.out];exact zGl l
         have di:=qH (show (zAK (zBQ n l) l).length=QL by have:=zKY (M:=zBQ n l) yy.out;rw [pB.out,bj.out] at this;omega);have u1:(2:Int)*(a:Int)-(vn:Int)=(QL:Int):=by omega
         have u2:IntKind.i64.wrap (2*(a:Int))=2*(a:Int):=IntWalk.i64_in _ (by omega);have u3:IntKind.i64.wrap (QL:Int)=(QL:Int):=IntWalk.i64_in _ (by omega);clear hQL;by_cases h7:12 < cr∨400 < QL
         ·have oK:=qH (sl.out DG.out (by rw [oN.out.1,oN.out.2,di.out];exact h7));have bY:=qH (dd.out _ _ (oK.out) _ _ ⟨U,0,0,[],rfl,rfl,by omega,CodesOwn.none_ _ _ _,HB.out⟩);by_cases h12:12 < cr
          ·have d1:(12:Int) < (cr:Int):=by omega
           clear h7;go_wp2_with fail
           go_ret2;exact bY.out
          ·have d1:¬(12:Int) < (cr:Int):=by omega
           have d2:(400:Int) < (QL:Int):=by omega
           clear h7;go_wp2_with fail
           go_ret2;exact bY.out
         have d1:¬(12:Int) < (cr:Int):=by omega
         have d2:¬(400:Int) < (QL:Int):=by omega
         have eZ:cr≤12:=by omega
         obtain ⟨N,hN⟩:∃N,2 ^ cr=N:=⟨_,rfl⟩
         have E6:N≤4096:=by rw [←hN];exact Nat.le_trans (Nat.pow_le_pow_right (by omega) eZ) (by decide)
         obtain ⟨L,hL⟩:∃L,zAK (zBQ n l) l=L:=⟨_,rfl⟩
         rw [hL] at di oN;have yc:=qH (fun (ZS:List (List Lt)) (h6:zAI F re lo cr L N=ZS)=>yd.out DG.out (by rw [oN.out.1,oN.out.2,di.out];exact h7) N (by rw [oN.out.1];exact hN) ZS (by rw [oN.out.1,oN.out.2];exact h6))
         have Ds:=qH (show ∀nu,zGI (zBy n l) cr nu l a=zBB cr nu L from fun nu=>by
          rw [zQR n cr nu l (fun x hx=>by have:=sr.out x hx;omega),←bj.out,zSE (fun x hx _=>by have:=sr.out x hx;omega),hL])
         have nX:=qH (zNe eZ hN)
         have Dy:=qH (show ∀x∈l,0≤x.f∧x.f≤(n:Int)∧1≤x.n∧x.n≤999999999∧(x.f=0→x.n≤(cr:Int)) from fun x hx=>by
          have h1:=sr.out x hx
          refine ⟨h1.1,h1.2.1,h1.2.2.1,h1.2.2.2,fun h0=>?_⟩
          have h2:=zNb DG.out hx h0
          rw [pB.out] at h2
          have:=h2.1
          omega)
         have pF:=qH (show ∀q,q < n+1→∃v:Nat,(zBy n l)[q]? = Z (v:Int)∧v≤100000 from fun q hq=>⟨_,zCo n l hq,by have:=zGk l (q:Int);rw [bj.out] at this;omega⟩);have Dp:=qH (show (zBy n l)[0]? = Z 0 by rw [zCo n l (by omega)];rw [show ((0:Nat):Int)=0 from rfl,zSq l (Int.le_refl _)];rfl);have nZ:=qH (show OwnI ZS 0 g (n+1) (zBy n l) from ⟨fy.out.blk,Nat.zero_le _,fy.out.len⟩);clear hN hL h7 yd sl lQ yh fy;have uB:=qH HB.out.size;go_upto_region 46 with (refine zGq rfl _ _ rfl cr _ rfl rfl (by first | rfl | exact t1 | exact t2 | exact t5 | omega) (by omega) (base:=ZS.heap.size) (Nat.le_refl _) ?_;intro Z0 tP aa lq)
         clear t1 t2 t5 u1 u2 u3 d1 d2;obtain ⟨gs,hg⟩:∃g,ZS.heap.size=g:=⟨_,rfl⟩
         have hgs:ZS.heap.size≤gs:=Nat.le_of_eq hg;have mM:OwnI Z0 ZS.heap.size gs cr (List.replicate cr 0):=by rw [←hg];exact tP
         have Gd:=qH (show RqW ZS Z0 gs cr (List.replicate cr 0) w.heap.size (n:Int) U 0 0 [] from ⟨mM,CodesOwn.none_ _ _ _,fun k hk=>(by cases hk),fun e he=>(by cases he),aa⟩);have vT:Hid (List.map (fun x:Ce=>x.L) ([]:List Ce)=zAI F re lo cr L 0):=qH rfl;rw [hg];clear hg tP aa lq mM;go_wp2_with fail
         go_loopw [16,18] (fun v16 v18 wv=>∃(nu m:Nat) (X5:World) (A':Option Addr) (c':Nat) (Es:List Ce) (Z':List Int),X5=wv∧nu≤N∧m≤nu∧v18=D J nu∧v16=H A' m c'∧Hid (RqW ZS X5 gs cr Z' w.heap.size (n:Int) A' m c' Es)∧Hid (List.map (fun x:Ce=>x.L) Es=zAI F re lo cr L nu)) (fun _ v18 _=>N-(intOf v18).toNat)
         case atStart=>exact ⟨0,0,_,U,0,[],_,rfl,Nat.zero_le _,Nat.zero_le _,rfl,rfl,Gd,vT⟩
         case round =>
          obtain ⟨nu,mE,X5,A',c',Es,Z',nD,hnu,hmn,rfl,rfl,uX,HS⟩:=hrel;subst nD;clear vT Gd;by_cases hlt:nu < N
          ·as_aux_lemma =>
            have j0:(0:Int)≤(nu:Int):=by omega
            have j1:(nu:Int) < (N:Int):=by omega
            have hw0:(0:Int)≤(cr:Int):=by omega
            have Bb:nu < 4096:=by omega
            have lZ:nu+1≤N:=hlt;have sV:mE+1≤nu+1:=by omega
            have nA:mE+1≤1000000:=by omega
            have da:mE≤nu+1:=by omega
            obtain ⟨M,hM⟩:∃M,zBB cr nu L=M:=⟨_,rfl⟩
            obtain ⟨ZT,hE⟩:∃ZT,zAy (n:Int) M=ZT:=⟨_,rfl⟩
            obtain ⟨pb,hpb⟩:∃p,zCJ M=p:=⟨_,rfl⟩
            obtain ⟨po,hpo⟩:∃p,zCc F re lo (F.length:Int) M=p:=⟨_,rfl⟩
            have hcd:=zQD HV.out M;rw [hpo,ez.out,hE,hpb] at hcd;have GC:=qH hcd;have HE:=qH hE;have pE:=qH hpb;have sn:=qH (show zGI (zBy n l) cr nu l a=M by rw [Ds.out,hM]);have uy:=qH (fun (h:po=Q)=>zHZ (F:=F) (re:=re) (lo:=lo) (cr:=cr) (L:=L) (m:=nu) (by rw [hM,hpo,h]));have oj:=qH (fun (h:po=E)=>zIP (F:=F) (re:=re) (lo:=lo) (cr:=cr) (L:=L) (m:=nu) (by rw [hM,hpo,h]));rw [hM] at uy;clear hM hE hpb hpo hcd hlt;obtain ⟨t1,t2,t5⟩:=ul.out;obtain ⟨p1,p2,p3,p4⟩:=nX.out;go_upto_region 49 with fail
            clear t1 t2 t5 p1 p2 p3 p4 j1;go_wp2_with fail
            go_loopw [19] (fun v19 wv=>∃(j2:Nat) (Z2:List Int) (V2:World),V2=wv∧j2≤cr∧v19=D J j2∧Hid (RqW ZS V2 gs cr Z2 w.heap.size (n:Int) A' mE c' Es)∧Hid (SgnTo cr nu j2 Z2)) (fun v19 _=>cr-(intOf v19).toNat)
            case atStart=>exact ⟨0,Z',_,rfl,Nat.zero_le _,rfl,uX,qH ⟨uX.out.sg.len,fun i hi=>absurd hi (Nat.not_lt_zero _)⟩⟩
            case round =>
             obtain ⟨j2,Z2,V2,BN,EH,rfl,iL,mN⟩:=hrel;subst BN;by_cases hjc:j2 < cr
             ·have b0:(0:Int)≤(j2:Int):=by omega
              have b1:(j2:Int) < (cr:Int):=by omega
              obtain ⟨cq,hcq⟩:∃c,cr=c+1:=⟨cr-1,by omega⟩
              obtain ⟨k,hk⟩:∃k,cr-1-j2=k:=⟨_,rfl⟩
              have g1:(cr:Int)-1=(cq:Int):=by omega
              have g2:(cq:Int)-(j2:Int)=(k:Int):=by omega
              have g3:(0:Int)≤(k:Int):=by omega
              obtain ⟨q,hq⟩:∃q,nu >>> k=q:=⟨_,rfl⟩
              have hdiv:(nu:Int) / 2 ^ k=(q:Int):=by rw [←hq,Nat.shiftRight_eq_div_pow];simp
              have hq4:q < 4096:=by rw [←hq];exact Nat.lt_of_le_of_lt (Nat.shiftRight_le _ _) Bb
              obtain ⟨b,hb⟩:∃b,q % 2=b:=⟨_,rfl⟩
              have u9:=qH (show sgD cr nu j2=if b=1 then 1 else -1 by unfold sgD;rw [hk,hq,hb]);have g4:(q:Int).tmod 2=(b:Int):=by rw [Int.tmod_eq_emod_of_nonneg (by omega)];omega
              have g5:(q:Int) % 2=(b:Int):=by omega
              have hjl:j2 < Z2.length:=by rw [mN.out.1];exact hjc
              obtain ⟨zv,hzv⟩:∃z,Z2[j2]? = Z z:=⟨_,List.getElem?_eq_getElem hjl⟩
              have e1:=iL.out.sg.cell hzv;have z1:=iL.out.sg.frozen j2;have oH:=qH (iL.out.store j2 (-1));have te:j2+1≤cr:=hjc;have Dx:=qH hjc;clear hk hq hb hcq hzv hjl hq4;go_upto_region 53 with fail
              clear e1 z1;generalize V2.setCell ⟨gs,j2,U⟩ (D J (-1))=V3 at oH ⊢;by_cases hb:b=1
              ·have r1:((b:Int)==1)=Q:=by rw [hb];rfl
               have my:=qH (show SgnTo cr nu (j2+1) (Z2.set j2 1) from mN.out.put Dx.out (by rw [u9.out,if_pos hb]));have EG:j2 < (Z2.set j2 (-1)).length:=by rw [List.length_set,mN.out.1];exact Dx.out
               obtain ⟨zv,hzv⟩:∃z,(Z2.set j2 (-1))[j2]? = Z z:=⟨_,List.getElem?_eq_getElem EG⟩
               have e2:=oH.out.sg.cell hzv;have z2:=oH.out.sg.frozen j2;have xV:=qH (show RqW ZS (V3.setCell ⟨gs,j2,U⟩ (D J 1)) gs cr (Z2.set j2 1) w.heap.size (n:Int) A' mE c' Es by have h1:=oH.out.store j2 1;rwa [List.set_set] at h1);subst hb;clear hzv EG;go_wp2_with fail
               go_roundw
               case rel=>exact ⟨j2+1,_,_,rfl,te,by go_num,xV,my⟩
               case measure=>simp [intOf];omega
              ·have r1:((b:Int)==1)=E:=by simp;omega
               have my:=qH (show SgnTo cr nu (j2+1) (Z2.set j2 (-1)) from mN.out.put Dx.out (by rw [u9.out,if_neg hb]));clear hb;go_wp2_with fail
               go_roundw
               case rel=>exact ⟨j2+1,_,_,rfl,te,by go_num,oH,my⟩
               case measure=>simp [intOf];omega
             ·have b1:¬(j2:Int) < (cr:Int):=by omega
              obtain rfl:j2=cr:=by omega
              replace iL:=qH (show RqW ZS V2 gs j2 (zRu j2 nu) w.heap.size (n:Int) A' mE c' Es by rw [←mN.out.all];exact iL.out);have hbq:=iL.out.old;replace HA:=qH (HA.out.below hbq);replace HB:=qH (zAa HB.out hbq HB.out.size);replace KF:=qH (KF.out.below hbq KF.out.lt);replace cw:=qH (cw.out.below hbq);replace nZ:=qH (nZ.out.below hbq nZ.out.lt);clear hbq mN uX hjc;have c0:V2.cell? ⟨w.heap.size,0,U⟩=Z (H A n c):=(KF.out.cell 0).trans rfl;have c1:V2.cell? ⟨w.heap.size,1,U⟩=Z (D J re):=(KF.out.cell 1).trans rfl;have c2:V2.cell? ⟨w.heap.size,2,U⟩=Z (D J lo):=(KF.out.cell 2).trans rfl;have Gh:=qH (show OwnI V2 0 gs j2 (zRu j2 nu) from ⟨iL.out.sg.blk,Nat.zero_le _,iL.out.sg.len⟩);have Be:a≤20001:=by omega
              go_wp2_with fail
              refine (zVF sn.out _ cw.out bj.out nZ.out Gh.out ma Be Dy.out pF.out Dp.out eZ).mono ?_;rintro e X6 ⟨B5,m5,d5,rfl,iF,ao⟩;clear c0 c1 c2 Gh;have oH:=qH (iL.out.next ao);replace HA:=qH (HA.out.below ao);replace HB:=qH (zAa HB.out ao HB.out.size);replace KF:=qH (KF.out.below ao KF.out.lt);replace cw:=qH (cw.out.below ao);replace nZ:=qH (nZ.out.below ao nZ.out.lt);have A5:=iL.out.sg.lt;have hlow:=fun k hk=>(iL.out.co.row.lt k hk).2
              have uz:=qH (show m5≤d5 from iF.row.cap);have hbl:=(Below.refl X6.heap.size X6).alloc (Nat.le_refl _) (.cells #[D J (n:Int),H B5 m5 d5] 55);have gr:=qH (fun k (hk:blk B5=Z k)=>(show (k < (X6.alloc (.cells #[D J (n:Int),H B5 m5 d5] 55)).heap.size∧blk A'≠Z k)∧k≠gs from ⟨⟨Nat.lt_of_lt_of_le (iF.row.lt k hk).2 hbl.size,fun e2=>by have h1:=(iF.row.lt k hk).1;have h2:=hlow k e2;omega⟩,by have h1:=(iF.row.lt k hk).1;omega⟩));have zZ:=qH (iF.lets.below hbl);have xV:=qH (oH.out.next hbl);have sD:Blk (X6.alloc (.cells #[D J (n:Int),H B5 m5 d5] 55)) X6.heap.size 55 #[D J (n:Int),H B5 m5 d5]:=Blk.new _ _ _;replace HA:=qH (HA.out.below hbl);replace HB:=qH (zAa HB.out hbl HB.out.size);replace KF:=qH (KF.out.below hbl KF.out.lt);replace cw:=qH (cw.out.below hbl);replace nZ:=qH (nZ.out.below hbl nZ.out.lt);clear hbl iF ao hlow A5 iL oH;go_upto_region 56 with fail
              generalize X6.alloc (.cells #[D J (n:Int),H B5 m5 d5] 55)=X7 at sD xV zZ gr HA HB KF cw nZ ⊢;generalize X6.heap.size=a20 at sD ⊢;have u0:X7.cell? ⟨a20,0,U⟩=Z (D J (n:Int)):=(sD.cell 0).trans rfl;have u1:X7.cell? ⟨a20,1,U⟩=Z (H B5 m5 d5):=(sD.cell 1).trans rfl;go_wp2_with fail
              clear u0 u1;refine (zRg HE.out _ zZ.out).mono ?_;rintro e X8 ⟨rfl,bg⟩;have pG:=qH (fun k (hk:blk B5=Z k)=>(show (k < X8.heap.size∧blk A'≠Z k)∧k≠gs from ⟨⟨Nat.lt_of_lt_of_le (gr.out k hk).1.1 bg.size,(gr.out k hk).1.2⟩,(gr.out k hk).2⟩));have fm:=qH (xV.out.next bg);have zY:=qH (zZ.out.below bg);have k8:=sD.below bg sD.lt;clear sD xV zZ gr bg;by_cases hE0:ZT=0
              ·have kE:(ZT==0)=Q:=by simpa using hE0
               subst hE0;have u0:X8.cell? ⟨a20,0,U⟩=Z (D J (n:Int)):=(k8.cell 0).trans rfl;have u1:X8.cell? ⟨a20,1,U⟩=Z (H B5 m5 d5):=(k8.cell 1).trans rfl;go_wp2_with fail
               clear u0 u1;refine (zRh pE.out HE.out _ zY.out).mono ?_;rintro e X9 ⟨rfl,aJ⟩;have yo:=qH (fun k (hk:blk B5=Z k)=>(show (k < X9.heap.size∧blk A'≠Z k)∧k≠gs from ⟨⟨Nat.lt_of_lt_of_le (pG.out k hk).1.1 aJ.size,(pG.out k hk).1.2⟩,(pG.out k hk).2⟩));have xU:=qH (fm.out.next aJ);have fK:=qH (zY.out.below aJ);have k9:=k8.below aJ k8.lt;have iM:=qH (show po=pb by rw [GC.out];simp);clear k8 fm zY pG aJ
               cases pb with
               | false =>
                have HF:=qH (show List.map (fun x:Ce=>x.L) Es=zAI F re lo j2 L (nu+1) by rw [oj.out iM.out];exact HS.out);clear k9 fK HS;go_wp2_with fail
                go_roundw
                case rel=>exact ⟨nu+1,mE,_,A',c',Es,_,rfl,lZ,da,by go_num,rfl,xU,HF⟩
                case measure=>simp [intOf];omega
               | true =>
                have HF:=qH (show List.map (fun x:Ce=>x.L) (Es++[(⟨M,B5,m5,d5⟩:Ce)])=zAI F re lo j2 L (nu+1) by rw [uy.out iM.out,List.map_append,HS.out];rfl);have u0:X9.cell? ⟨a20,0,U⟩=Z (D J (n:Int)):=(k9.cell 0).trans rfl;have u1:X9.cell? ⟨a20,1,U⟩=Z (H B5 m5 d5):=(k9.cell 1).trans rfl;have AO:w.heap.size≤X9.heap.size:=Nat.le_trans uB.out xU.out.old.size;have bcs:=zQx (n:Int) B5 m5 d5;clear k9 HS;go_upto_region 48 with (at_builtin;refine zEw ?_)
                refine qH ?_;refine zWG (base:=w.heap.size) (K:=(n:Int)) (A:=A') (n:=mE) (c:=c') (Es:=Es) (y:=⟨M,B5,m5,d5⟩) (N:=mE+1) rfl (.tmp 268) (.tmp 270) ?_ ?_ ?_ ?_ ?_ ?_ ?_ ?_
                ·rfl
                ·exact xU.out.co.row
                ·rfl
                ·rfl
                ·rfl
                ·exact nA
                ·exact AO
                intro A2' c2' w9 hR9 aQ aL;have HWB:=qH (xU.out.push ⟨M,B5,m5,d5⟩ ⟨fK.out,fun k hk=>(yo.out k hk).1⟩ uz.out (fun k hk=>(yo.out k hk).2) hR9 aQ aL);clear xU fK hR9 aQ aL u0 u1 bcs;go_wp2_with fail
                go_roundw
                case rel=>exact ⟨nu+1,mE+1,_,A2',c2',_,_,rfl,lZ,sV,by go_num,rfl,HWB,HF⟩
                case measure=>simp [intOf];omega
              ·have kE:(ZT==0)=E:=by simpa using hE0
               have iM:=qH (show po=E by rw [GC.out,kE];rfl);have HF:=qH (show List.map (fun x:Ce=>x.L) Es=zAI F re lo j2 L (nu+1) by rw [oj.out iM.out];exact HS.out);clear k8 zY HS hE0;go_wp2_with fail
               go_roundw
               case rel=>exact ⟨nu+1,mE,_,A',c',Es,_,rfl,lZ,da,by go_num,rfl,fm,HF⟩
               case measure=>simp [intOf];omega
          ·have j1:¬(nu:Int) < (N:Int):=by omega
           have hw0:(0:Int)≤(cr:Int):=by omega
           obtain rfl:nu=N:=by omega
           have hlen:=uX.out.co.len;have vg:=qH (zAa HB.out uX.out.old HB.out.size);have oK:=qH (yc.out _ HS.out.symm);by_cases hm0:mE=0
           ·have hes:Es=[]:=List.length_eq_zero_iff.1 (by rw [hlen,hm0]);have h1:=oK.out;rw [hes] at h1;have bY:=qH (dd.out _ _ (show rqR F re lo S=([],3) from h1) _ X5 ⟨U,0,0,[],rfl,rfl,by omega,CodesOwn.none_ _ _ _,vg.out⟩);subst hm0;clear hlen hes h1 hlt;obtain ⟨t1,t2,t5⟩:=ul.out;obtain ⟨p1,p2,p3,p4⟩:=nX.out;go_wp2_with fail
            go_ret2;exact bY.out
           ·have i5:((mE:Int)==0)=E:=by simp;omega
            have hne:List.map (fun x:Ce=>x.L) Es≠[]:=fun e=>by
             have h2:=congrArg List.length e;rw [List.length_map,hlen] at h2;exact hm0 h2
            have h1:=oK.out;rw [if_neg hne] at h1;have bY:=qH (dd.out _ _ h1 _ X5 ⟨A',mE,c',Es,rfl,rfl,by omega,uX.out.co,vg.out⟩);clear hlen hne h1 hm0 hlt;obtain ⟨t1,t2,t5⟩:=ul.out;obtain ⟨p1,p2,p3,p4⟩:=nX.out;go_wp2_with fail
            go_ret2;exact bY.out
end Go.Proofs.YtlmdfmnbcndhoaaGreatDoor
