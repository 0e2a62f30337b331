/-
  Lemmas. Conditions: each one's own.
-/
import Derived.Test.YtlmdfmnbcndhoaaGreatDoorRt22
open Go.RowKit
set_option maxHeartbeats 12800000
set_option maxRecDepth 100000
open Go.Value renaming bool->G,int->D,slice->H,string->W
open Go.IntKind renaming i64->J
open Go.RowKit renaming Below->ZZ
open Go renaming World->ZY
open Go.Proofs.Tryz renaming prog->ZX
open Option renaming none->U,some->Z
open Bool renaming false->E,true->Q
open Go.RowKit.Below renaming refl->M
open Nat renaming le_refl->O
namespace Go.Proofs.YtlmdfmnbcndhoaaGreatDoor
theorem zCk {S:List UInt8} {k:Nat} (h:fnA S=k) (w:ZY):Calls ZX 99 #[W (bA S)] w fun e w'=>e=.returned (D J (k:Int))/\ZZ w.heap.size w w':=by
 subst h;exact zMr S w
theorem Txts.below {w w':ZY} {A:Option Addr} {n:Nat} {T:List (List UInt8)} (h:Txts w A n T) (hb:ZZ w.heap.size w w'):Txts w' A n T:=Els.below h hb
theorem Txts.cell {w:ZY} {g o n:Nat} {T:List (List UInt8)} (h:Txts w (Z ⟨g,o,U⟩) n T) {j:Nat} (hj:j < n):g < w.heap.size/\w.cell? ⟨g,o+j,U⟩=Z (W (bA (xa T j))):=by
 obtain ⟨g',o',e,hb,hc⟩:=h.2.2 (by omega);injection e with e
 injection e with e1 e2
 subst e1;subst e2
 have hx:T[j]? = Z (xa T j):=by unfold xa;rw [List.getElem?_eq_getElem (by rw [h.len];exact hj)];rfl
 have:=hc j _ hx 0 _ rfl;rw [show o+j*1+0=o+j by omega] at this;exact ⟨hb,this⟩
theorem Txts.is {w:ZY} {A:Option Addr} {n:Nat} {T:List (List UInt8)} (h:Txts w A n T) (hn:0 < n):∃g o,A=Z ⟨g,o,U⟩:=by
 obtain ⟨g,o,e,_⟩:=h.2.2 hn;exact ⟨g,o,e⟩
theorem zXy (f:Int) (b:Bool) (w:ZY):(Instr.build 29 #[(0,D J f),(2,G b)]).run ZX w=.ok (.agg #[D J f,D J 0,G b,D J 0]) w:=run_build w _ _ _ (by kernel_rfl)
theorem zYE {T:List (List UInt8)} {q:Bool} (h:(decide (4<=T.length)&&(xa T 2==zBX))=q):loF T=if q then (zJB (xa T 3),4) else (0,2):=by
 subst h;unfold loF;simp
theorem zYF {T:List (List UInt8)} {k:Nat} {q:Bool} (h:(decide (k+2<=T.length)&&(xa T k==zBd))=q):piF T k=if q then (zJB (xa T (k+1)),k+2) else (0,k):=by
 subst h;unfold piF;simp
theorem zUe {T:List (List UInt8)} (h:T.length < 2∨(neT (xa T 1)=E/\faT (xa T 1)=E)):zGu T=(s0,0):=by
 unfold zGu;rw [qP];rcases h with h | ⟨h1,h2⟩
 ·exact .inl h
 ·exact .inr ⟨by simpa [neT] using h1,by simpa [faT] using h2⟩
theorem zVP {T:List (List UInt8)} (h:¬T.length < 2) (h2:neT (xa T 1)=Q∨faT (xa T 1)=Q) :
  zGu T=(⟨fnA (xa T 0),(loF T).1,faT (xa T 1),(piF T (loF T).2).1⟩,(piF T (loF T).2).2):=by
 unfold zGu;rw [qN];rintro (e | ⟨e1,e2⟩)
 ·exact h e
 ·rcases h2 with h2 | h2
  ·exact e1 (by simpa [neT] using h2)
  ·exact e2 (by simpa [faT] using h2)
theorem zEb {B:Nat} {a b:ZY} {o:Obj} (hB:B<=b.heap.size) (h:ZZ B a b):ZZ B a (b.alloc o):=h.alloc hB o
theorem Blk.storeL4 {w:ZY} {g:Nat} {t:TypeId} {v0 v1 v2 v3:Value} (h:Blk w g t #[v0,v1,v2,v3]) (u0 u1 u2 u3:Value) :
  Blk ((((w.setCell ⟨g,0,U⟩ u0).setCell ⟨g,1,U⟩ u1).setCell ⟨g,2,U⟩ u2).setCell ⟨g,3,U⟩ u3) g t #[u0,u1,u2,u3]:=(((h.set_ 0 _).set_ 1 _).set_ 2 _).set_ 3 _
theorem zBa {a w:ZY} {g B:Nat} (h:ZZ B a w) (hB:B<=g) (u0 u1 u2 u3:Value) :
  ZZ B a ((((w.setCell ⟨g,0,U⟩ u0).setCell ⟨g,1,U⟩ u1).setCell ⟨g,2,U⟩ u2).setCell ⟨g,3,U⟩ u3) :=
 (((h.setCell (p:=⟨g,0,U⟩) hB _).setCell (p:=⟨g,1,U⟩) hB _).setCell (p:=⟨g,2,U⟩) hB _).setCell (p:=⟨g,3,U⟩) hB _
theorem zJR (A:Option Addr) (n c:Nat) (T:List (List UInt8)) (w:ZY) (hA:Txts w A n T) :
  Calls ZX 100 #[H A n c] w fun e w'=>e=.returned (.tuple #[sgV (zGu T).1,D J ((zGu T).2:Int)])/\ZZ w.heap.size w w':=by
 have hle:=hA.le;have bo:=qH hA.len;have hba:ZZ w.heap.size w (w.alloc (.cells #[D J 0,D J 0,G E,D J 0] 29)):=(M _ _).alloc (O _) _;have hka:Blk (w.alloc (.cells #[D J 0,D J 0,G E,D J 0] 29)) w.heap.size 29 #[D J 0,D J 0,G E,D J 0]:=Blk.new _ _ _;have wL:=hA.below hba;have HA0:=qH hA;by_cases h2:n < 2
 ·have HR:=qH (zUe (T:=T) (.inl (by rw [bo.out];exact h2)));have i0:(n:Int) < 2:=by omega
  clear hA h2 wL;go_enter Tryz.func100,Tryz.ntmps100;go_upto_region 1 with fail
  generalize w.alloc (.cells #[D J 0,D J 0,G E,D J 0] 29)=X at hba hka ⊢;obtain ⟨c0,c1,c2,c3⟩:=cQ4 hka;have z0:=hka.frozen 0;have z1:=hka.frozen 1;have z2:=hka.frozen 2;have z3:=hka.frozen 3;have HS:=qH (Blk.storeL4 hka (D J 0) (D J 0) (G E) (D J 0));have ri:=qH (zBa hba (O w.heap.size) (D J 0) (D J 0) (G E) (D J 0));clear hba hka;go_wp2_with fail
  (try simp only [Exit.inBlock,Exit.then])
  exact zAF rfl rfl rfl HS.out Tryz.underlying29 rfl (by kernel_rfl) rfl ⟨by rw [HR.out];rfl,ri.out⟩
 have i0:¬(n:Int) < 2:=by omega
 obtain ⟨g,o,rfl⟩:=hA.is (by omega);obtain ⟨hg,x0⟩:=wL.cell (j:=0) (by omega);obtain ⟨_,x1⟩:=wL.cell (j:=1) (by omega);have j1:(1:Int) < (n:Int):=by omega
 have j2:0 < n:=by omega
 rw [show o+0=o from rfl] at x0;have hnl:¬T.length < 2:=by rw [bo.out];exact h2
 have D4:=qH wL;obtain ⟨W1,de⟩:∃ZO,xa T 1=ZO:=⟨_,rfl⟩
 obtain ⟨W0,cA⟩:∃ZO,xa T 0=ZO:=⟨_,rfl⟩
 rw [de] at x1;rw [cA] at x0;have n1:=zAp W1 [110,101,97,114];have n2:=zAp W1 [102,97,114];obtain ⟨b1,ay⟩:∃b,neT W1=b:=⟨_,rfl⟩
 obtain ⟨b2,ai⟩:∃b,faT W1=b:=⟨_,rfl⟩
 rw [show (W1==[110,101,97,114])=b1 from ay] at n1;rw [show (W1==[102,97,114])=b2 from ai] at n2;by_cases hbb:b1=E/\b2=E
 ·obtain ⟨rfl,rfl⟩:=hbb;have HR:=qH (zUe (T:=T) (.inr ⟨by rw [de];exact ay,by rw [de];exact ai⟩));clear hA wL hnl de cA ay ai h2;go_enter Tryz.func100,Tryz.ntmps100;go_upto_region 1 with fail
  generalize w.alloc (.cells #[D J 0,D J 0,G E,D J 0] 29)=X at hba hka x0 x1 hg D4 ⊢;obtain ⟨c0,c1,c2,c3⟩:=cQ4 hka;have z0:=hka.frozen 0;have z1:=hka.frozen 1;have z2:=hka.frozen 2;have z3:=hka.frozen 3;have HS:=qH (Blk.storeL4 hka (D J 0) (D J 0) (G E) (D J 0));have ri:=qH (zBa hba (O w.heap.size) (D J 0) (D J 0) (G E) (D J 0));clear hba hka;go_wp2_with fail
  (try simp only [Exit.inBlock,Exit.then])
  exact zAF rfl rfl rfl HS.out Tryz.underlying29 rfl (by kernel_rfl) rfl ⟨by rw [HR.out];rfl,ri.out⟩
 have uT:b1=Q∨b2=Q:=by cases b1<;>cases b2<;>simp at hbb ⊢
 have HR:=qH (zVP hnl (by rw [de,ay,ai];exact uT));rw [de,ai,cA] at HR;obtain ⟨F0,hF0⟩:∃k,fnA W0=k:=⟨_,rfl⟩
 rw [hF0] at HR;have qd:=qH (fun w=>zCk hF0 w);have HTST:=qH (show (b1 != Q&&b2 != Q)=E by cases b1<;>cases b2<;>simp at hbb ⊢);clear hA wL hnl de cA ay ai h2 hbb hF0;obtain ⟨l1,N1,hlo⟩:∃l k,loF T=(l,k):=⟨_,_,rfl⟩
 obtain ⟨p1,N2,hpi⟩:∃l k,piF T N1=(l,k):=⟨_,_,rfl⟩
 simp only [hlo,hpi] at HR;have zU:=qH hlo;have HPI:=qH hpi;rw [HR.out];clear HR hlo hpi;go_enter Tryz.func100,Tryz.ntmps100;go_upto_region 1 with fail
 generalize w.alloc (.cells #[D J 0,D J 0,G E,D J 0] 29)=X at hba hka x0 x1 hg D4 ⊢;have vX:=qH hba;have tZ:=qH hka;have HX:=qH (show g < X.heap.size/\X.cell? ⟨g,o,U⟩=Z (W (bA W0))/\X.cell? ⟨g,o+1,U⟩=Z (W (bA W1)) from ⟨hg,x0,x1⟩);have KP:=qH (show ∀wx,ZZ X.heap.size X wx->(ZZ X.heap.size X wx/\wx.cell? ⟨g,o,U⟩=Z (W (bA W0))/\wx.cell? ⟨g,o+1,U⟩=Z (W (bA W1))) from fun wx h=>⟨h,(h.cell (p:=⟨g,o,U⟩) HX.out.1).trans HX.out.2.1,(h.cell (p:=⟨g,o+1,U⟩) HX.out.1).trans HX.out.2.2⟩);clear hba hka hg;have hsplit:∃q:Bool,(b1=Q/\q=Q)∨(b1=E/\b2=Q/\q=Q):=by
  cases b1
  ·exact ⟨Q,.inr ⟨rfl,by simpa using uT,rfl⟩⟩
  ·exact ⟨Q,.inl ⟨rfl,rfl⟩⟩
 clear uT;go_upto_region 1 with fail
 go_cut [20] (fun v20 wv=>v20=G E/\X=wv)
 case first =>
  rcases hsplit with ⟨q,⟨rfl,_⟩ | ⟨rfl,rfl,_⟩⟩
  ·go_wp2_with fail
   go_meet
   case rel=>exact ⟨rfl,rfl⟩
  ·go_wp2_with fail
   go_meet
   case rel=>exact ⟨rfl,rfl⟩
 case rest =>
  obtain ⟨rfl,hX⟩:=hcut;subst hX;clear x0 x1;go_upto_region 3 with fail
  go_cut [4] (fun v4 wv=>∃(V:ZY) (b4:Nat),V=wv/\v4=.pointer (Z ⟨b4,0,U⟩)/\Blk V b4 29 #[D J (F0:Int),D J 0,G b2,D J 0]/\X.heap.size<=b4/\ZZ X.heap.size X V)
  case first =>
   go_region_held3 (fun wx=>ZZ X.heap.size X wx/\wx.cell? ⟨g,o,U⟩=Z (W (bA W0))/\wx.cell? ⟨g,o+1,U⟩=Z (W (bA W1))) (first | (with_reducible refine KP.out _ ?_;repeat (first | with_reducible assumption | with_reducible exact And.left (by assumption) | ((with_reducible refine zBa ?_ ?_ _ _ _ _);rotate_left;(focus first | omega | (simp;done) | (simp;omega))) | with_reducible exact M _ _ | with_reducible apply Below.drew | ((with_reducible refine zEb ?_ ?_);focus (first | omega | (simp;done) | (simp;omega))))))
    (first | (go_at_call 99;refine (qd.out _).mono ?_;rintro e wd ⟨rfl,hbd⟩;have hbq:ZZ X.heap.size X wd:=zAa (And.left (by assumption)) hbd (Below.size (And.left (by assumption)));have hz:=Below.size hbq;(try (refine (fun (bW:Blk wd X.heap.size 29 #[D J 0,D J 0,G E,D J 0])=>?_) (Blk.below ?_ hbd ?_);rotate_left;(focus first | exact Blk.drew (Blk.new _ _ _) | exact Blk.new _ _ _);(focus first | (simp;done) | (simp;omega));have Ak:wd.cell? ⟨X.heap.size,0,U⟩=Z (D J 0):=(bW.cell 0).trans rfl;have AY:=bW.frozen 0;have Aj:wd.cell? ⟨X.heap.size,1,U⟩=Z (D J 0):=(bW.cell 1).trans rfl;have AX:=bW.frozen 1;have Ai:wd.cell? ⟨X.heap.size,2,U⟩=Z (G E):=(bW.cell 2).trans rfl;have AW:=bW.frozen 2;have Ah:wd.cell? ⟨X.heap.size,3,U⟩=Z (D J 0):=(bW.cell 3).trans rfl;have AV:=bW.frozen 3))))
   all_goals
    go_wp2_with fail
    go_meet
   all_goals refine ⟨_,_,rfl,rfl,?_,?_,?_⟩
   all_goals first
    | with_reducible exact Blk.new _ _ _
    | with_reducible exact hz
    | with_reducible exact hbq.alloc hz _
    | with_reducible exact Blk.storeL4 bW (D J (F0:Int)) (D J 0) (G b2) (D J 0)
    | with_reducible exact O _
    | with_reducible exact zBa hbq (O _) (D J (F0:Int)) (D J 0) (G b2) (D J 0)
  case rest =>
   obtain ⟨V,b4,hV,rfl,k4,hge,hbv⟩:=hcut;subst hV;have hbw:=zAa vX.out hbv vX.out.size;have Ds:=qH (D4.out.below hbv);have nZ:=qH (tZ.out.below hbv tZ.out.lt);have hlt:w.heap.size < b4:=Nat.lt_of_lt_of_le tZ.out.lt hge;clear hbv hge
   -- loop
   obtain ⟨q,hq⟩:∃q,(decide (4<=T.length)&&(xa T 2==zBX))=q:=⟨_,rfl⟩
   have wT:=qH (zU.out.symm.trans (zYE hq));rw [bo.out] at hq;have HQ:=qH hq;have vP:=qH k4;have vW:=qH hbw;clear hq k4 hbw;go_upto_region 5 with fail
   go_cut [42] (fun v42 wv=>v42=G q/\V=wv)
   case first =>
    by_cases h4:4<=n
    ·have i4:(2:Int)+2<=(n:Int):=by omega
     have i5:(4:Int)<=(n:Int):=by omega
     have x2:=(Ds.out.cell (j:=2) (by omega)).2;have n3:=zAp (xa T 2) zBX;have ew:(xa T 2==zBX)=q:=by rw [<-HQ.out,decide_eq_true h4,Bool.true_and]
     rw [ew] at n3;have j4:(2:Int) < (n:Int):=by omega
     generalize xa T 2=W2 at x2 n3;clear ew h4;go_wp2_with fail
     go_meet
     case rel=>exact ⟨rfl,rfl⟩
    ·have i4:¬(4:Int)<=(n:Int):=by omega
     have ew:q=E:=by rw [<-HQ.out,decide_eq_false h4];rfl
     subst ew;clear h4;go_wp2_with fail
     go_meet
     case rel=>exact ⟨rfl,rfl⟩
   case rest =>
    obtain ⟨rfl,hV⟩:=hcut;subst hV;go_upto_if 42 with fail
    go_cut [5] (fun v5 wv=>∃ZS:ZY,ZS=wv/\v5=D J (N1:Int)/\Blk ZS b4 29 #[D J (F0:Int),D J l1,G b2,D J 0]/\Blk ZS w.heap.size 29 #[D J 0,D J 0,G E,D J 0]/\ZZ w.heap.size w ZS)
    case first =>
     cases q with
     | false =>
      obtain ⟨rfl,rfl⟩:l1=0/\N1=2:=by have h:=wT.out;rw [qN (by simp)] at h;exact ⟨congrArg Prod.fst h,congrArg Prod.snd h⟩
      go_wp2_with fail
      go_meet
      case rel=>exact ⟨_,rfl,rfl,vP.out,nZ.out,vW.out⟩
     | true =>
      have h4:4<=n:=by have h:=HQ.out;simp only [Bool.and_eq_true,decide_eq_true_eq] at h;exact h.1
      obtain ⟨ik,rfl⟩:l1=zJB (xa T 3)/\N1=4:=by have h:=wT.out;rw [qP rfl] at h;exact ⟨congrArg Prod.fst h,congrArg Prod.snd h⟩
      have zS:=qH (fun w=>zII ik.symm w);have x3:=(Ds.out.cell (j:=3) (by omega)).2;have i6:(3:Int) < (n:Int):=by omega
      generalize xa T 3=W3 at x3 zS ik;clear ik h4;go_wp2_with fail
      refine (zS.out _).mono ?_;rintro e ZS ⟨rfl,hbu⟩;have qg:=vP.out.below hbu vP.out.lt;have kkr:=nZ.out.below hbu nZ.out.lt;have hbw:=zAa vW.out hbu vW.out.size;have y1:ZS.cell? ⟨b4,1,U⟩=Z (D J 0):=(qg.cell 1).trans rfl;have yz:=qg.frozen 1;have RS:=qH (show Blk (ZS.setCell ⟨b4,1,U⟩ (D J l1)) b4 29 #[D J (F0:Int),D J l1,G b2,D J 0]/\Blk (ZS.setCell ⟨b4,1,U⟩ (D J l1)) w.heap.size 29 #[D J 0,D J 0,G E,D J 0]/\ZZ w.heap.size w (ZS.setCell ⟨b4,1,U⟩ (D J l1)) from ⟨qg.set_ 1 _,kkr.far (p:=⟨b4,1,U⟩) (Nat.ne_of_lt hlt) _,hbw.setCell (p:=⟨b4,1,U⟩) (Nat.le_of_lt hlt) _⟩);clear qg kkr hbw hbu;go_wp2_with fail
      go_meet
      case rel=>exact ⟨_,rfl,rfl,RS.out⟩
    case rest =>
     obtain ⟨ZS,hU,rfl,k4,kr,hbw⟩:=hcut;subst hU;have hN1:N1<=4:=by have h:=wT.out;cases q<;>simp at h<;>omega
     have Gw:=qH (HA0.out.below hbw);obtain ⟨q2,ew⟩:∃q,(decide (N1+2<=T.length)&&(xa T N1==zBd))=q:=⟨_,rfl⟩
     have GJ:=qH (HPI.out.symm.trans (zYF ew));rw [bo.out] at ew;have nX:=qH ew;have vP:=qH k4;have DR:=qH kr;have vW:=qH hbw;clear ew k4 kr hbw Ds nZ wT HQ;go_upto_region 8 with fail
     go_cut [63] (fun v63 wv=>v63=G q2/\ZS=wv)
     case first =>
      by_cases h4:N1+2<=n
      ·have i4:(N1:Int)+2<=(n:Int):=by omega
       have x2:=(Gw.out.cell (j:=N1) (by omega)).2;have n3:=zAp (xa T N1) zBd;have Ay:(xa T N1==zBd)=q2:=by rw [<-nX.out,decide_eq_true h4,Bool.true_and]
       rw [Ay] at n3;have j4:(N1:Int) < (n:Int):=by omega
       have j5:(0:Int)<=(N1:Int):=by omega
       generalize xa T N1=W2 at x2 n3;clear Ay h4;go_wp2_with fail
       go_meet
       case rel=>exact ⟨rfl,rfl⟩
      ·have i4:¬(N1:Int)+2<=(n:Int):=by omega
       have Ay:q2=E:=by rw [<-nX.out,decide_eq_false h4];rfl
       subst Ay;clear h4;go_wp2_with fail
       go_meet
       case rel=>exact ⟨rfl,rfl⟩
     case rest =>
      obtain ⟨rfl,hV⟩:=hcut;subst hV;go_upto_if 63 with fail
      go_cut [5] (fun v5 wv=>∃V:ZY,V=wv/\v5=D J (N2:Int)/\Blk V b4 29 #[D J (F0:Int),D J l1,G b2,D J p1]/\Blk V w.heap.size 29 #[D J 0,D J 0,G E,D J 0]/\ZZ w.heap.size w V)
      case first =>
       cases q2 with
       | false =>
        obtain ⟨rfl,rfl⟩:p1=0/\N2=N1:=by have h:=GJ.out;rw [qN (by simp)] at h;exact ⟨congrArg Prod.fst h,congrArg Prod.snd h⟩
        go_wp2_with fail
        go_meet
        case rel=>exact ⟨_,rfl,rfl,vP.out,DR.out,vW.out⟩
       | true =>
        have h4:N1+2<=n:=by have h:=nX.out;simp only [Bool.and_eq_true,decide_eq_true_eq] at h;exact h.1
        obtain ⟨ik,rfl⟩:p1=zJB (xa T (N1+1))/\N2=N1+2:=by have h:=GJ.out;rw [qP rfl] at h;exact ⟨congrArg Prod.fst h,congrArg Prod.snd h⟩
        have zS:=qH (fun w=>zII ik.symm w);have x3:=(Gw.out.cell (j:=N1+1) (by omega)).2;have i6:(N1:Int)+1 < (n:Int):=by omega
        have i8:(0:Int)<=(N1:Int)+1:=by omega
        have i9:((N1:Int)+1).toNat=N1+1:=by omega
        generalize xa T (N1+1)=W3 at x3 zS ik;clear ik h4;go_wp2_with fail
        refine (zS.out _).mono ?_;rintro e V ⟨rfl,hbu⟩;have qg:=vP.out.below hbu vP.out.lt;have kkr:=DR.out.below hbu DR.out.lt;have hbw:=zAa vW.out hbu vW.out.size;have y1:V.cell? ⟨b4,3,U⟩=Z (D J 0):=(qg.cell 3).trans rfl;have yz:=qg.frozen 3;have RS:=qH (show Blk (V.setCell ⟨b4,3,U⟩ (D J p1)) b4 29 #[D J (F0:Int),D J l1,G b2,D J p1]/\Blk (V.setCell ⟨b4,3,U⟩ (D J p1)) w.heap.size 29 #[D J 0,D J 0,G E,D J 0]/\ZZ w.heap.size w (V.setCell ⟨b4,3,U⟩ (D J p1)) from ⟨qg.set_ 3 _,kkr.far (p:=⟨b4,3,U⟩) (Nat.ne_of_lt hlt) _,hbw.setCell (p:=⟨b4,3,U⟩) (Nat.le_of_lt hlt) _⟩);clear qg kkr hbw hbu;go_wp2_with fail
        go_meet
        case rel=>exact ⟨_,rfl,by go_num,RS.out⟩
      case rest =>
       obtain ⟨V,hV,rfl,k4,kr,hbw⟩:=hcut;subst hV;obtain ⟨f0,f1,f2,f3⟩:=cQ4 k4;obtain ⟨c0,c1,c2,c3⟩:=cQ4 kr;have z0:=kr.frozen 0;have z1:=kr.frozen 1;have z2:=kr.frozen 2;have z3:=kr.frozen 3;have HS:=qH (Blk.storeL4 kr (D J (F0:Int)) (D J l1) (G b2) (D J p1));have ri:=qH (zBa hbw (O w.heap.size) (D J (F0:Int)) (D J l1) (G b2) (D J p1));clear kr hbw k4;go_wp2_with fail
       (try simp only [Exit.inBlock,Exit.then])
       exact zAF rfl rfl rfl HS.out Tryz.underlying29 rfl (by kernel_rfl) rfl ⟨rfl,ri.out⟩
section
variable {T:List (List UInt8)} {i:Nat} {x:List UInt8}
theorem zUf (h:T[i]? = Z x):T.drop i=x :: T.drop (i+1):=by
 obtain ⟨hi,e⟩:=List.getElem?_eq_some_iff.1 h;rw [List.drop_eq_getElem_cons hi,e]
theorem zTc (h:zEV T=T.take i++zEV (T.drop i)) (hx:T[i]? = Z x) (hl:x.getLast? = Z 44):zEV T=T.take i++[x.dropLast]:=by
 rw [h,zUf hx,zEV,qP hl]
theorem zUg (h:zEV T=T.take i++zEV (T.drop i)) (hx:T[i]? = Z x) (hl:x.getLast?≠Z 44):zEV T=T.take (i+1)++zEV (T.drop (i+1)):=by
 rw [h,zUf hx,zEV,qN hl,List.take_add_one,hx];simp
end
theorem zXz {T:List (List UInt8)} {j:Nat} (hj:j < T.length):T[j]? = Z (xa T j):=by unfold xa;rw [List.getElem?_eq_getElem hj];rfl
theorem zQU {x:List UInt8} {k:Nat} (h:x.length=k+1):∃b,x[k]? = Z b/\(x.getLast? = Z 44↔b=44):=by
 have hk:k < x.length:=by omega
 refine ⟨x[k],List.getElem?_eq_getElem hk,?_⟩;rw [List.getLast?_eq_getElem?,show x.length-1=k by omega,List.getElem?_eq_getElem hk];simp
theorem zLd (A:Option Addr) (n c:Nat) (T:List (List UInt8)) (w:ZY) (hA:Txts w A n T) (hn:n<=100001) (hw:∀p∈T,p.length<=100000) :
  Calls ZX 151 #[H A n c] w (zDe w (zEV T)):=by
 have bo:=qH hA.len;have HA:=qH hA;have HW:=qH hw;clear hA hw;go_enter Tryz.func151,Tryz.ntmps151;go_wp2_with fail
 go_loopw [3,4] (fun v3 v4 wv=>∃(i:Nat) (X:ZY) (B:Option Addr) (m d:Nat),X=wv/\i<=n/\v4=D J i/\v3=H B m d/\Row X w.heap.size 1 B m d ((T.take i).map zDE)/\ZZ w.heap.size w X/\m<=i/\Hid (zEV T=T.take i++zEV (T.drop i))) (fun _ v4 _=>n-(intOf v4).toNat)
 case atStart=>exact ⟨0,_,U,0,0,rfl,by omega,rfl,rfl,Row.none_ _ _ _,M _ _,by omega,qH (by simp)⟩
 case round =>
  obtain ⟨i,X,B,m,d,hX,hi,rfl,rfl,hR,hb,hm,HU⟩:=hrel;subst hX;have hz:w.heap.size<=X.heap.size:=hb.size;by_cases hlt:i < n
  ·have j0:(0:Int)<=(i:Int):=by omega
   have j1:(i:Int) < (n:Int):=by omega
   obtain ⟨g,o,rfl⟩:=HA.out.is (by omega);have hx:=zXz (T:=T) (j:=i) (by rw [bo.out];exact hlt);obtain ⟨x,hxx⟩:∃x,xa T i=x:=⟨_,rfl⟩
   have hc:=((HA.out.below hb).cell hlt).2;rw [hxx] at hx hc;have hs:=zBz x;by_cases h0:x.length=0
   ·have hl:x.getLast?≠Z 44:=by rw [List.length_eq_zero_iff.1 h0];simp
    rw [h0] at hs;have Dx:=qH (zUg HU.out hx hl);have HT:=qH (show (T.take i).map zDE++[zDE x]=(T.take (i+1)).map zDE by rw [List.take_add_one,hx];simp);have jO:Row X w.heap.size 1 B m d ((T.take i).map zDE):=hR;obtain ⟨ZP,hQ⟩:∃ZP,T.take i=ZP:=⟨_,rfl⟩
    rw [hQ] at jO;have HQ:=qH hQ;clear hx hxx h0 hl HU hR hQ;go_wp2_with (at_builtin;refine zLD rfl _ _ rfl jO x rfl rfl (m+1) rfl (by omega) hz ?_;intro A2 c2 w9 hR9 bn)
    have co:=hb.trans bn;clear jO hb bn hc;go_wp2_with fail
    go_roundw
    case rel=>exact ⟨i+1,_,A2,m+1,c2,rfl,by omega,by go_num,rfl,by rw [<-HT.out,HQ.out];simpa using hR9,co,by omega,Dx⟩
    case measure=>simp [intOf];omega
   ·obtain ⟨k,hk⟩:∃k,x.length=k+1:=⟨x.length-1,by omega⟩
    obtain ⟨b,ay,ai⟩:=zQU hk;have hnx:=zDu ay;have hup:=zDv (S:=x) (j:=k) (by omega);rw [hk] at hs;have q0:(0:Int) < ((k+1:Nat):Int):=by omega
    have hkk:k<=100000:=by have:=HW.out x (List.mem_of_getElem? hx);omega
    have q1:wrap64 (((k+1:Nat):Int)-1)=(k:Int):=by unfold wrap64;omega
    have q2:(((k+1:Nat):Int)-1)=(k:Int):=by omega
    have q4:IntKind.i64.wrap (((k+1:Nat):Int)-1)=(k:Int):=by rw [q2];exact IntWalk.i64_in _ (by omega)
    by_cases hq:b=44
    ·have q3:((b.toNat:Int)==44)=Q:=by rw [hq];rfl
     have HT:=qH (show (T.take i).map zDE++[zDE (x.take k)]=(zEV T).map zDE by
      rw [zTc HU.out hx (ai.2 hq),List.dropLast_eq_take,hk];simp)
     generalize b.toNat=b0 at hnx q3;obtain ⟨ZP,hQ⟩:∃ZP,T.take i=ZP:=⟨_,rfl⟩
     obtain ⟨y,hy⟩:∃y,x.take k=y:=⟨_,rfl⟩
     rw [hQ] at hR;rw [hy] at hup;have HQ:=qH hQ;have HY:=qH hy;clear hx hxx h0 hk ay ai hq HU hQ hy;go_wp2_with (at_builtin;refine zLD rfl _ _ rfl hR y rfl rfl (m+1) rfl (by omega) hz ?_;intro A2 c2 w9 hR9 bn)
     have co:=hb.trans bn;have DE:=qH hR9;clear hR hb bn hc hR9;go_wp2_with fail
     go_ret;exact ⟨A2,m+1,c2,rfl,by rw [<-HT.out,HQ.out,HY.out];simpa using DE.out,by omega,co⟩
    ·have q3:((b.toNat:Int)==44)=E:=by
      simp only [beq_eq_false_iff_ne,ne_eq];intro e;exact hq (UInt8.toNat.inj (show b.toNat=44 by omega))
     have Dx:=qH (zUg HU.out hx (fun e=>hq (ai.1 e)));have HT:=qH (show (T.take i).map zDE++[zDE x]=(T.take (i+1)).map zDE by rw [List.take_add_one,hx];simp);generalize b.toNat=b0 at hnx q3;obtain ⟨ZP,hQ⟩:∃ZP,T.take i=ZP:=⟨_,rfl⟩
     rw [hQ] at hR;have HQ:=qH hQ;clear hx hxx h0 hk ay ai hq HU hQ hup;go_wp2_with (at_builtin;refine zLD rfl _ _ rfl hR x rfl rfl (m+1) rfl (by omega) hz ?_;intro A2 c2 w9 hR9 bn)
     have co:=hb.trans bn;have DE:=qH hR9;clear hR hb bn hc hR9;go_wp2_with fail
     go_roundw
     case rel=>exact ⟨i+1,_,A2,m+1,c2,rfl,by omega,by go_num,rfl,by rw [<-HT.out,HQ.out];simpa using DE.out,co,by omega,Dx⟩
     case measure=>simp [intOf];omega
  ·have j1:¬(i:Int) < (n:Int):=by omega
   have HT:=qH (show T.take i=zEV T by
    have h1:i=T.length:=by rw [bo.out];omega
    rw [HU.out,h1,List.drop_length,List.take_length];simp [zEV])
   have pH:=qH hR;clear HU hR;go_wp2_with fail
   go_ret;exact ⟨B,m,d,rfl,by rw [<-HT.out];exact pH.out,by omega,hb⟩
theorem Els.src {α:Type} {sz:Nat} {enc:α->List Value} {w:ZY} {A:Option Addr} {n:Nat} {L:List α} (h:Els sz enc w A n L) (hz:∀x,(enc x).length=sz) (h0:0 < sz):Src w sz A n (L.flatMap enc):=by
 have hl:(L.flatMap enc).length=n*sz:=by rw [zCn enc sz hz,h.len]
 refine ⟨hl,fun hn=>?_⟩;obtain ⟨g,o,rfl,hg,hc⟩:=h.2.2 hn;refine ⟨_,rfl,hg,fun j u hu=>?_⟩;have hjl:j < n*sz:=by rw [<-hl];exact (List.getElem?_eq_some_iff.1 hu).1
 have hd:j / sz < L.length:=by rw [h.len];exact Nat.div_lt_of_lt_mul (by rw [Nat.mul_comm];exact hjl)
 have hx:L[j / sz]? = Z L[j / sz]:=List.getElem?_eq_getElem hd;have hf:=zFQ enc sz hz L (j / sz) (j % sz) _ hx (Nat.mod_lt _ h0);have e:j / sz*sz+j % sz=j:=by rw [Nat.mul_comm];exact Nat.div_add_mod j sz
 rw [e,hu] at hf;have:=hc (j / sz) _ hx (j % sz) u hf.symm;rw [Addr.add_lit]
 rwa [Nat.add_assoc,e] at this
theorem zOw (A:Option Addr) (n c:Nat) (L:List Fg) (re lo:Int) (B:Option Addr) (d:Nat) (f:Int) (b:Bool) (w:ZY) (hA:Fgs w A n L) (hB:Fgs w B 126 AL) (h1:1<=f) (h2:f<=126) :
  Calls ZX 103 #[frV A n c re lo,frV B 126 d 0 1,D J f,G b] w fun e w'=>e=.returned (.tuple #[D J (plA L f),G (b&&decide (0 < plA L f))])/\ZZ w.heap.size w w':=by
 have ah:ZZ w.heap.size w ((w.alloc (.cells #[H A n c,D J re,D J lo] 24)).alloc (.cells #[H B 126 d,D J 0,D J 1] 24)):=((M _ _).alloc (O _) _).alloc (by simp) _;have hk0:Blk ((w.alloc (.cells #[H A n c,D J re,D J lo] 24)).alloc (.cells #[H B 126 d,D J 0,D J 1] 24)) w.heap.size 24 #[H A n c,D J re,D J lo]:=(Blk.new w _ _).alloc _;have aq:Blk ((w.alloc (.cells #[H A n c,D J re,D J lo] 24)).alloc (.cells #[H B 126 d,D J 0,D J 1] 24)) (w.heap.size+1) 24 #[H B 126 d,D J 0,D J 1]:=heap_alloc2_new w _ _;have ka:=hA.below ah;have iT:=hB.below ah;obtain ⟨i,hi⟩:∃i:Nat,f=(i:Int)+1:=⟨(f-1).toNat,by omega⟩
 have hin:i < 126:=by omega
 obtain ⟨g,o,rfl,hg,⟨x0,x1,x2⟩,_⟩:=iT.at_ hin;obtain ⟨k,hk⟩:∃k,zAN L (fa AL i)=k:=⟨_,rfl⟩
 have hpl:plA L f=(k:Int):=by unfold plA;rw [hi,show ((i:Int)+1-1).toNat=i by omega,hk]
 rw [hpl];have q0:IntKind.i64.wrap (i:Int)=(i:Int):=IntWalk.i64_in _ (by omega);have q2:f-1=(i:Int):=by omega
 have j0:(0:Int)<=(i:Int):=by omega
 have j1:(i:Int) < 126:=by omega
 generalize fa AL i=x at x0 x1 x2 hk;have qZ:=qH hk;go_enter Tryz.func103,Tryz.ntmps103;go_wp2_with fail
 generalize ((w.alloc (.cells #[H A n c,D J re,D J lo] 24)).alloc (.cells #[H (Z ⟨g,o,U⟩) 126 d,D J 0,D J 1] 24))=X at ah hk0 aq ka iT hg x0 x1 x2 ⊢;obtain ⟨c0,c1,c2⟩:=cQ3 hk0;have d0:X.cell? ⟨w.heap.size+1,0,U⟩=Z (H (Z ⟨g,o,U⟩) 126 d):=(aq.cell 0).trans rfl;have ig:=qH ka;have dn:=qH ah;have el:=qH (show w.heap.size < X.heap.size/\w.heap.size+1 < X.heap.size/\g < X.heap.size from ⟨hk0.lt,aq.lt,hg⟩);clear hA hB ka iT ah hk0 aq hg hi hk hpl h1 h2;have KP:=qH (show ∀wx,ZZ X.heap.size X wx->(ZZ X.heap.size X wx/\wx.cell? ⟨w.heap.size,0,U⟩=Z (H A n c)/\wx.cell? ⟨w.heap.size,1,U⟩=Z (D J re)/\wx.cell? ⟨w.heap.size,2,U⟩=Z (D J lo)/\wx.cell? ⟨w.heap.size+1,0,U⟩=Z (H (Z ⟨g,o,U⟩) 126 d)/\wx.cell? ⟨g,o+i*3,U⟩=Z (D J x.p)/\wx.cell? ⟨g,o+i*3+1,U⟩=Z (G x.r)/\wx.cell? ⟨g,o+i*3+2,U⟩=Z (D J x.d)) from fun wx h=>⟨h,(h.cell (p:=⟨w.heap.size,0,U⟩) el.out.1).trans c0,(h.cell (p:=⟨w.heap.size,1,U⟩) el.out.1).trans c1,(h.cell (p:=⟨w.heap.size,2,U⟩) el.out.1).trans c2,(h.cell (p:=⟨w.heap.size+1,0,U⟩) el.out.2.1).trans d0,(h.cell (p:=⟨g,o+i*3,U⟩) el.out.2.2).trans x0,(h.cell (p:=⟨g,o+i*3+1,U⟩) el.out.2.2).trans x1,(h.cell (p:=⟨g,o+i*3+2,U⟩) el.out.2.2).trans x2⟩);go_upto_region 1 with fail
 go_cut [10] (fun lU wv=>lU=D J (k:Int)/\∃V:ZY,V=wv/\ZZ X.heap.size X V)
 case first =>
  go_region_held3 (fun wx=>ZZ X.heap.size X wx/\wx.cell? ⟨w.heap.size,0,U⟩=Z (H A n c)/\wx.cell? ⟨w.heap.size,1,U⟩=Z (D J re)/\wx.cell? ⟨w.heap.size,2,U⟩=Z (D J lo)/\wx.cell? ⟨w.heap.size+1,0,U⟩=Z (H (Z ⟨g,o,U⟩) 126 d)/\wx.cell? ⟨g,o+i*3,U⟩=Z (D J x.p)/\wx.cell? ⟨g,o+i*3+1,U⟩=Z (G x.r)/\wx.cell? ⟨g,o+i*3+2,U⟩=Z (D J x.d)) (first | with_reducible assumption | with_reducible exact KP.out _ (M _ _) | with_reducible exact KP.out _ (M _ _).drew | with_reducible exact KP.out _ (And.left (by assumption)) | with_reducible exact KP.out _ (Below.drew (And.left (by assumption))))
   (first | (go_at_call 53;refine (zLc qZ.out c re lo _ (ig.out.below (And.left (by assumption)))).mono ?_;rintro e wd ⟨rfl,hbd⟩;have hbq:ZZ X.heap.size X wd:=zAa (And.left (by assumption)) hbd (Below.size (And.left (by assumption)));have hkk:=KP.out wd hbq))
  all_goals
   have hbf:=And.left (show ZZ X.heap.size X _/\_ by assumption);go_wp2_with fail
   go_meet
   case rel=>exact ⟨rfl,_,rfl,hbf⟩
 case rest =>
  obtain ⟨rfl,V,hV,hbv⟩:=hcut;subst hV;have it:=qH (zAa dn.out hbv dn.out.size);clear hbv
  cases b with
  | false =>
   go_wp2_with fail
   go_ret2;exact ⟨rfl,it.out⟩
  | true =>
   by_cases h0:(0:Int) < (k:Int)
   ·go_wp2_with fail
    go_ret2;exact ⟨by simp,it.out⟩
   ·go_wp2_with fail
    go_ret2;exact ⟨by simp,it.out⟩
theorem zFH {L:List Fg} {f v:Int} {b q:Bool} (hv:plA L f=v) (hq:(b&&decide (0 < v))=q) {A:Option Addr} {n c:Nat} {re lo:Int} {B:Option Addr} {d:Nat} (w:ZY) (hA:Fgs w A n L) (hB:Fgs w B 126 AL) (h1:1<=f) (h2:f<=126) :
  Calls ZX 103 #[frV A n c re lo,frV B 126 d 0 1,D J f,G b] w fun e w'=>e=.returned (.tuple #[D J v,G q])/\ZZ w.heap.size w w':=by
 subst hv;subst hq;exact zOw A n c L re lo B d f b w hA hB h1 h2
theorem dupP {w:ZY} {ops:Array Oper} {rest:List Oper} {o:Oper} {a:Act} {ZP:Exit->Act->ZY->Prop} (hgd:o.guard=U) (s x:Operand)
  (ho:o.op=.call { callee:=.builtin .append,args:=#[s,x],argTypes:=#[30,30] })
  {B:Option Addr} {m d:Nat} {P:List Sp} (hP:Els 5 zCl w B m P) (hs:a.eval s=H U 0 0) (hx:a.eval x=H B m d) (hm:m<=1000000) (base:Nat) (hbase:base<=w.heap.size)
  (h:∀A' c' w',Row w' base 5 A' m c' (P.flatMap zCl)->ZZ w.heap.size w w'->wpList ZX ops ZP rest (a.put o.dst (H A' m c')) w') :
  wpList ZX ops ZP (o :: rest) a w:=by
 obtain ⟨i0,hi,cD,bu,cM⟩:=info_parts zKI
 refine zRt hgd s x 30 ho 86 i0 _ 5 40 Tryz.underlying30 hi cD bu cM rfl (by decide) (Row.none_ w base 5) (hP.src (fun _=>rfl) (by omega))
  (by intro u hu;obtain ⟨y,_,hy⟩:=List.mem_flatMap.1 hu;simp [zCl] at hy;rcases hy with rfl | rfl | rfl | rfl | rfl<;>rfl) hs hx m (by omega) (by unfold maxLen;omega) (by omega) hbase ?_
 intro A' c' w' h1 h2 _ _;refine h A' c' w' (by simpa using h1) ?_;exact (M _ _).grown ⟨h2.os,h2.tape,h2.output,h2.size,h2.block⟩ (O _) (fun k hk=>by cases hk)
theorem Row.store8of {w:ZY} {base g sz:Nat} {A:Option Addr} {n c:Nat} {xs:List Value} (h:Row w base sz A n c xs) (hf:∀k,blk A=Z k->k≠g) (u0 u1 u2 u3 u4 u5 u6 u7:Value) :
  Row ((((((((w.setCell ⟨g,0,U⟩ u0).setCell ⟨g,1,U⟩ u1).setCell ⟨g,2,U⟩ u2).setCell ⟨g,3,U⟩ u3).setCell ⟨g,4,U⟩ u4).setCell ⟨g,5,U⟩ u5).setCell ⟨g,6,U⟩ u6).setCell ⟨g,7,U⟩ u7) base sz A n c xs :=
 (((((((h.farSet 0 u0 hf).farSet 1 u1 hf).farSet 2 u2 hf).farSet 3 u3 hf).farSet 4 u4 hf).farSet 5 u5 hf).farSet 6 u6 hf).farSet 7 u7 hf
def SetGives (w0:ZY) (o:Og) (b:Bool) (e:Ending) (w':ZY):Prop :=
 ∃B m d,e=.returned (.tuple #[opV o B m d,G b])/\Row w' w0.heap.size 5 B m d (o.path.flatMap zCl)/\m=o.path.length/\ZZ w0.heap.size w0 w'
theorem SetGives.of {w0 w':ZY} {o:Og} {q b:Bool} {B:Option Addr} {m d:Nat} (hq:q=b) (hrow:Row w' w0.heap.size 5 B m d (o.path.flatMap zCl)) (hm:m=o.path.length) (hb:ZZ w0.heap.size w0 w') :
  SetGives w0 o b (.returned (.tuple #[opV o B m d,G q])) w':=by
 subst hq;exact ⟨B,m,d,rfl,hrow,hm,hb⟩
def zHP (L:List Fg) (P:List Sp) (i:Nat):List Sp:=(P.take i).map (zOQ L)++P.drop i
def zTd (L:List Fg) (P:List Sp) (b:Bool) (i:Nat):Bool:=b&&(P.take i).all fun x=>decide (0 < plA L x.s.f)
theorem zOx (L:List Fg) (P:List Sp):zHP L P 0=P:=by simp [zHP]
theorem zQV (L:List Fg) (P:List Sp):zHP L P P.length=P.map (zOQ L):=by simp [zHP]
theorem zNu (x:Sp):(zCl x).length=5:=rfl
theorem zTe (L:List Fg) {P:List Sp} {i:Nat} {x:Sp} (h:P[i]? = Z x):(zHP L P i)[i]? = Z x/\((zHP L P i).flatMap zCl).set (i*5) (D J (plA L x.s.f))=(zHP L P (i+1)).flatMap zCl:=by
 have hi:=(List.getElem?_eq_some_iff.1 h).1;have hd:P.drop i=x :: P.drop (i+1):=by
  rw [List.drop_eq_getElem_cons hi]
  congr 1
  rw [List.getElem?_eq_getElem hi] at h;injection h
 have hl:((P.take i).map (zOQ L)).length=i:=by rw [List.length_map,List.length_take];omega
 constructor
 ·unfold zHP;rw [List.getElem?_append_right (by omega),hl,Nat.sub_self,hd];rfl
 ·unfold zHP;rw [hd,List.take_add_one,h,List.map_append,List.flatMap_append,List.flatMap_append,List.flatMap_append];have h5:(((P.take i).map (zOQ L)).flatMap zCl).length=i*5:=by rw [zCn zCl 5 zNu,hl]
  rw [List.set_append_right _ _ (by omega),h5,Nat.sub_self];simp [zCl,zOQ,zWN]
theorem zQW (L:List Fg) {P:List Sp} {i:Nat} {x:Sp} (h:P[i]? = Z x) (b:Bool):(zTd L P b i&&decide (0 < plA L x.s.f))=zTd L P b (i+1):=by
 unfold zTd;rw [List.take_add_one,h];simp [Bool.and_assoc]
theorem zQX {P:List Sp} {i:Nat} {x:Sp} (h:P[i]? = Z x):(P.flatMap zCl)[i*5]? = Z (D J x.s.f):=by
 have:=zFQ zCl 5 zNu P i 0 x h (by omega);rw [Nat.add_zero] at this;exact this
theorem zLe (A:Option Addr) (n c:Nat) (L:List Fg) (re lo:Int) (o:Og) (B:Option Addr) (m d:Nat) (w:ZY) (hA:Fgs w A n L) (hO:Stps w B m o.path) (hr:zAf 126 o=Q) (hm:m<=10000) :
  Calls ZX 57 #[frV A n c re lo,opV o B m d] w (SetGives w (zRv L o) (zQb L o)):=by
 obtain ⟨dj,bt,hpn,_⟩:=zCD hr;have hfr:=zDn hr;obtain ⟨okind,of,⟨off,ofl,offar,ofpc⟩,opath,oover⟩:=o;simp only at dj bt hpn hfr hO;have HA:=qH hA;have HO:=qH hO;have HB:=qH (M w.heap.size w);obtain ⟨F1,jP⟩:∃v,plA L of=v:=⟨_,rfl⟩
 obtain ⟨q1,B6⟩:∃v,(Q&&decide (0 < F1))=v:=⟨_,rfl⟩
 obtain ⟨F2,pl⟩:∃v,(if 0 < off then plA L off else off)=v:=⟨_,rfl⟩
 obtain ⟨q2,ew⟩:∃v,(q1&&(decide (¬0 < off)||decide (0 < F2)))=v:=⟨_,rfl⟩
 have G3:=qH jP;have tW:=qH B6;have fY:=qH hpn;have bo:=qH hO.len;have HM:=qH hm
 have GA:=qH (show zRv L ⟨okind,of,⟨off,ofl,offar,ofpc⟩,opath,oover⟩=⟨okind,F1,⟨F2,ofl,offar,ofpc⟩,opath.map (zOQ L),oover⟩ by
  unfold zRv
  simp only [jP,<-pl]
  split<;>rfl)
 have GB:=qH (show zQb L ⟨okind,of,⟨off,ofl,offar,ofpc⟩,opath,oover⟩=zTd L opath q2 opath.length by
  unfold zQb zTd
  simp only [jP]
  rw [List.take_length,<-ew,<-B6]
  by_cases h0:0 < off
  ·rw [show plA L off=F2 by rw [<-pl,qP h0]];simp
  ·simp [h0])
 have ir:=qH (show 0 < off->plA L off=F2/\(q1&&decide (0 < F2))=q2 from fun h0=>⟨by rw [<-pl,qP h0],by rw [<-ew,decide_eq_false (fun e=>e h0:¬¬0 < off),Bool.false_or]⟩);have tY:=qH (show off<=0->off=F2/\q1=q2 from fun h0=>⟨by rw [<-pl,qN (by omega)],by rw [<-ew,decide_eq_true (show ¬0 < off by omega),Bool.true_or,Bool.and_true]⟩);rw [GA.out,GB.out];clear jP B6 pl ew hpn hm hA hO GA GB hr;go_enter Tryz.func57,Tryz.ntmps57;have hba:ZZ w.heap.size w (((w.alloc (.cells #[H A n c,D J re,D J lo] 24)).alloc (.cells #[D J okind,D J of,D J off,D J ofl,G offar,D J ofpc,H B m d,G oover] 32)).alloc (.cells #[D J 0,D J 0,D J 0,D J 0,G E,D J 0,H U 0 0,G E] 32)):=(((M _ _).alloc (O _) _).alloc (by simp) _).alloc (by simp;omega) _;have ak:Blk (((w.alloc (.cells #[H A n c,D J re,D J lo] 24)).alloc (.cells #[D J okind,D J of,D J off,D J ofl,G offar,D J ofpc,H B m d,G oover] 32)).alloc (.cells #[D J 0,D J 0,D J 0,D J 0,G E,D J 0,H U 0 0,G E] 32)) w.heap.size 24 #[H A n c,D J re,D J lo]:=((Blk.new w _ _).alloc _).alloc _;have ab:Blk (((w.alloc (.cells #[H A n c,D J re,D J lo] 24)).alloc (.cells #[D J okind,D J of,D J off,D J ofl,G offar,D J ofpc,H B m d,G oover] 32)).alloc (.cells #[D J 0,D J 0,D J 0,D J 0,G E,D J 0,H U 0 0,G E] 32)) (w.heap.size+1) 32 #[D J okind,D J of,D J off,D J ofl,G offar,D J ofpc,H B m d,G oover]:=by
  have h:=(Blk.new (w.alloc (.cells #[H A n c,D J re,D J lo] 24)) 32 #[D J okind,D J of,D J off,D J ofl,G offar,D J ofpc,H B m d,G oover]).alloc (.cells #[D J 0,D J 0,D J 0,D J 0,G E,D J 0,H U 0 0,G E] 32)
  rwa [World.size_alloc] at h
 have aa:Blk (((w.alloc (.cells #[H A n c,D J re,D J lo] 24)).alloc (.cells #[D J okind,D J of,D J off,D J ofl,G offar,D J ofpc,H B m d,G oover] 32)).alloc (.cells #[D J 0,D J 0,D J 0,D J 0,G E,D J 0,H U 0 0,G E] 32)) (w.heap.size+2) 32 #[D J 0,D J 0,D J 0,D J 0,G E,D J 0,H U 0 0,G E]:=by
  have h:=Blk.new ((w.alloc (.cells #[H A n c,D J re,D J lo] 24)).alloc (.cells #[D J okind,D J of,D J off,D J ofl,G offar,D J ofpc,H B m d,G oover] 32)) 32 #[D J 0,D J 0,D J 0,D J 0,G E,D J 0,H U 0 0,G E]
  rwa [World.size_alloc,World.size_alloc] at h
 replace HB:=qH hba;clear hba;go_upto_region 1 with fail
 generalize ((w.alloc (.cells #[H A n c,D J re,D J lo] 24)).alloc (.cells #[D J okind,D J of,D J off,D J ofl,G offar,D J ofpc,H B m d,G oover] 32)).alloc (.cells #[D J 0,D J 0,D J 0,D J 0,G E,D J 0,H U 0 0,G E] 32)=X at HB ak ab aa ⊢;obtain ⟨dv,qC⟩:∃a,w.heap.size=a:=⟨_,rfl⟩
 obtain ⟨ac,cY⟩:∃a,w.heap.size+1=a:=⟨_,rfl⟩
 obtain ⟨ae,iK⟩:∃a,w.heap.size+2=a:=⟨_,rfl⟩
 have am:w.heap.size<=ac:=by omega
 have aB:w.heap.size<=ae:=by omega
 have gh:dv < ac:=by omega
 have bC:ac < ae:=by omega
 rw [iK] at aa ⊢;rw [cY] at ab ⊢;have ak:Blk X dv 24 #[H A n c,D J re,D J lo]:=by rw [<-qC];exact ak
 clear cY iK;go_wp2_with fail
 refine (zCd _).mono ?_;rintro e Xw ⟨A2,c2,rfl,bQ,hb⟩;have gF:∀k,blk A2=Z k->k≠ac:=fun k hk=>Nat.ne_of_gt (Nat.lt_of_lt_of_le ab.lt (bQ.lt k hk).1)
 have tJ:=HB.out.size;replace ak:=ak.below hb ak.lt;replace ab:=ab.below hb ab.lt;replace aa:=aa.below hb aa.lt;replace HB:=qH (zAa HB.out hb HB.out.size);replace bQ:=bQ.mono tJ;clear hb tJ;have q1:=(M Xw.heap.size Xw).alloc (O _) (.cells #[H A2 126 c2,D J 0,D J 1] 24);have eh:=ab.lt;replace ak:=ak.below q1 ak.lt;replace ab:=ab.below q1 ab.lt;replace aa:=aa.below q1 aa.lt;replace bQ:=bQ.below q1;replace HB:=qH (zAa HB.out q1 HB.out.size);have aN:=Blk.new Xw 24 #[H A2 126 c2,D J 0,D J 1];clear q1;go_upto_region 3 with fail
 generalize Xw.alloc (.cells #[H A2 126 c2,D J 0,D J 1] 24)=Xa at ak ab aa aN bQ HB ⊢;generalize hz_all:Xw.heap.size=a_all at aN eh ⊢;clear hz_all;obtain ⟨gI,gH,gG⟩:=cQ3 ak;obtain ⟨ln,ll,lk⟩:=cQ3 aN;obtain ⟨aj,aK,aw,aE,aD,aC,aJ,ap⟩:=cQ8 ab;go_wp2_with fail
 refine (zFH G3.out tW.out _ (HA.out.below HB.out) (zDC bQ) dj bt).mono ?_;rintro e Xb ⟨rfl,hb⟩;clear gI gH gG ln ll lk aj aK aw aE aD aC aJ ap;replace ak:=ak.below hb ak.lt;replace ab:=ab.below hb ab.lt;replace aa:=aa.below hb aa.lt;replace aN:=aN.below hb aN.lt;replace bQ:=bQ.below hb;replace HB:=qH (zAa HB.out hb HB.out.size);clear hb;have xg:=ab.frozen 1;have aK:Xb.cell? ⟨ac,1,U⟩=Z (D J of):=(ab.cell 1).trans rfl;go_upto_region 4 with fail
 clear xg aK;replace ak:=ak.far (p:=⟨ac,1,U⟩) (Nat.ne_of_lt gh) (D J F1);replace ab:=ab.set_ 1 (D J F1);replace aa:=aa.far (p:=⟨ac,1,U⟩) (Nat.ne_of_gt bC) (D J F1);replace aN:=aN.far (p:=⟨ac,1,U⟩) (Nat.ne_of_gt eh) (D J F1);replace bQ:=bQ.farSet 1 (D J F1) gF;replace HB:=qH (HB.out.setCell (p:=⟨ac,1,U⟩) am (D J F1));replace ab:Blk (Xb.setCell ⟨ac,1,U⟩ (D J F1)) ac 32 #[D J okind,D J F1,D J off,D J ofl,G offar,D J ofpc,H B m d,G oover]:=ab;generalize (Xb.setCell ⟨ac,1,U⟩ (D J F1))=Xc at ak ab aa aN bQ HB ⊢;have iv:=qH (show 0 < off->1<=off/\off<=126 from fun h=>⟨by omega,hfr.2⟩);clear hfr G3 tW;obtain ⟨aj,aK,aw,aE,aD,aC,aJ,ap⟩:=cQ8 ab;go_upto_if 24 with fail
 clear aj aK aw aE aD aC aJ ap;go_cut [7] (fun v7 wv=>∃V:ZY,V=wv/\v7=G q2/\Blk V dv 24 #[H A n c,D J re,D J lo]/\Blk V a_all 24 #[H A2 126 c2,D J 0,D J 1]/\Blk V ac 32 #[D J okind,D J F1,D J F2,D J ofl,G offar,D J ofpc,H B m d,G oover]/\Blk V ae 32 #[D J 0,D J 0,D J 0,D J 0,G E,D J 0,H U 0 0,G E]/\Row V w.heap.size 3 A2 126 c2 (AL.flatMap fgC)/\Hid (ZZ w.heap.size w V))
 case first =>
  by_cases h0:0 < off
  ·obtain ⟨hv,hq⟩:=ir.out h0;have HV:=qH hv;have HQQ:=qH hq;obtain ⟨g1,g2⟩:=iv.out h0;clear hv hq ir tY iv;obtain ⟨gI,gH,gG⟩:=cQ3 ak;obtain ⟨ln,ll,lk⟩:=cQ3 aN;obtain ⟨aj,aK,aw,aE,aD,aC,aJ,ap⟩:=cQ8 ab;go_wp2_with fail
   refine (zFH HV.out HQQ.out _ (HA.out.below HB.out) (zDC bQ) g1 g2).mono ?_;rintro e Xd ⟨rfl,hb⟩;clear gI gH gG ln ll lk aj aK aw aE aD aC aJ ap;replace ak:=ak.below hb ak.lt;replace ab:=ab.below hb ab.lt;replace aa:=aa.below hb aa.lt;replace aN:=aN.below hb aN.lt;replace bQ:=bQ.below hb;replace HB:=qH (zAa HB.out hb HB.out.size);clear hb;have cq:=ab.frozen 2;have aw:Xd.cell? ⟨ac,2,U⟩=Z (D J off):=(ab.cell 2).trans rfl;have c8:Blk (Xd.setCell ⟨ac,2,U⟩ (D J F2)) ac 32 #[D J okind,D J F1,D J F2,D J ofl,G offar,D J ofpc,H B m d,G oover]:=ab.set_ 2 _;have mP:=ak.far (p:=⟨ac,2,U⟩) (Nat.ne_of_lt gh) (D J F2);have iB:=aN.far (p:=⟨ac,2,U⟩) (Nat.ne_of_gt eh) (D J F2);have ey:=aa.far (p:=⟨ac,2,U⟩) (Nat.ne_of_gt bC) (D J F2);have lV:=bQ.farSet 2 (D J F2) gF;have iv:=qH (HB.out.setCell (p:=⟨ac,2,U⟩) am (D J F2));clear ab ak aN aa bQ;go_wp2_with fail
   go_meet
   case rel=>exact ⟨_,rfl,rfl,mP,iB,c8,ey,lV,iv⟩
  ·obtain ⟨rfl,rfl⟩:=tY.out (by omega);clear ir tY iv;go_wp2_with fail
   go_meet
   case rel=>exact ⟨_,rfl,rfl,ak,aN,ab,aa,bQ,HB⟩
 case rest =>
  clear ak aN ab aa bQ HB ir tY iv;obtain ⟨V,hV,rfl,ak,aN,ab,aa,bQ,HB⟩:=hcut;subst hV;obtain ⟨aj,aK,aw,aE,aD,aC,aJ,ap⟩:=cQ8 ab;have hm:=HM.out;go_upto_region 7 with (at_builtin;refine zEK ?_)
  refine qH ?_;refine dupP (B:=B) (m:=m) (d:=d) (P:=opath) rfl (.const (H U 0 0)) (.tmp 38) ?_ (HO.out.1.below HB.out) ?_ ?_ (by omega) V.heap.size (O _) ?_
  ·rfl
  ·rfl
  ·rfl
  intro A3 c3 Y aH hb;clear aj aK aw aE aD aC aJ ap;have pA:∀k,blk A3=Z k->k≠dv:=fun k hk=>Nat.ne_of_gt (Nat.lt_of_lt_of_le ak.lt (aH.lt k hk).1)
  have jT:∀k,blk A3=Z k->k≠ac:=fun k hk=>Nat.ne_of_gt (Nat.lt_of_lt_of_le ab.lt (aH.lt k hk).1)
  have ip:∀k,blk A3=Z k->k≠ae:=fun k hk=>Nat.ne_of_gt (Nat.lt_of_lt_of_le aa.lt (aH.lt k hk).1)
  have nO:∀k,blk A3=Z k->k≠a_all:=fun k hk=>Nat.ne_of_gt (Nat.lt_of_lt_of_le aN.lt (aH.lt k hk).1)
  have pC:∀k j,blk A2=Z k->blk A3=Z j->k≠j:=fun k j hk hj=>Nat.ne_of_lt (Nat.lt_of_lt_of_le (bQ.lt k hk).2 (aH.lt j hj).1)
  have tI:=HB.out.size;replace ak:=ak.below hb ak.lt;replace ab:=ab.below hb ab.lt;replace aa:=aa.below hb aa.lt;replace aN:=aN.below hb aN.lt;replace bQ:=bQ.below hb;replace HB:=qH (zAa HB.out hb HB.out.size);replace aH:=aH.mono tI;clear hb tI;go_upto_region 7 with fail
  go_wp2_with fail
  go_loopw [7,9] (fun v7 v9 wv=>∃(i:Nat) (V:ZY) (q:Bool),V=wv/\i<=m/\v9=D J i/\v7=G q/\Hid (q=zTd L opath q2 i)/\Blk V dv 24 #[H A n c,D J re,D J lo]/\Blk V a_all 24 #[H A2 126 c2,D J 0,D J 1]/\Blk V ac 32 #[D J okind,D J F1,D J F2,D J ofl,G offar,D J ofpc,H B m d,G oover]/\Blk V ae 32 #[D J 0,D J 0,D J 0,D J 0,G E,D J 0,H U 0 0,G E]/\Row V w.heap.size 3 A2 126 c2 (AL.flatMap fgC)/\Row V w.heap.size 5 A3 m c3 ((zHP L opath i).flatMap zCl)/\Hid (ZZ w.heap.size w V)) (fun _ v9 _=>m-(intOf v9).toNat)
  case atStart=>exact ⟨0,_,q2,rfl,by omega,rfl,rfl,qH (by simp [zTd]),ak,aN,ab,aa,bQ,by rw [zOx];exact aH,HB⟩
  case round =>
   clear ak aN ab aa bQ aH HB;obtain ⟨i,X,q,hX,hi,rfl,rfl,A8,ak,aN,ab,aa,bQ,aH,HB⟩:=hrel;subst hX;by_cases hlt:i < m
   ·have j0:(0:Int)<=(i:Int):=by omega
    have j1:(i:Int) < (m:Int):=by omega
    obtain ⟨x,hx⟩:∃x,opath[i]? = Z x:=⟨_,List.getElem?_eq_getElem (by rw [bo.out];exact hlt)⟩
    obtain ⟨ga,oa,rfl,Cj,Ci⟩:=aH.form (by omega);obtain ⟨s1,s2⟩:=zTe L hx;have e0:X.cell? ⟨ga,oa+i*5,U⟩=Z (D J x.s.f):=aH.cell (zQX s1);have hcap:=aH.cap;obtain ⟨y,hy⟩:∃y,plA L x.s.f=y:=⟨_,rfl⟩
    obtain ⟨q',B7⟩:∃q',(q&&decide (0 < y))=q':=⟨_,rfl⟩
    have HY:=qH hy;have GH:=qH B7;have hnm:=zAh.1 (fY.out x (List.mem_of_getElem? hx));have oh:1<=x.s.f:=hnm.1;have uM:x.s.f<=126:=hnm.2.1;have DF:=qH (show q'=zTd L opath q2 (i+1) by rw [<-zQW L hx q2,<-A8.out,hy,B7]);rw [hy] at s2;have ie:=qH s2;have on:=qH aH;have HGA:=qH (show ga < X.heap.size from Ci);have yd:dv≠ga:=fun e=>pA ga rfl e.symm
    have yc:ac≠ga:=fun e=>jT ga rfl e.symm
    have uu:ae≠ga:=fun e=>ip ga rfl e.symm
    have uv:a_all≠ga:=fun e=>nO ga rfl e.symm
    have ye:∀k,blk A2=Z k->k≠ga:=fun k hk=>pC k ga hk rfl
    generalize x.s.f=xf at e0 HY oh uM;have ig:=qH (HA.out.below HB.out);have jX:=qH (zDC bQ);have K1:=qH ak;have K2:=qH aN;have E0:=qH e0;have CT:i*5 < c3*5:=by omega
    obtain ⟨gq0,gq1,gq2⟩:=cQ3 K1.out;obtain ⟨gq3,gq4,gq5⟩:=cQ3 K2.out;clear hx s1 s2 hy B7 hnm A8;go_upto_region 10 with fail
    go_region_with (go_at_call 103;(first | refine (zFH HY.out GH.out _ ig.out jX.out oh uM).mono ?_ | refine (zFH HY.out GH.out _ (ig.out.below (M X.heap.size X).drew) (jX.out.below (M X.heap.size X).drew) oh uM).mono ?_);rintro e wd ⟨rfl,hbd⟩;have hbq:ZZ X.heap.size X wd:=zAa ((M X.heap.size X).drew) hbd (O _);have hst:wd.cell? ⟨ga,oa+i*5,U⟩=Z (D J xf):=(hbq.cell (p:=⟨ga,oa+i*5,U⟩) HGA.out).trans E0.out;have hfz:wd.frozen? ⟨ga,oa+i*5,U⟩=E:=(on.out.below hbq).free (by omega))
    all_goals
     clear gq0 gq1 gq2 gq3 gq4 gq5;have mP:=(ak.below hbq ak.lt).far (p:=⟨ga,oa+i*5,U⟩) yd (D J y);have iB:=(aN.below hbq aN.lt).far (p:=⟨ga,oa+i*5,U⟩) uv (D J y);have c8:=(ab.below hbq ab.lt).far (p:=⟨ga,oa+i*5,U⟩) yc (D J y);have ey:=(aa.below hbq aa.lt).far (p:=⟨ga,oa+i*5,U⟩) uu (D J y);have lV:=(bQ.below hbq).farSet (oa+i*5) (D J y) ye;have oy:=(on.out.below hbq).put (q:=i*5) (by omega) (D J y);have iv:=qH ((zAa HB.out hbq HB.out.size).setCell (p:=⟨ga,oa+i*5,U⟩) Cj (D J y));rw [ie.out] at oy;have lD:=qH (And.intro mP (And.intro iB (And.intro c8 (And.intro ey (And.intro lV (And.intro oy iv))))));clear mP iB c8 ey lV oy iv ak aN ab aa bQ aH hst hfz hbd;go_wp2_with fail
     go_roundw
     case rel=>exact ⟨i+1,_,q',rfl,by omega,by go_num,rfl,DF,lD.out⟩
     case measure=>simp [intOf];omega
   ·have j1:¬(i:Int) < (m:Int):=by omega
    have hS:zHP L opath i=opath.map (zOQ L):=by rw [show i=opath.length by rw [bo.out];omega];exact zQV L opath
    have hQ:q=zTd L opath q2 opath.length:=by rw [A8.out,show i=opath.length by rw [bo.out];omega]
    rw [hS] at aH;have HQF:=qH hQ;clear hS hQ A8 hlt;have on:=qH (show (opath.map (zOQ L)).length=m by rw [List.length_map,bo.out]);have xe:=ab.frozen 6;have aJ:X.cell? ⟨ac,6,U⟩=Z (H B m d):=(ab.cell 6).trans rfl;go_upto_region 12 with fail
    clear xe aJ;replace ak:=ak.far (p:=⟨ac,6,U⟩) (Nat.ne_of_lt gh) (H A3 m c3);replace ab:=ab.set_ 6 (H A3 m c3);replace aa:=aa.far (p:=⟨ac,6,U⟩) (Nat.ne_of_gt bC) (H A3 m c3);replace aN:=aN.far (p:=⟨ac,6,U⟩) (Nat.ne_of_gt eh) (H A3 m c3);replace bQ:=bQ.farSet 6 (H A3 m c3) gF;replace aH:=aH.farSet 6 (H A3 m c3) jT;replace HB:=qH (HB.out.setCell (p:=⟨ac,6,U⟩) am (H A3 m c3));replace ab:Blk (X.setCell ⟨ac,6,U⟩ (H A3 m c3)) ac 32 #[D J okind,D J F1,D J F2,D J ofl,G offar,D J ofpc,H A3 m c3,G oover]:=ab;generalize (X.setCell ⟨ac,6,U⟩ (H A3 m c3))=ZR at ak ab aa aN bQ aH HB ⊢;obtain ⟨aj,aK,aw,aE,aD,aC,aJ,ap⟩:=cQ8 ab;obtain ⟨bg,bf,be,bc,aZ,aY,aX,aW⟩:=cQ8 aa;have aV:=aa.frozen 0;have aU:=aa.frozen 1;have aT:=aa.frozen 2;have aS:=aa.frozen 3;have aR:=aa.frozen 4;have aQ:=aa.frozen 5;have aP:=aa.frozen 6;have aO:=aa.frozen 7;have SV:=qH (aa.store8 (D J okind) (D J F1) (D J F2) (D J ofl) (G offar) (D J ofpc) (H A3 m c3) (G oover));have BV:=qH (zAc HB.out aB (D J okind) (D J F1) (D J F2) (D J ofl) (G offar) (D J ofpc) (H A3 m c3) (G oover));have RV:=qH (aH.store8of ip (D J okind) (D J F1) (D J F2) (D J ofl) (G offar) (D J ofpc) (H A3 m c3) (G oover));have nw:=qH (SetGives.of (o:=⟨okind,F1,⟨F2,ofl,offar,ofpc⟩,opath.map (zOQ L),oover⟩) HQF.out RV.out on.out.symm BV.out);clear ak aN ab aa bQ aH RV BV;go_wp2_with fail
    exact zAF rfl rfl rfl SV.out Tryz.underlying32 rfl (by kernel_rfl) rfl nw.out
