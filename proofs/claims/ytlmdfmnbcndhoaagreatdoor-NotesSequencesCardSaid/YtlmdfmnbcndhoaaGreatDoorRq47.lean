/-
  Lemmas, part 47. Conditions: each theorem's own.
-/
import Derived.Test.YtlmdfmnbcndhoaaGreatDoorRq46
import Derived.Deep.CutBlock
open Go.Value renaming bool→G,int→D,slice→H
open Go.IntKind renaming i64→J
open Bool renaming false→E,true→Q
open Option renaming none→U,some→Z
namespace Go.Proofs.YtlmdfmnbcndhoaaGreatDoor
open Go.RowKit
theorem zTf {K:Int} {A:Option Addr} {n c i t:Nat} (ht:i % n=t) (w:World) (hn:n≤400) (hi:i≤1000) (h0:0 < n) :
  Calls Tryz.prog 126 #[.agg #[D J K,H A n c],D J i] w fun e w'=>e=.returned (D J (t:Int))∧Below w.heap.size w w':=by
 subst ht;exact zLf K A n c i w hn hi h0
theorem zTK {L:List Lt} {f:Int} {i:Nat} (h:zIl L f i=E):zBh L f (i+1)=zBh L f i:=by rw [zBh,if_neg (by rw [h];simp)]
theorem zNF {L:List Lt} {f:Int} {i:Nat} (h:zIl L f i=Q):zBh L f (i+1)=zJW L i (zBh L f i):=by rw [zBh,if_pos h]
theorem zXd {L:List Lt} {f:Int} {i:Nat} (h:dnB L i=E):zIl L f i=E:=by unfold zIl;rw [h];rfl
theorem zTg {L:List Lt} {f y z:Int} {i:Nat} (hd:dnB L i=Q) (hy:(la L i).gate=y) (hz:(la L (i+1)).gate=z) (hn:z=y+1∨z=y-1) :
  (zIl L f i=Q↔(y=f∧z=f-1)∨(y=f-1∧z=f))∧(liN L i=if z < y then i+1 else i)∧(riN L i=if z < y then i else i+1):=by
 subst hy;subst hz
 refine ⟨?_,rfl,rfl⟩;rw [zDA];unfold riN;constructor
 ·rintro ⟨_,h⟩;split at h<;>omega
 ·intro h;refine ⟨hd,?_⟩;split<;>omega
theorem zVy {K:Int} {L:List Lt} (p:PosP K L) {i:Nat} (h:dnB L i=Q):liN L i < L.length∧riN L i < L.length:=by
 have:=(p.up h).1;unfold liN riN;split<;>omega
theorem zXe {L:List Lt} {f:Int} {m k:Nat} (hk:k < (zBh L f m).length):dnB L (na (zBh L f m) k)=Q :=
 (zDA.1 (zDz.1 (List.mem_of_getElem? (zNz hk))).2).1
theorem zVz {w:World} {base g2 o2 c:Nat} {L:List Lt} {f:Int} {P:List Nat} {N:Nat} (h:Row w base 4 (Z ⟨g2,o2,U⟩) N c ((P.map (zEi L f 0)).flatMap zCI)) {k:Nat} (hk:k < P.length) :
  w.cell? ⟨g2,o2+k*4+2,U⟩=Z (D J (liN L (na P k):Int)):=by
 have hx:(P.map (zEi L f 0))[k]? = Z (zEi L f 0 (na P k)):=by rw [List.getElem?_map,zNz hk];rfl
 have h1:=zEP zCI 4 zEw _ k 2 _ hx (by omega);have h2:=h.cell (j:=k*4+2) (u:=D J (liN L (na P k):Int)) (by rw [h1];rfl)
 rwa [show o2+(k*4+2)=o2+k*4+2 by omega] at h2
theorem Src.bel {w w':World} {sz m:Nat} {B:Option Addr} {xs:List Value} (h:Src w sz B m xs) (hb:Below w.heap.size w w'):Src w' sz B m xs:=by
 refine ⟨h.1,fun h0=>?_⟩;obtain ⟨ad,e,hl,hc⟩:=h.2 h0;refine ⟨ad,e,Nat.lt_of_lt_of_le hl hb.size,fun j u hu=>?_⟩;have hbk:(ad.add j).block=ad.block:=by unfold Addr.add;(repeat split)<;>rfl
 rw [World.cell?_of_block (w:=w) (w':=w') (hb.block _ (by rw [hbk];exact hl))];exact hc j u hu
theorem Blk.srcQ {w:World} {g:Nat} {t:TypeId} (x:Lq) (h:Blk w g t (zCI x).toArray):Src w 4 (Z ⟨g,0,U⟩) 1 ([x].flatMap zCI) :=
 ⟨rfl,fun _=>⟨⟨g,0,U⟩,rfl,h.lt,fun j u hu=>by
  rw [Addr.add_lit,Nat.zero_add,h.cell,List.getElem?_toArray]
  simpa using hu⟩⟩
theorem zVA {L:List Lt} {f:Int} {i k:Nat} {P:List Nat} (h:zIl L f i=Q) (hP:zBh L f i=P) (hI:zJW L i P=P.take k++i :: P.drop k) :
  (zBh L f (i+1)).map (zEi L f 0)=((P.map (zEi L f 0)).take k++[zEi L f 0 i])++(P.map (zEi L f 0)).drop k:=by
 rw [zNF h,hP,hI,List.map_append,List.map_cons,List.map_take,List.map_drop];simp
theorem zLi:∀(M:List Lq) (q:Nat) (x:Lq) (v:Int),M[q]? = Z x→(M.flatMap zCI).set (q*4+1) (D J v)=(M.set q ⟨x.f,v,x.l,x.r⟩).flatMap zCI
 | [],q,x,v,h=>by simp at h
 | a :: M,0,x,v,h=>by
  simp only [List.getElem?_cons_zero,Option.some.injEq] at h;subst h;simp [zCI]
 | a :: M,q+1,x,v,h=>by
  simp only [List.getElem?_cons_succ] at h;rw [List.flatMap_cons,List.set_cons_succ,List.flatMap_cons,List.set_append_right _ _ (by simp [zCI];omega),zEw,show (q+1)*4+1-4=q*4+1 by omega,zLi M q x v h]
theorem zVB {L:List Lt} {f:Int} {P:List Nat} {q:Nat} (h:q < P.length):((zFa L f P q).flatMap zCI).set (q*4+1) (D J ((q:Int)+1))=(zFa L f P (q+1)).flatMap zCI:=by
 have h1:=zHn L f (i:=q) h;rw [if_neg (by omega)] at h1;rw [zLi _ _ _ _ h1,←zQV L f h];rfl
theorem zNG {w:World} {base g2 o2 c N:Nat} {L:List Lt} {f:Int} {P:List Nat} {q j:Nat} (h:Row w base 4 (Z ⟨g2,o2,U⟩) N c ((zFa L f P j).flatMap zCI)) (hq:q < P.length) :
  w.cell? ⟨g2,o2+q*4,U⟩=Z (D J f)∧w.cell? ⟨g2,o2+q*4+1,U⟩=Z (D J (if q < j then (q:Int)+1 else 0))∧w.cell? ⟨g2,o2+q*4+2,U⟩=Z (D J (liN L (na P q):Int))∧w.cell? ⟨g2,o2+q*4+3,U⟩=Z (D J (riN L (na P q):Int)):=by
 have hx:=zHn L f (i:=j) hq;have key:∀t u,t < 4→(zCI (zEi L f (if q < j then (q:Int)+1 else 0) (na P q)))[t]? = Z u→w.cell? ⟨g2,o2+q*4+t,U⟩=Z u:=fun t u ht hu=>by
  have h1:=zEP zCI 4 zEw _ q t _ hx ht;have h2:=h.cell (j:=q*4+t) (u:=u) (by rw [h1];exact hu)
  rwa [show o2+(q*4+t)=o2+q*4+t by omega] at h2
 exact ⟨key 0 _ (by omega) rfl,key 1 _ (by omega) rfl,key 2 _ (by omega) rfl,key 3 _ (by omega) rfl⟩
def ofG (w0 w:World) (ZS:List Lq) (e:Ending) (w':World):Prop:=∃B m d,e=.returned (H B m d)∧Row w' w0.heap.size 4 B m d (ZS.flatMap zCI)∧m=ZS.length∧Below w.heap.size w w'
set_option maxHeartbeats 12800000 in
set_option maxRecDepth 100000 in
theorem zVC (K:Int) (kk:Nat) (A:Option Addr) (n c:Nat) (L:List Lt) (w:World) (hA:Lets w A n L) (hp:PosP K L) (hK:K=(kk:Int)) (hn:n≤400) (hk:kk≤1000) :
  Calls Tryz.prog 77 #[.agg #[D J K,H A n c]] w (ofG w w (zFd L kk)):=by
 have aZ:=qH hA.len;have HA:=qH hA;have HP:=qH hp;have HK:=qH hK;have hbx:=Boxed.refl w K A n c;have blq:=zTc;have bq1:=zVw;clear hA hp hK;go_enter Tryz.func77,Tryz.ntmps77;go_wp2_with fail
 go_loopw [3,4] (fun v3 v4 wv=>∃(f:Int) (g N d:Nat) (B:Option Addr) (V:World),V=wv∧v3=H B N d∧v4=D J f∧Hid (f=(g:Int)+1)∧g≤kk∧Boxed w V K A n c∧Row V (w.heap.size+1) 4 B N d ((zFd L g).flatMap zCI)∧N≤g*400∧Hid ((zFd L g).length=N)) (fun _ v4 _=>kk+2-(intOf v4).toNat)
 case atStart=>exact ⟨1,0,0,0,U,_,rfl,rfl,rfl,qH rfl,Nat.zero_le _,hbx,Row.none_ _ _ _,by omega,qH rfl⟩
 case round =>
  clear hbx;obtain ⟨f,g0,N,d,B,X,hX,rfl,rfl,HF,hgk,hB,hO,hN,fj⟩:=hrel;subst hX;have e0:=hB.c0;have e1:=hB.c1;by_cases hle:g0 < kk
  ·have jf:f≤K:=by have h1:=HF.out;have h2:=HK.out;omega
   have tR:=qH hB;have tY:=qH hO;have Ar:w.heap.size+1≤X.heap.size:=hB.size;clear hB hO;go_wp2_with fail
   obtain ⟨X1,rfl⟩:∃x,x=X:=⟨_,rfl⟩
   go_loopw [5,6] (fun v5 v6 wv=>∃(i N2 d2:Nat) (B2:Option Addr) (V:World),V=wv∧v5=H B2 N2 d2∧v6=D J (i:Int)∧i≤n∧Row V X1.heap.size 4 B2 N2 d2 (((zBh L f i).map (zEi L f 0)).flatMap zCI)∧N2≤i∧Hid ((zBh L f i).length=N2)∧Below X1.heap.size X1 V) (fun _ v6 _=>n-(intOf v6).toNat)
   case atStart=>exact ⟨0,0,0,U,_,rfl,rfl,rfl,Nat.zero_le _,Row.none_ _ _ _,Nat.le_refl _,qH rfl,Below.refl _ _⟩
   case round =>
    obtain ⟨i,N2,d2,B2,X2,tC,rfl,rfl,hi,eG,hN2,ng,ab⟩:=hrel;subst tC;have nF:=qH (tR.out.more ab);have iz:=qH ab;have fz:=qH eG;have e0:=nF.out.c0;have e1:=nF.out.c1;have wT:=qH (HA.out.below nF.out.below);clear eG ab;by_cases hlt:i < n
    ·have j0:(0:Int)≤(i:Int):=by omega
     have j1:(i:Int) < (n:Int):=by omega
     obtain ⟨dd,hd⟩:∃b,(isP (la L i)&&dwn L i)=b:=⟨_,rfl⟩
     have ju:=qH (fun wx hx=>zNE (K:=K) (A:=A) (c:=c) hd wx hx hn hlt);have HD:=qH (show dnB L i=dd from hd);clear hd;go_wp2_with fail
     refine (ju.out _ wT.out).mono ?_;rintro e Y ⟨rfl,ac⟩;have lE:=qH (nF.out.more ac);have kZ:=qH (zAa iz.out ac iz.out.size);have js:=qH (fz.out.below ac);have yy:=qH (wT.out.below ac);have e0:=lE.out.c0;have e1:=lE.out.c1;clear ac nF iz fz wT ju
     cases dd with
     | false =>
      have lK:=qH (zTK (zXd (f:=f) HD.out));have eB:=ng.out;have yn:=qH (show Row Y X1.heap.size 4 B2 N2 d2 (((zBh L f (i+1)).map (zEi L f 0)).flatMap zCI) by rw [lK.out];exact js.out);have HN4:=qH (show (zBh L f (i+1)).length=N2 by rw [lK.out];exact eB);clear eB lK;go_wp2_with fail
      go_roundw
      case rel=>exact ⟨i+1,N2,d2,B2,_,rfl,rfl,by go_num,hlt,yn.out,by omega,HN4,kZ.out⟩
      case measure=>simp [intOf];omega
     | true =>
      have hup:=HP.out.up HD.out;have hin:i+1 < n:=by rw [←aZ.out];exact hup.1
      have hnear:=HP.out.near i HD.out;obtain ⟨t,ht⟩:∃t,(i+1) % n=t:=⟨_,rfl⟩
      have hti:t=i+1:=by rw [←ht];exact Nat.mod_eq_of_lt hin
      have htn:t < n:=by omega
      rw [←hti] at hnear;obtain ⟨g,o,rfl,hgl,hat,_⟩:=yy.out.at_ hlt;obtain ⟨g',o',he,_,gQ,_⟩:=yy.out.at_ htn;injection he with he
      injection he with he1 he2
      subst he1;subst he2
      obtain ⟨x0,x1,x2,x3,x4,x5⟩:=hat;obtain ⟨y0,y1,y2,y3,y4,y5⟩:=gQ;obtain ⟨q,hq⟩:∃q,la L t=q:=⟨_,rfl⟩
      obtain ⟨r,hr⟩:∃r,la L i=r:=⟨_,rfl⟩
      rw [hr] at x0 x1 x2 x3 x4 x5 hnear;rw [hq] at y0 y1 y2 y3 y4 y5 hnear;have lY:=qH (fun wx=>zTf (K:=K) (A:=Z ⟨g,o,U⟩) (c:=c) ht wx hn (by omega) (by omega));have HQ:=qH hq;have rh:=qH hr;have BX:=qH hti;have oI:=qH hnear;have bM:=qH (show g < Y.heap.size∧Y.cell? ⟨g,o+i*6,U⟩=Z (D J r.kind)∧Y.cell? ⟨g,o+i*6+1,U⟩=Z (D J r.gate)∧Y.cell? ⟨g,o+i*6+2,U⟩=Z (D J r.rank)∧Y.cell? ⟨g,o+i*6+3,U⟩=Z (D J r.id)∧Y.cell? ⟨g,o+i*6+4,U⟩=Z (D J r.sign)∧Y.cell? ⟨g,o+i*6+5,U⟩=Z (G r.over)∧Y.cell? ⟨g,o+t*6,U⟩=Z (D J q.kind)∧Y.cell? ⟨g,o+t*6+1,U⟩=Z (D J q.gate)∧Y.cell? ⟨g,o+t*6+2,U⟩=Z (D J q.rank)∧Y.cell? ⟨g,o+t*6+3,U⟩=Z (D J q.id)∧Y.cell? ⟨g,o+t*6+4,U⟩=Z (D J q.sign)∧Y.cell? ⟨g,o+t*6+5,U⟩=Z (G q.over) from ⟨hgl,x0,x1,x2,x3,x4,x5,y0,y1,y2,y3,y4,y5⟩);have w1:IntKind.i64.wrap ((i:Int)+1)=(i:Int)+1:=IntWalk.i64_in _ (by omega);clear hup hnear ht hti hq hr hgl x0 x1 x2 x3 x4 x5 y0 y1 y2 y3 y4 y5;go_wp2_with fail
      refine (lY.out _).mono ?_;rintro e Y2 ⟨rfl,ah⟩;have yl:=qH (lE.out.more ah);have xc:=qH (zAa kZ.out ah kZ.out.size);have yn:=qH (js.out.below ah);have rg:=qH (show ∀wx,Below Y2.heap.size Y2 wx→(Below Y2.heap.size Y2 wx∧wx.cell? ⟨w.heap.size,1,U⟩=Z (H (Z ⟨g,o,U⟩) n c)∧wx.cell? ⟨g,o+i*6,U⟩=Z (D J r.kind)∧wx.cell? ⟨g,o+i*6+1,U⟩=Z (D J r.gate)∧wx.cell? ⟨g,o+i*6+2,U⟩=Z (D J r.rank)∧wx.cell? ⟨g,o+i*6+3,U⟩=Z (D J r.id)∧wx.cell? ⟨g,o+i*6+4,U⟩=Z (D J r.sign)∧wx.cell? ⟨g,o+i*6+5,U⟩=Z (G r.over)∧wx.cell? ⟨g,o+t*6,U⟩=Z (D J q.kind)∧wx.cell? ⟨g,o+t*6+1,U⟩=Z (D J q.gate)∧wx.cell? ⟨g,o+t*6+2,U⟩=Z (D J q.rank)∧wx.cell? ⟨g,o+t*6+3,U⟩=Z (D J q.id)∧wx.cell? ⟨g,o+t*6+4,U⟩=Z (D J q.sign)∧wx.cell? ⟨g,o+t*6+5,U⟩=Z (G q.over)) from fun wx h=>⟨h,(yl.out.more h).c1,((zAa ah h ah.size).cell (p:=⟨g,o+i*6,U⟩) bM.out.1).trans bM.out.2.1,((zAa ah h ah.size).cell (p:=⟨g,o+i*6+1,U⟩) bM.out.1).trans bM.out.2.2.1,((zAa ah h ah.size).cell (p:=⟨g,o+i*6+2,U⟩) bM.out.1).trans bM.out.2.2.2.1,((zAa ah h ah.size).cell (p:=⟨g,o+i*6+3,U⟩) bM.out.1).trans bM.out.2.2.2.2.1,((zAa ah h ah.size).cell (p:=⟨g,o+i*6+4,U⟩) bM.out.1).trans bM.out.2.2.2.2.2.1,((zAa ah h ah.size).cell (p:=⟨g,o+i*6+5,U⟩) bM.out.1).trans bM.out.2.2.2.2.2.2.1,((zAa ah h ah.size).cell (p:=⟨g,o+t*6,U⟩) bM.out.1).trans bM.out.2.2.2.2.2.2.2.1,((zAa ah h ah.size).cell (p:=⟨g,o+t*6+1,U⟩) bM.out.1).trans bM.out.2.2.2.2.2.2.2.2.1,((zAa ah h ah.size).cell (p:=⟨g,o+t*6+2,U⟩) bM.out.1).trans bM.out.2.2.2.2.2.2.2.2.2.1,((zAa ah h ah.size).cell (p:=⟨g,o+t*6+3,U⟩) bM.out.1).trans bM.out.2.2.2.2.2.2.2.2.2.2.1,((zAa ah h ah.size).cell (p:=⟨g,o+t*6+4,U⟩) bM.out.1).trans bM.out.2.2.2.2.2.2.2.2.2.2.2.1,((zAa ah h ah.size).cell (p:=⟨g,o+t*6+5,U⟩) bM.out.1).trans bM.out.2.2.2.2.2.2.2.2.2.2.2.2⟩);have e1:=yl.out.c1;have t0:(0:Int)≤(t:Int):=by omega
      have t1:(t:Int) < (n:Int):=by omega
      clear lY lE kZ js;go_upto_region 11 with fail
      go_cut [8,9] (fun v8 v9 wv=>∃(V:World) (b8 b9:Nat),V=wv∧v8=.pointer (Z ⟨b8,0,U⟩)∧v9=.pointer (Z ⟨b9,0,U⟩)∧Blk V b8 76 #[D J r.kind,D J r.gate,D J r.rank,D J r.id,D J r.sign,G r.over]∧Blk V b9 76 #[D J q.kind,D J q.gate,D J q.rank,D J q.id,D J q.sign,G q.over]∧Below Y2.heap.size Y2 V)
      case first =>
       go_region_held3 (fun wx=>Below Y2.heap.size Y2 wx∧wx.cell? ⟨w.heap.size,1,U⟩=Z (H (Z ⟨g,o,U⟩) n c)∧wx.cell? ⟨g,o+i*6,U⟩=Z (D J r.kind)∧wx.cell? ⟨g,o+i*6+1,U⟩=Z (D J r.gate)∧wx.cell? ⟨g,o+i*6+2,U⟩=Z (D J r.rank)∧wx.cell? ⟨g,o+i*6+3,U⟩=Z (D J r.id)∧wx.cell? ⟨g,o+i*6+4,U⟩=Z (D J r.sign)∧wx.cell? ⟨g,o+i*6+5,U⟩=Z (G r.over)∧wx.cell? ⟨g,o+t*6,U⟩=Z (D J q.kind)∧wx.cell? ⟨g,o+t*6+1,U⟩=Z (D J q.gate)∧wx.cell? ⟨g,o+t*6+2,U⟩=Z (D J q.rank)∧wx.cell? ⟨g,o+t*6+3,U⟩=Z (D J q.id)∧wx.cell? ⟨g,o+t*6+4,U⟩=Z (D J q.sign)∧wx.cell? ⟨g,o+t*6+5,U⟩=Z (G q.over)) (first | (with_reducible refine rg.out _ ?_;repeat (first | with_reducible assumption | ((with_reducible refine zAI ?_ ?_ _ _ _ _ _ _);rotate_left;(focus first | omega | (simp;done) | (simp;omega))) | with_reducible exact Below.refl _ _ | with_reducible apply Below.drew | ((with_reducible refine zEj ?_ ?_);focus (first | omega | (simp;done) | (simp;omega))))))
        (fail)
       all_goals
        go_wp2_with fail
        go_meet
       all_goals refine ⟨_,_,_,rfl,rfl,rfl,?_,?_,?_⟩
       all_goals first
        | ((repeat (first | with_reducible exact Blk.new _ _ _ | (with_reducible refine Blk.drew ?_) | with_reducible exact (Blk.new _ _ _).alloc _ | with_reducible exact heap_alloc2_new _ _ _ | ((with_reducible refine Blk.storeL ?_ _ _ _ _ _ _)) | ((with_reducible refine Blk.far6 ?_ ?_ _ _ _ _ _ _);rotate_left;(focus first | omega | (simp;done) | (simp;omega)))));done)
        | exact heap_alloc2_new Y2 _ _
        | exact Below.drew (((Below.refl _ _).alloc (Nat.le_refl _) _).alloc (by simp) _)
        | (repeat (first | with_reducible assumption | ((with_reducible refine zAI ?_ ?_ _ _ _ _ _ _);rotate_left;(focus first | omega | (simp;done) | (simp;omega))) | with_reducible exact Below.refl _ _ | with_reducible apply Below.drew | ((with_reducible refine zEj ?_ ?_);focus (first | omega | (simp;done) | (simp;omega))));done)
      case rest =>
       obtain ⟨V,b8,b9,hV,rfl,rfl,lU,eV,hbv⟩:=hcut;subst hV;have wM:=qH (yl.out.more hbv);have yH:=qH (zAa xc.out hbv xc.out.size);have lI:=qH (yn.out.below hbv);obtain ⟨y,hy⟩:∃y,r.gate=y:=⟨_,rfl⟩
       obtain ⟨z,hz⟩:∃z,q.gate=z:=⟨_,rfl⟩
       have hcs:=zTg (L:=L) (f:=f) (y:=y) (z:=z) HD.out (by rw [rh.out];exact hy) (by rw [←BX.out,HQ.out];exact hz) (by have:=oI.out;rw [hy,hz] at this;omega);have hne:=oI.out;rw [hy,hz] at hne;have nl:=qH hcs;have dk:=HF.out;have aC:1≤f∧f≤1001:=by omega
       have w3:IntKind.i64.wrap (f-1)=f-1:=IntWalk.i64_in _ (by omega);have f8:(V.alloc (.cells #[D J f,D J 0,D J (i:Int),D J (t:Int)] 120)).cell? ⟨b8,1,U⟩=Z (D J y):=by rw [←hy];exact ((lU.alloc (.cells #[D J f,D J 0,D J (i:Int),D J (t:Int)] 120)).cell 1).trans rfl
       have f9:(V.alloc (.cells #[D J f,D J 0,D J (i:Int),D J (t:Int)] 120)).cell? ⟨b9,1,U⟩=Z (D J z):=by rw [←hz];exact ((eV.alloc (.cells #[D J f,D J 0,D J (i:Int),D J (t:Int)] 120)).cell 1).trans rfl
       have kx:=Blk.new V 120 #[D J f,D J 0,D J (i:Int),D J (t:Int)];have hbl:=(Below.refl V.heap.size V).alloc (Nat.le_refl _) (.cells #[D J f,D J 0,D J (i:Int),D J (t:Int)] 120);clear hcs dk hy hz lU eV hbv e1 w1 t0 t1 rg bM yl xc yn;go_upto_region 13 with fail
       generalize V.alloc (.cells #[D J f,D J 0,D J (i:Int),D J (t:Int)] 120)=ZU at f8 f9 kx hbl ⊢;have HZ:=qH hbl;have HX:=qH kx;clear hbl;go_cut [58] (fun v58 wv=>v58=G (decide (y=f∧z=f-1))∧wv=ZU)
       case first =>
        clear kx;by_cases h1:y=f
        ·have tA:(y==f)=Q:=by simpa using h1
         by_cases h2:z=f-1
         ·have tB:(z==f-1)=Q:=by simpa using h2
          have h3:Hid (decide (y=f∧z=f-1)=Q):=qH (decide_eq_true ⟨h1,h2⟩);clear h1 h2 hne aC;go_wp2_with fail
          go_meet
          case rel=>exact ⟨by rw [h3.out],rfl⟩
         ·have tB:(z==f-1)=E:=by simpa using h2
          have h3:Hid (decide (y=f∧z=f-1)=E):=qH (decide_eq_false fun e=>h2 e.2);clear h1 h2 hne aC;go_wp2_with fail
          go_meet
          case rel=>exact ⟨by rw [h3.out],rfl⟩
        ·have tA:(y==f)=E:=by simpa using h1
         have h3:Hid (decide (y=f∧z=f-1)=E):=qH (decide_eq_false fun e=>h1 e.1);clear h1 hne aC;go_wp2_with fail
         go_meet
         case rel=>exact ⟨by rw [h3.out],rfl⟩
       case rest =>
        obtain ⟨rfl,hV⟩:=hcut;subst wc;go_upto_if 58 with fail
        go_cut [] (fun wv=>∃V':World,V'=wv∧zIl L f i=Q∧Blk V' V.heap.size 120 #[D J f,D J 0,D J (liN L i:Int),D J (riN L i:Int)]∧Below V.heap.size V V')
        case first =>
         by_cases h1:y=f∧z=f-1
         ·have tX:=qH (nl.out.1.2 (.inl h1));have ma:=qH (show liN L i=t∧riN L i=i by rw [nl.out.2.1,nl.out.2.2,if_pos (by omega),if_pos (by omega),BX.out];exact ⟨rfl,rfl⟩);rw [decide_eq_true h1];have s0:ZU.cell? ⟨V.heap.size,0,U⟩=Z (D J f):=(kx.cell 0).trans rfl;have s1:ZU.cell? ⟨V.heap.size,1,U⟩=Z (D J 0):=(kx.cell 1).trans rfl;have s2:ZU.cell? ⟨V.heap.size,2,U⟩=Z (D J (i:Int)):=(kx.cell 2).trans rfl;have s3:ZU.cell? ⟨V.heap.size,3,U⟩=Z (D J (t:Int)):=(kx.cell 3).trans rfl;have z0:=kx.frozen 0;have z1:=kx.frozen 1;have z2:=kx.frozen 2;have z3:=kx.frozen 3;have HS:=qH (kx.store4 (D J f) (D J 0) (D J (t:Int)) (D J (i:Int)));have HBS:=qH (((((HZ.out.setCell (p:=⟨V.heap.size,0,U⟩) (Nat.le_refl _) (D J f)).setCell (p:=⟨V.heap.size,1,U⟩) (Nat.le_refl _) (D J 0)).setCell (p:=⟨V.heap.size,2,U⟩) (Nat.le_refl _) (D J (t:Int))).setCell (p:=⟨V.heap.size,3,U⟩) (Nat.le_refl _) (D J (i:Int))));clear h1 hne aC kx f8 f9;go_wp2_with fail
          go_meet
          case rel=>exact ⟨_,rfl,tX.out,by rw [ma.out.1,ma.out.2];exact HS.out,HBS.out⟩
         ·rw [decide_eq_false h1];have c2:ZU.cell? ⟨b8,1,U⟩=Z (D J y):=f8;by_cases h2:y=f-1∧z=f
          ·have tX:=qH (nl.out.1.2 (.inr h2));have ma:=qH (show liN L i=i∧riN L i=t by rw [nl.out.2.1,nl.out.2.2,if_neg (by omega),if_neg (by omega),BX.out];exact ⟨rfl,rfl⟩);have tA:(y != f-1)=E:=by simpa using h2.1
           have tB:(z != f)=E:=by simpa using h2.2
           clear h1 h2 hne aC;go_wp2_with fail
           go_meet
           case rel=>exact ⟨_,rfl,tX.out,by rw [ma.out.1,ma.out.2];exact HX.out,HZ.out⟩
          ·have hno:zIl L f i=E:=by
            cases e:zIl L f i with
            | false=>rfl
            | true=>rcases nl.out.1.1 e with h | h
                    ·exact absurd h h1
                    ·exact absurd h h2
           have lK:=qH (zTK hno);have lH:=qH (show Row ZU X1.heap.size 4 B2 N2 d2 (((zBh L f (i+1)).map (zEi L f 0)).flatMap zCI) by rw [lK.out];exact lI.out.below HZ.out);have E6:=qH (show (zBh L f (i+1)).length=N2 by rw [lK.out];exact ng.out);have wZ:=qH (zAa yH.out HZ.out yH.out.size);by_cases h3:y=f-1
           ·have tA:(y != f-1)=E:=by simpa using h3
            have tB:(z != f)=Q:=by simpa using (fun e=>h2 ⟨h3,e⟩)
            clear h1 h2 h3 hno hne aC kx;go_wp2_with fail
            go_roundw
            case rel=>exact ⟨i+1,N2,d2,B2,_,rfl,rfl,by go_num,hlt,lH.out,by omega,E6,wZ.out⟩
            case measure=>simp [intOf];omega
           ·have tA:(y != f-1)=Q:=by simpa using h3
            clear h1 h2 h3 hno hne aC kx;go_wp2_with fail
            go_roundw
            case rel=>exact ⟨i+1,N2,d2,B2,_,rfl,rfl,by go_num,hlt,lH.out,by omega,E6,wZ.out⟩
            case measure=>simp [intOf];omega
        case rest =>
         obtain ⟨V2,At,hown,kx,nY⟩:=hcut;subst At;have wZ:=qH (zAa yH.out nY yH.out.size);have oH:=qH (wM.out.more nY);have lH:=qH (lI.out.below nY);have tX:=qH hown;obtain ⟨li,hli⟩:∃x,liN L i=x:=⟨_,rfl⟩
         obtain ⟨ri,hri⟩:∃x,riN L i=x:=⟨_,rfl⟩
         rw [hli,hri] at kx;have hlin:li < n:=by rw [←hli,←aZ.out];exact (zVy HP.out HD.out).1
         have hpd:=fun k=>zXe (L:=L) (f:=f) (m:=i) (k:=k)
         obtain ⟨P,hP⟩:∃P,zBh L f i=P:=⟨_,rfl⟩
         rw [hP] at lH ng hpd;have tW:=qH hP;have HPD:=qH hpd;have Fa:=qH kx;have ma:=qH hli;have tT:=qH hri;clear nY hown hP hpd kx hli hri HX HZ nl hne aC w3 f8 f9;go_wp2_with fail
         obtain ⟨V3,rfl⟩:∃x,x=V2:=⟨_,rfl⟩
         go_loopw [11] (fun v11 wv=>∃(k:Nat) (V4:World),V4=wv∧v11=D J (k:Int)∧k≤N2∧Below V3.heap.size V3 V4∧Hid (∀j:Nat,j < k→rkN L (na P j) < rkN L i)) (fun v11 _=>N2-(intOf v11).toNat)
         case atStart=>exact ⟨0,_,rfl,rfl,Nat.zero_le _,Below.refl _ _,qH (fun j hj=>by omega)⟩
         case round =>
          obtain ⟨k,V4,gU,rfl,hk,be,HS⟩:=hrel;subst gU;have yk:=qH (oH.out.more be);have tU:=qH (lH.out.below be);have BP:=qH (Fa.out.below be Fa.out.lt);have yG:=qH be;have e1:=yk.out.c1;clear be;obtain ⟨qk,hqk⟩:∃b,(decide (k < N2)&&decide (rkN L (na P k) < rkN L i))=b:=⟨_,rfl⟩
          have yq:=qH hqk;clear hqk;go_upto_region 17 with fail
          go_cut [97] (fun v97 wv=>v97=G qk∧∃V5:World,V5=wv∧Below V4.heap.size V4 V5)
          case first =>
           by_cases hkn:k < N2
           ·have t1:(k:Int) < (N2:Int):=by omega
            have t2:(0:Int)≤(k:Int):=by omega
            obtain ⟨g2,o2,rfl,_,bn⟩:=tU.out.form (by omega);have hkp:k < P.length:=by rw [ng.out];exact hkn
            have s0:=zVz tU.out hkp;have s1:V4.cell? ⟨V.heap.size,2,U⟩=Z (D J (li:Int)):=(BP.out.cell 2).trans rfl;have eN:liN L (na P k) < n:=by rw [←aZ.out];exact (zVy HP.out (HPD.out k hkp)).1
            have wS:=HA.out.below yk.out.below;obtain ⟨g3,o3,io,_,⟨_,_,p2,_,_,_⟩,_⟩:=wS.at_ eN;injection io with io
            injection io with he4 he5
            subst he4;subst he5
            obtain ⟨g3,o3,io,_,⟨_,_,p3,_,_,_⟩,_⟩:=wS.at_ hlin;injection io with io
            injection io with he4 he5
            subst he4;subst he5
            have fW:=yq.out;rw [decide_eq_true hkn,Bool.true_and] at fW;unfold rkN at fW;rw [ma.out] at fW;obtain ⟨l1,vh⟩:∃x,liN L (na P k)=x:=⟨_,rfl⟩
            rw [vh] at s0 eN p2 fW;generalize (la L l1).rank=ra at p2 fW;generalize (la L li).rank=rb at p3 fW;have t3:(0:Int)≤(l1:Int):=by omega
            have t4:(l1:Int) < (n:Int):=by omega
            have t5:(0:Int)≤(li:Int):=by omega
            have t6:(li:Int) < (n:Int):=by omega
            have rm:=qH (zAf (Below.refl V4.heap.size V4));clear wS vh hkp bn;by_cases hc:ra < rb
            ·obtain rfl:Q=qk:=by rw [←fW,decide_eq_true hc]
             clear fW;go_quiet (fail)
             go_wp2_with fail
             go_meet
             case rel=>exact ⟨rfl,_,rfl,rm.out _⟩
            ·obtain rfl:E=qk:=by rw [←fW,decide_eq_false hc]
             clear fW;go_quiet (fail)
             go_wp2_with fail
             go_meet
             case rel=>exact ⟨rfl,_,rfl,rm.out _⟩
           ·have t1:¬(k:Int) < (N2:Int):=by omega
            obtain rfl:E=qk:=by have:=yq.out;rw [decide_eq_false hkn] at this;simpa using this
            have rm:=qH (zAf (Below.refl V4.heap.size V4));go_quiet (fail)
            go_wp2_with fail
            go_meet
            case rel=>exact ⟨rfl,_,rfl,rm.out _⟩
          case rest =>
           obtain ⟨rfl,V5,oi,bc⟩:=hcut;subst oi
           cases qk with
           | true =>
            have hqk:=yq.out;rw [Bool.and_eq_true,decide_eq_true_eq,decide_eq_true_eq] at hqk
            have eJ:=qH (show ∀j:Nat,j < k+1→rkN L (na P j) < rkN L i from fun j hj=>by
             rcases Nat.decEq j k with e | e
             ·exact HS.out j (by omega)
             ·rw [e];exact hqk.2)
            have ag:k+1≤N2:=hqk.1;have CH:=qH (zAa yG.out bc yG.out.size);clear hqk bc;go_wp2_with fail
            go_roundw
            case rel=>exact ⟨k+1,_,rfl,by go_num,ag,CH.out,eJ⟩
            case measure=>simp [intOf];omega
           | false =>
            have tb:=qH (show zJW L i P=P.take k++i :: P.drop k from zTH (by rw [ng.out];exact hk) HS.out (fun h=>by
             have hqk:=yq.out
             rw [ng.out] at h
             rw [decide_eq_true h,Bool.true_and,decide_eq_false_iff_not] at hqk
             exact hqk))
            have CH:=qH (zAa yG.out bc yG.out.size);have tQ:=qH (BP.out.below bc BP.out.lt);have tI:=tU.out.below bc;have CG:=qH (zAa wZ.out CH.out wZ.out.size);obtain ⟨A1,qB,fW⟩:=zXY tI hk;obtain ⟨A2,iY,Du⟩:=zVx tI hk;have wK:=qH (fun wx hx=>Src.bel (w':=wx) fW hx);have BL:=qH (fun wx hx=>Src.bel (w':=wx) Du hx);have hkm:N2+1≤1000000:=by omega
            have eV:k≤1000000:=by omega
            have lU:k+1≤1000000:=by omega
            have zX:k+1+(N2-k)=N2+1:=by omega
            have s0:V5.cell? ⟨V.heap.size,0,U⟩=Z (D J f):=(tQ.out.cell 0).trans rfl;have s1:V5.cell? ⟨V.heap.size,1,U⟩=Z (D J 0):=(tQ.out.cell 1).trans rfl;have s2:V5.cell? ⟨V.heap.size,2,U⟩=Z (D J (li:Int)):=(tQ.out.cell 2).trans rfl;have s3:V5.cell? ⟨V.heap.size,3,U⟩=Z (D J (ri:Int)):=(tQ.out.cell 3).trans rfl;have HMP:=qH (zVA (k:=k) tX.out tW.out tb.out);have HL6:=qH (show (zBh L f (i+1)).length=N2+1 by rw [zNF tX.out,zMw,tW.out,ng.out]);clear tI fW Du bc e1;go_upto_region 19 with fail
            go_region_law (first
             | ((refine zTe rfl (.const (H U 0 0)) (.tmp 102) (by rfl) [] (Row.none_ _ V5.heap.size 4) ((P.map (zEi L f 0)).take k) (by first | exact wK.out _ (Below.refl _ _).drew | exact wK.out _ ((Below.refl _ _).drew.alloc (Nat.le_refl _) _)) (by rfl) (by rfl) k (by omega) eV (by first | exact Nat.le_refl _ | (simp;done) | (simp;omega)) ?_)
                intro A3 c3 w1 dP aj bT eN
                have ky:Below V5.heap.size V5 w1:=(by first | exact (Below.refl _ _).drew.trans aj | exact ((Below.refl _ _).drew.alloc (Nat.le_refl _) _).trans aj)
                have xw:=tQ.out.below ky tQ.out.lt
                have u0:w1.cell? ⟨V.heap.size,0,U⟩=Z (D J f):=(xw.cell 0).trans rfl
                have u1:w1.cell? ⟨V.heap.size,1,U⟩=Z (D J 0):=(xw.cell 1).trans rfl
                have u2:w1.cell? ⟨V.heap.size,2,U⟩=Z (D J (li:Int)):=(xw.cell 2).trans rfl
                have u3:w1.cell? ⟨V.heap.size,3,U⟩=Z (D J (ri:Int)):=(xw.cell 3).trans rfl
                try have krec:Blk w1 V5.heap.size 120 #[D J f,D J 0,D J (li:Int),D J (ri:Int)]:=Blk.grown (Blk.new V5.drew 120 #[D J f,D J 0,D J (li:Int),D J (ri:Int)]) bT (by simp [blk]))
             | ((refine zTe rfl (.tmp 103) (.tmp 105) (by rfl) ((P.map (zEi L f 0)).take k) dP [⟨f,0,(li:Int),(ri:Int)⟩] (Blk.srcQ ⟨f,0,(li:Int),(ri:Int)⟩ krec) (by rfl) (by rfl) (k+1) rfl lU ky.size ?_)
                intro A4 c4 w2 nC ab bn eB
                have xx:=ky.trans ab)
             | ((refine zTe rfl (.tmp 103) (.tmp 105) (by rfl) ((P.map (zEi L f 0)).take k) (dP.alloc _) [⟨f,0,(li:Int),(ri:Int)⟩] (Blk.srcQ ⟨f,0,(li:Int),(ri:Int)⟩ (Blk.new w1 120 #[D J f,D J 0,D J (li:Int),D J (ri:Int)])) (by rfl) (by rfl) (k+1) rfl lU (Nat.le_trans ky.size (by simp)) ?_)
                intro A4 c4 w2 nC ab bn eB
                have xx:=(ky.alloc ky.size _).trans ab)
             | ((refine zTe rfl (.tmp 106) (.tmp 109) (by rfl) ((P.map (zEi L f 0)).take k++[⟨f,0,(li:Int),(ri:Int)⟩]) nC ((P.map (zEi L f 0)).drop k) (BL.out _ xx) (by rfl) (by rfl) (N2+1) zX hkm xx.size ?_)
                intro A5 c5 w3 eY ac db lj
                have Dn:=xx.trans ac))
            all_goals
             have Cb:=qH (show Row w3 X1.heap.size 4 A5 (N2+1) c5 (((zBh L f (i+1)).map (zEi L f 0)).flatMap zCI) by
              rw [HMP.out,show zEi L f 0 i=⟨f,0,(li:Int),(ri:Int)⟩ by unfold zEi;rw [ma.out,tT.out]]
              exact eY.mono CG.out.size)
             have CI:=qH (zAa CG.out Dn CG.out.size);clear eY Dn ac db lj;go_wp2_with fail
             go_roundw
             case rel=>exact ⟨i+1,N2+1,c5,A5,_,rfl,rfl,by go_num,hlt,Cb.out,by omega,HL6,CI.out⟩
             case measure=>simp [intOf];omega
    ·have j1:¬(i:Int) < (n:Int):=by omega
     have hin:i=n:=by omega
     obtain ⟨P,hP⟩:∃P,zBh L f L.length=P:=⟨_,rfl⟩
     have AF:zBh L f i=P:=by rw [hin,←aZ.out];exact hP
     have Ck:=qH (show P.length=N2 by rw [←AF];exact ng.out);have js:=qH (show Row X2 X1.heap.size 4 B2 N2 d2 ((zFa L f P 0).flatMap zCI) by rw [zOF,←AF];exact fz.out);have HO3:=qH (tY.out.below iz.out)
     have hG:=qH (show ∀k,blk B=Z k→blk B2≠Z k from fun k hk e2=>by
      have h1:=(tY.out.lt k hk).2
      have h2:=(js.out.lt k e2).1
      omega)
     have Ff:=qH (show zFd L (g0+1)=zFd L g0++zOP L f P by rw [zLd,←HF.out,hP]);have hn4:N2≤400:=by omega
     have hn5:N≤400000:=by have:g0*400≤1000*400:=Nat.mul_le_mul_right _ (by omega);omega
     clear hin hP AF fz;go_wp2_with fail
     obtain ⟨X3,rfl⟩:∃x,x=X2:=⟨_,rfl⟩
     go_loopw [3,12] (fun v3 v12 wv=>∃(q N3 d3:Nat) (B3:Option Addr) (V:World),V=wv∧v3=H B3 N3 d3∧v12=D J (q:Int)∧q≤N2∧N3=N+q∧Row V (w.heap.size+1) 4 B3 N3 d3 ((zFd L g0++(zOP L f P).take q).flatMap zCI)∧Row V X1.heap.size 4 B2 N2 d2 ((zFa L f P q).flatMap zCI)∧Hid (∀k,blk B3=Z k→blk B2≠Z k)∧Boxed w V K A n c) (fun _ v12 _=>N2-(intOf v12).toNat)
     case atStart=>exact ⟨0,N,d,B,_,rfl,rfl,rfl,Nat.zero_le _,rfl,by simpa using HO3.out,js.out,hG,nF.out⟩
     case round =>
      obtain ⟨q,N3,d3,B3,V,hV,rfl,rfl,hq,DP,lT,ft,sU,D7⟩:=hrel;subst hV;have Cp:=qH DP;have wM:=qH D7;have lI:=qH ft;have Ci:=qH lT;have hn6:N3+1≤1000000:=by omega
      clear ft lT D7 DP;by_cases hqn:q < N2
      ·have t1:(q:Int) < (N2:Int):=by omega
       have t2:(0:Int)≤(q:Int):=by omega
       have t3:IntKind.i64.wrap ((q:Int)+1)=(q:Int)+1:=IntWalk.i64_in _ (by omega);have hqp:q < P.length:=by rw [Ck.out];exact hqn
       obtain ⟨g2,o2,rfl,Ad,hlt2⟩:=lI.out.form (by omega);have hcp:=lI.out.cap;have c1:=(zNG lI.out hqp).2.1;have z1:V.frozen? ⟨g2,o2+q*4+1,U⟩=E:=lI.out.free (j:=q*4+1) (by omega);have hbo:w.heap.size+1≤g2:=Nat.le_trans Ar Ad
       have lH:=qH (show Row (V.setCell ⟨g2,o2+q*4+1,U⟩ (D J ((q:Int)+1))) X1.heap.size 4 (Z ⟨g2,o2,U⟩) N2 d2 ((zFa L f P (q+1)).flatMap zCI) by
        rw [←zVB hqp];exact lI.out.put (q:=q*4+1) (by omega) _)
       have Ch:=qH (Ci.out.farSet (g:=g2) (o2+q*4+1) (D J ((q:Int)+1)) (fun k hk e=>sU.out k hk (by rw [e];rfl)));have oH:=qH (show Boxed w (V.setCell ⟨g2,o2+q*4+1,U⟩ (D J ((q:Int)+1))) K A n c from Below.setCell (p:=⟨g2,o2+q*4+1,U⟩) (show Below _ _ _ from wM.out) hbo _);have tS:=qH (show V.heap.size=(V.setCell ⟨g2,o2+q*4+1,U⟩ (D J ((q:Int)+1))).heap.size by simp);go_upto_region 24 with fail
       clear c1 z1 lI Ci wM;generalize V.setCell ⟨g2,o2+q*4+1,U⟩ (D J ((q:Int)+1))=ZU at lH Ch oH tS ⊢;obtain ⟨y0,y1,y2,y3⟩:=zNG lH.out hqp;rw [if_pos (by omega)] at y1;have lF:=qH (zQW L f hqp);have hzz:w.heap.size+1≤ZU.heap.size:=oH.out.size;obtain ⟨l1,eN⟩:∃x,liN L (na P q)=x:=⟨_,rfl⟩
       obtain ⟨r1,hr1⟩:∃x,riN L (na P q)=x:=⟨_,rfl⟩
       rw [eN] at y2;rw [hr1] at y3;have Cq:=qH (show zEi L f ((q:Int)+1) (na P q)=⟨f,(q:Int)+1,(l1:Int),(r1:Int)⟩ by unfold zEi;rw [eN,hr1]);clear eN hr1;go_upto_region 22 with (at_builtin;refine zGT ?_)
       refine qH ?_;refine zXX (base:=w.heap.size+1) (A:=B3) (n:=N3) (c:=d3) (P:=zFd L g0++(zOP L f P).take q) rfl (.tmp 123) (.tmp 128) ?_ ?_ ⟨f,(q:Int)+1,(l1:Int),(r1:Int)⟩ ?_ ?_ (N3+1) ?_ ?_ ?_ ?_
       ·rfl
       ·exact Ch.out
       ·rfl
       ·rfl
       ·rfl
       ·exact hn6
       ·exact hzz
       intro B4 d4 w9 hR9 bx bg;have aP:=Ch.out.belowOf bx hzz;have HO9:=qH (show Row w9 (w.heap.size+1) 4 B4 (N3+1) d4 ((zFd L g0++(zOP L f P).take (q+1)).flatMap zCI) by rw [lF.out,Cq.out,←List.append_assoc];exact hR9);have Cb:=qH (lH.out.kept bx (.inr (fun e=>sU.out g2 e.symm rfl)))
       have HS9:=qH (show ∀k,blk B4=Z k→blk (Z (⟨g2,o2,U⟩:Addr))≠Z k from fun k hk e=>by
        have h1:=(lH.out.lt k e).2
        rcases bg k hk with h | h
        ·exact sU.out k h e
        ·omega)
       have nc:=qH (oH.out.moreB aP (Nat.le_refl _));have yw:=qH (show N3+1=N+(q+1) by have:=Cp.out;omega);clear hR9 bx bg aP y0 y1 y2 y3;go_wp2_with fail
       go_roundw
       case rel=>exact ⟨q+1,N3+1,d4,B4,_,rfl,rfl,by go_num,hqn,yw.out,HO9.out,Cb.out,HS9,nc.out⟩
       case measure=>simp [intOf];omega
      ·have t1:¬(q:Int) < (N2:Int):=by omega
       have hqe:q=N2:=by omega
       have HO7:=qH (show Row V (w.heap.size+1) 4 B3 N3 d3 ((zFd L (g0+1)).flatMap zCI) by
        rw [Ff.out]
        have h1:=Ci.out
        rwa [hqe,←Ck.out,←zJX L f P,List.take_length] at h1)
       have wS:=qH (show (zFd L (g0+1)).length=N3 by rw [Ff.out,List.length_append,zJX,fj.out,Ck.out,Cp.out,hqe]);have bT:g0+1≤kk:=hle;have hm7:N3≤(g0+1)*400:=by have:=Cp.out;rw [Nat.add_mul];omega
       have HF7:=qH (show f+1=((g0+1:Nat):Int)+1 by have:=HF.out;omega);have xF:f≤1001:=by have:=HF.out;omega
       have hf8:1≤f:=by have:=HF.out;omega
       have w4:IntKind.i64.wrap (f+1)=f+1:=IntWalk.i64_in _ (by omega);have HFT:=qH (show (intOf (D J f)).toNat=g0+1 by have:=HF.out;simp [intOf];omega);clear hqe lI;go_wp2_with fail
       go_roundw
       case rel=>exact ⟨f+1,g0+1,N3,d3,B3,_,rfl,rfl,by go_num,HF7,bT,wM.out,HO7.out,hm7,wS⟩
       case measure=>have:=HF.out;simp [intOf];omega
  ·have jf:¬f≤K:=by have h1:=HF.out;have h2:=HK.out;omega
   have hgg:g0=kk:=by omega
   have fA:=qH (show ofG w w (zFd L kk) (.returned (H B N d)) X from ⟨B,N,d,rfl,by rw [←hgg];exact hO.mono (by omega),by rw [←hgg];exact fj.out.symm,hB.below⟩);clear hgg hO hB;go_wp2_with fail
   go_ret;exact fA.out
end Go.Proofs.YtlmdfmnbcndhoaaGreatDoor
