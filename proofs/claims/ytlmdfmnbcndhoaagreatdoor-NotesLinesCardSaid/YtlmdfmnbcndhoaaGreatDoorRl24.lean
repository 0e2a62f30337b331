/-
  Lemmas, part 24. Conditions: each theorem's own.
-/
import Derived.Test.YtlmdfmnbcndhoaaGreatDoorRl23
import Derived.Test.YtlmdfmnbcndhoaaGreatDoorRl20
namespace Go.Proofs.YtlmdfmnbcndhoaaGreatDoor
open Go.RowKit
set_option maxHeartbeats 12800000 in
set_option maxRecDepth 100000 in
theorem zLH (rb:Nat) (F:Fm) (s:RS) (S:List UInt8) (w:World) (h:RX w rb F s) (hS:S.length≤100000) :
  Calls Tryz.prog 120 #[.pointer (some ⟨rb,0,none⟩),.string (bA S)] w (zBZ w rb F s S):=by
 have hlt:=h.lt;obtain ⟨a1,cM⟩:∃a,a=w.heap.size+1:=⟨_,rfl⟩
 obtain ⟨a2,iq⟩:∃a,a=w.heap.size+2:=⟨_,rfl⟩
 have gL:=qH cM;have wu:=qH iq;have co:rb < w.heap.size:=hlt;have aJ:rb < a1:=by omega
 have dE:rb < a2:=by omega
 have bw:w.heap.size≤a1:=by omega
 have ic:w.heap.size < a1:=by omega
 have kh:a1 < a2:=by omega
 have ah:Below w.heap.size w (((w.alloc (.cells #[.int .i64 0,.int .i64 0,.int .i64 0,.int .i64 0,.bool false,.int .i64 0,.slice none 0 0,.bool false] 32)).alloc (.cells #[.int .i64 0,.int .i64 0,.int .i64 0,.int .i64 0,.bool false,.int .i64 0,.slice none 0 0,.bool false] 32)).alloc (.cells #[.int .i64 0,.int .i64 0,.bool false,.int .i64 0] 29)):=(((Below.refl _ _).alloc (Nat.le_refl _) _).alloc (by simp) _).alloc (by simp;omega) _;have kr:Blk (((w.alloc (.cells #[.int .i64 0,.int .i64 0,.int .i64 0,.int .i64 0,.bool false,.int .i64 0,.slice none 0 0,.bool false] 32)).alloc (.cells #[.int .i64 0,.int .i64 0,.int .i64 0,.int .i64 0,.bool false,.int .i64 0,.slice none 0 0,.bool false] 32)).alloc (.cells #[.int .i64 0,.int .i64 0,.bool false,.int .i64 0] 29)) w.heap.size 32 #[.int .i64 0,.int .i64 0,.int .i64 0,.int .i64 0,.bool false,.int .i64 0,.slice none 0 0,.bool false]:=((Blk.new w _ _).alloc _).alloc _;have ko:Blk (((w.alloc (.cells #[.int .i64 0,.int .i64 0,.int .i64 0,.int .i64 0,.bool false,.int .i64 0,.slice none 0 0,.bool false] 32)).alloc (.cells #[.int .i64 0,.int .i64 0,.int .i64 0,.int .i64 0,.bool false,.int .i64 0,.slice none 0 0,.bool false] 32)).alloc (.cells #[.int .i64 0,.int .i64 0,.bool false,.int .i64 0] 29)) (w.heap.size+1) 32 #[.int .i64 0,.int .i64 0,.int .i64 0,.int .i64 0,.bool false,.int .i64 0,.slice none 0 0,.bool false]:=by have:=(Blk.new (w.alloc (.cells #[.int .i64 0,.int .i64 0,.int .i64 0,.int .i64 0,.bool false,.int .i64 0,.slice none 0 0,.bool false] 32)) 32 #[.int .i64 0,.int .i64 0,.int .i64 0,.int .i64 0,.bool false,.int .i64 0,.slice none 0 0,.bool false]).alloc (.cells #[.int .i64 0,.int .i64 0,.bool false,.int .i64 0] 29);rwa [World.size_alloc] at this
 have kx:Blk (((w.alloc (.cells #[.int .i64 0,.int .i64 0,.int .i64 0,.int .i64 0,.bool false,.int .i64 0,.slice none 0 0,.bool false] 32)).alloc (.cells #[.int .i64 0,.int .i64 0,.int .i64 0,.int .i64 0,.bool false,.int .i64 0,.slice none 0 0,.bool false] 32)).alloc (.cells #[.int .i64 0,.int .i64 0,.bool false,.int .i64 0] 29)) (w.heap.size+2) 29 #[.int .i64 0,.int .i64 0,.bool false,.int .i64 0]:=by have:=Blk.new ((w.alloc (.cells #[.int .i64 0,.int .i64 0,.int .i64 0,.int .i64 0,.bool false,.int .i64 0,.slice none 0 0,.bool false] 32)).alloc (.cells #[.int .i64 0,.int .i64 0,.int .i64 0,.int .i64 0,.bool false,.int .i64 0,.slice none 0 0,.bool false] 32)) 29 #[.int .i64 0,.int .i64 0,.bool false,.int .i64 0];rwa [World.size_alloc,World.size_alloc] at this
 have h1:=h.below ah;have g1:w.grownBy (((w.alloc (.cells #[.int .i64 0,.int .i64 0,.int .i64 0,.int .i64 0,.bool false,.int .i64 0,.slice none 0 0,.bool false] 32)).alloc (.cells #[.int .i64 0,.int .i64 0,.int .i64 0,.int .i64 0,.bool false,.int .i64 0,.slice none 0 0,.bool false] 32)).alloc (.cells #[.int .i64 0,.int .i64 0,.bool false,.int .i64 0] 29)) (some rb):=zAz ah;have fP:=qH (fun wx (hx:RX wx rb F s)=>zMF hx S);have Dl:=qH (zLG S);clear h ah;go_enter Tryz.func120,Tryz.ntmps120;go_wp2_with fail
 refine zDB (fun l q a wv=>zAS w rb a1 a2 F s S l q a wv) ?_ ?_
 ·skip;go_wp2_with fail
  generalize (((w.alloc (.cells #[.int .i64 0,.int .i64 0,.int .i64 0,.int .i64 0,.bool false,.int .i64 0,.slice none 0 0,.bool false] 32)).alloc (.cells #[.int .i64 0,.int .i64 0,.int .i64 0,.int .i64 0,.bool false,.int .i64 0,.slice none 0 0,.bool false] 32)).alloc (.cells #[.int .i64 0,.int .i64 0,.bool false,.int .i64 0] 29))=X at kr ko kx h1 g1 ⊢;rw [←cM] at ko ⊢;rw [←iq] at kx;rw [show a1+1=a2 from by omega];clear cM iq;refine (fP.out X h1).mono ?_;intro e X2 hc
  cases hcf:zFt S with
  | none =>
   obtain ⟨rfl,hx,hg⟩:=zGz hc hcf;have HN:=qH (show zAG S=none by rw [Dl.out,hcf]);clear hcf;have dH:=kr.grownO hg co;have bB:=ko.grownO hg aJ;have bM:=kx.grownO hg dE;have g2:=zAb g1 hg;clear hc hg g1 kr ko kx h1;have z21:=bB.frozen 1;have d21:X2.cell? ⟨a1,1,none⟩=some (.int .i64 0):=(bB.cell 1).trans rfl;have hG:Below (rb+1) X2 (X2.setCell ⟨a1,1,none⟩ (.int .i64 0)):=(Below.refl _ _).setCell (p:=⟨a1,1,none⟩) aJ _;have Ez:Below w.heap.size X2 (X2.setCell ⟨a1,1,none⟩ (.int .i64 0)):=(Below.refl _ _).setCell (p:=⟨a1,1,none⟩) bw _;have jh:=dH.far (p:=⟨a1,1,none⟩) (by simp only;omega) (.int .i64 0);have mF:=hx.over hG;have mI:=zAc g2 Ez;clear hx g2 dH bB bM hG Ez;have HG:=qH (show zCr w rb w.heap.size a1 a2 F s S 0 (1) (X2.setCell ⟨a1,1,none⟩ (.int .i64 0)) (S) from .inl ⟨rfl,rfl,⟨⟨_,mF⟩,jh,mI,HN.out⟩⟩);clear mF mI jh;go_wp2_with fail
   go_step3
   refine (show ∃n',zAS w rb a1 a2 F s S 0 n' _ _ from ?_);exact ⟨_,_,S,rfl,⟨rfl,rfl,rfl,rfl,rfl,rfl,rfl⟩,HG⟩
  | some p =>
   obtain ⟨f,q0⟩:=p;obtain ⟨rfl,hx,hg⟩:=zGy hc hcf;have hqi:=(zMB hcf).2.2;obtain ⟨fi,hfi⟩:∃x,(zAK F.L f:Int)=x:=⟨_,rfl⟩
   rw [hfi];have dz:=qH hfi;have n0:=zAn q0 [];clear hfi;have dH:=kr.grownO hg co;have bB:=ko.grownO hg aJ;have bM:=kx.grownO hg dE;have g2:=zAb g1 hg;clear hc hg g1 kr ko kx h1;have zn:=bB.frozen 1;have Az:X2.cell? ⟨a1,1,none⟩=some (.int .i64 0):=(bB.cell 1).trans rfl;have fZ:Blk (X2.setCell ⟨a1,1,none⟩ (.int .i64 fi)) a1 32 #[.int .i64 0,.int .i64 fi,.int .i64 0,.int .i64 0,.bool false,.int .i64 0,.slice none 0 0,.bool false]:=bB.set_ 1 _;have lq:Below (rb+1) X2 (X2.setCell ⟨a1,1,none⟩ (.int .i64 fi)):=(Below.refl _ _).setCell (p:=⟨a1,1,none⟩) aJ _;have rN:Below w.heap.size X2 (X2.setCell ⟨a1,1,none⟩ (.int .i64 fi)):=(Below.refl _ _).setCell (p:=⟨a1,1,none⟩) bw _;have ew:=dH.far (p:=⟨a1,1,none⟩) (by simp only;omega) (.int .i64 fi);have jg:=bM.far (p:=⟨a1,1,none⟩) (by simp only;omega) (.int .i64 fi);have eP:=hx.over lq;have fh:=zAc g2 rN;clear hx g2 dH bB bM lq rN
   cases q0 with
   | nil =>
    rw [show (([]:List UInt8)==[])=true from rfl] at n0;have HN:=qH (show zAG S=none by rw [Dl.out,hcf]);clear hcf hqi;have HG:=qH (show zCr w rb w.heap.size a1 a2 F s S 0 (1) (X2.setCell ⟨a1,1,none⟩ (.int .i64 fi)) ([]) from .inl ⟨rfl,rfl,⟨⟨_,eP⟩,ew,fh,HN.out⟩⟩);clear eP fh ew fZ jg;go_wp2_with fail
    go_step3
    refine (show ∃n',zAS w rb a1 a2 F s S 0 n' _ _ from ?_);exact ⟨_,_,[],rfl,⟨rfl,rfl,rfl,rfl,rfl,rfl,rfl⟩,HG⟩
   | cons b r =>
    rw [show (b :: r==([]:List UInt8))=false from rfl] at n0;have HU:=Dl.out;rw [hcf] at HU;simp only at HU;have gC:=qH (show r.length+1≤S.length by rw [hqi];simp only [List.length_append,List.length_cons];omega);have t1:=zCJ b r;have t2:=zGt b r;have AP:=qH (fun wx=>zJh b wx);clear hcf hqi;go_upto_region 7 with fail
    clear zn Az;generalize X2.setCell ⟨a1,1,none⟩ (.int .i64 fi)=X3 at eP fh ew fZ jg ⊢;by_cases hk0:zAH b=0
    ·have HN:=qH (show zAG S=none by rw [HU,if_pos hk0]);obtain ⟨sg,hsg⟩:∃x:Int,(if b=32 then 0 else if zAH b=0 then -1 else zAH b)=x:=⟨_,rfl⟩
     have i0:sg < 1:=by rw [←hsg];split<;>(try rw [if_pos hk0])<;>omega
     rw [hsg] at AP;clear HU hk0 hsg;go_wp2_with fail
     refine (AP.out _).mono ?_;rintro e X4 ⟨rfl,rfl⟩;have HG:=qH (show zCr w rb w.heap.size a1 a2 F s S 0 (1) X4 (r) from .inl ⟨rfl,rfl,⟨⟨_,eP⟩,ew,fh,HN.out⟩⟩);clear eP fh ew fZ jg;go_wp2_with fail
     go_step3
     refine (show ∃n',zAS w rb a1 a2 F s S 0 n' _ _ from ?_);exact ⟨_,_,r,rfl,⟨rfl,rfl,rfl,rfl,rfl,rfl,rfl⟩,HG⟩
    ·obtain ⟨K,hK⟩:∃K,zAH b=K:=⟨_,rfl⟩
     have hsi:=zDy hk0;have xT:¬b=32:=fun e=>by subst e;exact hk0 (by decide)
     simp only [if_neg xT,hK] at AP;rw [if_neg hk0,hK] at HU;rw [hK] at hsi;have i0:¬K < 1:=by omega
     have hK18:1≤K∧K≤8:=⟨hsi.1,hsi.2.1⟩;clear hk0 xT hK hsi;go_wp2_with fail
     refine (AP.out _).mono ?_;rintro e X4 ⟨rfl,rfl⟩;have z24:=fZ.frozen 0;have C3:X4.cell? ⟨a1,0,none⟩=some (.int .i64 0):=(fZ.cell 0).trans rfl;have bq:Blk (X4.setCell ⟨a1,0,none⟩ (.int .i64 K)) a1 32 #[.int .i64 K,.int .i64 fi,.int .i64 0,.int .i64 0,.bool false,.int .i64 0,.slice none 0 0,.bool false]:=fZ.set_ 0 _;have wM:Below (rb+1) X4 (X4.setCell ⟨a1,0,none⟩ (.int .i64 K)):=(Below.refl _ _).setCell (p:=⟨a1,0,none⟩) aJ _;have wR:Below w.heap.size X4 (X4.setCell ⟨a1,0,none⟩ (.int .i64 K)):=(Below.refl _ _).setCell (p:=⟨a1,0,none⟩) bw _;have aC:=ew.far (p:=⟨a1,0,none⟩) (by simp only;omega) (.int .i64 K);have dM:=jg.far (p:=⟨a1,0,none⟩) (by simp only;omega) (.int .i64 K);have eW:=eP.over wM;have eY:=zAc fh wR;clear eP fh ew fZ jg wM wR;go_upto_region 11 with fail
     clear z24 C3;generalize X4.setCell ⟨a1,0,none⟩ (.int .i64 K)=X5 at eW eY aC bq dM ⊢;have f0:X5.cell? ⟨a1,0,none⟩=some (.int .i64 K):=(bq.cell 0).trans rfl;by_cases e4:K=4
     ·subst e4;have HN:=qH (show zAG S=zDF ⟨4,f,none,[],false⟩ (zCy r) by rw [HU,if_pos rfl]);have eR:=qH (show (s.lost||zAX F.L f)=(s.lost||zAB F.L ⟨4,f,none,[],false⟩) by simp [zAB,zAU]);have nw:=qH (show ∀b,oOf F.L ⟨4,f,none,[],b⟩=⟨4,fi,⟨0,0,false,0⟩,[],b⟩ from fun b=>by rw [←dz.out];rfl);rw [eR.out] at eW;clear HU;have HG:=qH (show zCr w rb w.heap.size a1 a2 F s S 1 (3) X5 (r) from .inr (.inl ⟨rfl,rfl,⟨⟨4,f,none,[],false⟩,4,fi,0,false,⟨eW,aC,bq,eY,HN.out,rfl,nw.out⟩⟩⟩));clear eW eY aC bq dM;go_wp2_with fail
      go_step3
      refine (show ∃n',zAS w rb a1 a2 F s S 1 n' _ _ from ?_);exact ⟨_,_,r,rfl,⟨rfl,rfl,rfl,rfl,rfl,rfl,rfl⟩,HG⟩
     by_cases e3:K=3
     ·subst e3;have HN:=qH (show zAG S=zPD f (zFD (r.length+1) [] r) by rw [HU,if_neg (by omega),if_pos rfl]);have eR:=qH (show (s.lost||zAX F.L f)=(s.lost||zAX F.L f||zAU F.L []) by simp [zAU]);rw [eR.out] at eW;clear HU;have HG:=qH (show zCr w rb w.heap.size a1 a2 F s S 2 (10+r.length) X5 (r) from .inr (.inr (.inl ⟨rfl,rfl,⟨f,fi,[],[],none,0,0,r.length+1,0,0,0,false,⟨eW,aC,bq,dM,eY,Row.none_ _ _ _,rfl,rfl,dz.out.symm,by have:=gC.out;omega,by omega,HN.out⟩⟩⟩)));clear eW eY aC bq dM;go_wp2_with fail
      go_step3
      refine (show ∃n',zAS w rb a1 a2 F s S 2 n' _ _ from ?_);exact ⟨_,_,r,rfl,⟨rfl,rfl,rfl,rfl,rfl,rfl,rfl⟩,HG⟩
     by_cases e5:K=5
     ·subst e5;rw [if_neg (by omega),if_neg (by omega),if_pos rfl] at HU;have vn:=qH (fun wx (hx:RX wx rb F ⟨s.T,s.bad,s.lost||zAX F.L f⟩)=>zDE rb F ⟨s.T,s.bad,s.lost||zAX F.L f⟩ r wx hx);go_wp2_with fail
      refine (vn.out X5 eW).mono ?_;intro e X6 hc
      cases hsr:zAV r with
      | none =>
       obtain ⟨rfl,⟨l,hy⟩,hg⟩:=zFJ hc hsr;have HN:=qH (show zAG S=none by rw [HU,hsr]);clear HU hsr f0;have dG:=aC.grownO hg co;have aZ:=bq.grownO hg aJ;have g6:=zAb eY hg;clear hc hg eY eW aC bq dM;have D4:=aZ.frozen 2;have F9:X6.cell? ⟨a1,2,none⟩=some (.int .i64 0):=(aZ.cell 2).trans rfl;have D3:=aZ.frozen 3;have F8:X6.cell? ⟨a1,3,none⟩=some (.int .i64 0):=(aZ.cell 3).trans rfl;have D2:=aZ.frozen 4;have F7:X6.cell? ⟨a1,4,none⟩=some (.bool false):=(aZ.cell 4).trans rfl;have D1:=aZ.frozen 5;have F6:X6.cell? ⟨a1,5,none⟩=some (.int .i64 0):=(aZ.cell 5).trans rfl;have qR:Below (rb+1) X6 (X6.setCell ⟨a1,2,none⟩ (.int .i64 0)):=(Below.refl _ _).setCell (p:=⟨a1,2,none⟩) aJ _;have rA:Below w.heap.size X6 (X6.setCell ⟨a1,2,none⟩ (.int .i64 0)):=(Below.refl _ _).setCell (p:=⟨a1,2,none⟩) bw _;have lJ:=dG.far (p:=⟨a1,2,none⟩) (by simp only;omega) (.int .i64 0);have qQ:Below (rb+1) X6 ((X6.setCell ⟨a1,2,none⟩ (.int .i64 0)).setCell ⟨a1,3,none⟩ (.int .i64 0)):=qR.setCell (p:=⟨a1,3,none⟩) aJ _;have rz:Below w.heap.size X6 ((X6.setCell ⟨a1,2,none⟩ (.int .i64 0)).setCell ⟨a1,3,none⟩ (.int .i64 0)):=rA.setCell (p:=⟨a1,3,none⟩) bw _;have lI:=lJ.far (p:=⟨a1,3,none⟩) (by simp only;omega) (.int .i64 0);have qP:Below (rb+1) X6 (((X6.setCell ⟨a1,2,none⟩ (.int .i64 0)).setCell ⟨a1,3,none⟩ (.int .i64 0)).setCell ⟨a1,4,none⟩ (.bool false)):=qQ.setCell (p:=⟨a1,4,none⟩) aJ _;have ry:Below w.heap.size X6 (((X6.setCell ⟨a1,2,none⟩ (.int .i64 0)).setCell ⟨a1,3,none⟩ (.int .i64 0)).setCell ⟨a1,4,none⟩ (.bool false)):=rz.setCell (p:=⟨a1,4,none⟩) bw _;have lH:=lI.far (p:=⟨a1,4,none⟩) (by simp only;omega) (.bool false);have qO:Below (rb+1) X6 ((((X6.setCell ⟨a1,2,none⟩ (.int .i64 0)).setCell ⟨a1,3,none⟩ (.int .i64 0)).setCell ⟨a1,4,none⟩ (.bool false)).setCell ⟨a1,5,none⟩ (.int .i64 0)):=qP.setCell (p:=⟨a1,5,none⟩) aJ _;have rx:Below w.heap.size X6 ((((X6.setCell ⟨a1,2,none⟩ (.int .i64 0)).setCell ⟨a1,3,none⟩ (.int .i64 0)).setCell ⟨a1,4,none⟩ (.bool false)).setCell ⟨a1,5,none⟩ (.int .i64 0)):=ry.setCell (p:=⟨a1,5,none⟩) bw _;have lG:=lH.far (p:=⟨a1,5,none⟩) (by simp only;omega) (.int .i64 0);have mE:=hy.over qO;have mH:=zAc g6 rx;clear hy g6 dG aZ qR rA lJ qQ rz lI qP ry lH qO rx;have HG:=qH (show zCr w rb w.heap.size a1 a2 F s S 0 (1) ((((X6.setCell ⟨a1,2,none⟩ (.int .i64 0)).setCell ⟨a1,3,none⟩ (.int .i64 0)).setCell ⟨a1,4,none⟩ (.bool false)).setCell ⟨a1,5,none⟩ (.int .i64 0)) (r) from .inl ⟨rfl,rfl,⟨⟨_,mE⟩,lG,mH,HN.out⟩⟩);clear mE mH lG;go_wp2_with fail
       go_step3
       refine (show ∃n',zAS w rb a1 a2 F s S 0 n' _ _ from ?_);exact ⟨_,_,r,rfl,⟨rfl,rfl,rfl,rfl,rfl,rfl,rfl⟩,HG⟩
      | some p =>
       obtain ⟨g,far,r2⟩:=p;obtain ⟨rfl,hy,hg⟩:=zFI hc hsr;obtain ⟨gi,hgi⟩:∃x,(zAK F.L g:Int)=x:=⟨_,rfl⟩
       rw [hgi];have HN:=qH (show zAG S=zDF ⟨5,f,some ⟨g,0,far,0⟩,[],false⟩ (zCy r2) by rw [HU,hsr]);have eR:=qH (show (s.lost||zAX F.L f||zAX F.L g)=(s.lost||zAB F.L ⟨5,f,some ⟨g,0,far,0⟩,[],false⟩) by simp [zAB,zAU,Bool.or_assoc]);have nw:=qH (show ∀b,oOf F.L ⟨5,f,some ⟨g,0,far,0⟩,[],b⟩=⟨5,fi,⟨gi,0,far,0⟩,[],b⟩ from fun b=>by rw [←dz.out,←hgi];rfl)
       try simp only at hy
       rw [eR.out] at hy;clear HU hsr hgi f0;have dG:=aC.grownO hg co;have aZ:=bq.grownO hg aJ;have g6:=zAb eY hg;clear hc hg eY eW aC bq dM;have D0:=aZ.frozen 2;have F5:X6.cell? ⟨a1,2,none⟩=some (.int .i64 0):=(aZ.cell 2).trans rfl;have DZ:=aZ.frozen 3;have F4:X6.cell? ⟨a1,3,none⟩=some (.int .i64 0):=(aZ.cell 3).trans rfl;have DY:=aZ.frozen 4;have FZ:X6.cell? ⟨a1,4,none⟩=some (.bool false):=(aZ.cell 4).trans rfl;have DX:=aZ.frozen 5;have FY:X6.cell? ⟨a1,5,none⟩=some (.int .i64 0):=(aZ.cell 5).trans rfl;have sh:Blk (X6.setCell ⟨a1,2,none⟩ (.int .i64 gi)) a1 32 #[.int .i64 5,.int .i64 fi,.int .i64 gi,.int .i64 0,.bool false,.int .i64 0,.slice none 0 0,.bool false]:=aZ.set_ 2 _;have qN:Below (rb+1) X6 (X6.setCell ⟨a1,2,none⟩ (.int .i64 gi)):=(Below.refl _ _).setCell (p:=⟨a1,2,none⟩) aJ _;have rv:Below w.heap.size X6 (X6.setCell ⟨a1,2,none⟩ (.int .i64 gi)):=(Below.refl _ _).setCell (p:=⟨a1,2,none⟩) bw _;have lF:=dG.far (p:=⟨a1,2,none⟩) (by simp only;omega) (.int .i64 gi);have sd:Blk ((X6.setCell ⟨a1,2,none⟩ (.int .i64 gi)).setCell ⟨a1,3,none⟩ (.int .i64 0)) a1 32 #[.int .i64 5,.int .i64 fi,.int .i64 gi,.int .i64 0,.bool false,.int .i64 0,.slice none 0 0,.bool false]:=sh.set_ 3 _;have qM:Below (rb+1) X6 ((X6.setCell ⟨a1,2,none⟩ (.int .i64 gi)).setCell ⟨a1,3,none⟩ (.int .i64 0)):=qN.setCell (p:=⟨a1,3,none⟩) aJ _;have ru:Below w.heap.size X6 ((X6.setCell ⟨a1,2,none⟩ (.int .i64 gi)).setCell ⟨a1,3,none⟩ (.int .i64 0)):=rv.setCell (p:=⟨a1,3,none⟩) bw _;have lE:=lF.far (p:=⟨a1,3,none⟩) (by simp only;omega) (.int .i64 0);have r9:Blk (((X6.setCell ⟨a1,2,none⟩ (.int .i64 gi)).setCell ⟨a1,3,none⟩ (.int .i64 0)).setCell ⟨a1,4,none⟩ (.bool far)) a1 32 #[.int .i64 5,.int .i64 fi,.int .i64 gi,.int .i64 0,.bool far,.int .i64 0,.slice none 0 0,.bool false]:=sd.set_ 4 _;have qL:Below (rb+1) X6 (((X6.setCell ⟨a1,2,none⟩ (.int .i64 gi)).setCell ⟨a1,3,none⟩ (.int .i64 0)).setCell ⟨a1,4,none⟩ (.bool far)):=qM.setCell (p:=⟨a1,4,none⟩) aJ _;have rt:Below w.heap.size X6 (((X6.setCell ⟨a1,2,none⟩ (.int .i64 gi)).setCell ⟨a1,3,none⟩ (.int .i64 0)).setCell ⟨a1,4,none⟩ (.bool far)):=ru.setCell (p:=⟨a1,4,none⟩) bw _;have lD:=lE.far (p:=⟨a1,4,none⟩) (by simp only;omega) (.bool far);have r8:Blk ((((X6.setCell ⟨a1,2,none⟩ (.int .i64 gi)).setCell ⟨a1,3,none⟩ (.int .i64 0)).setCell ⟨a1,4,none⟩ (.bool far)).setCell ⟨a1,5,none⟩ (.int .i64 0)) a1 32 #[.int .i64 5,.int .i64 fi,.int .i64 gi,.int .i64 0,.bool far,.int .i64 0,.slice none 0 0,.bool false]:=r9.set_ 5 _;have qK:Below (rb+1) X6 ((((X6.setCell ⟨a1,2,none⟩ (.int .i64 gi)).setCell ⟨a1,3,none⟩ (.int .i64 0)).setCell ⟨a1,4,none⟩ (.bool far)).setCell ⟨a1,5,none⟩ (.int .i64 0)):=qL.setCell (p:=⟨a1,5,none⟩) aJ _;have rs:Below w.heap.size X6 ((((X6.setCell ⟨a1,2,none⟩ (.int .i64 gi)).setCell ⟨a1,3,none⟩ (.int .i64 0)).setCell ⟨a1,4,none⟩ (.bool far)).setCell ⟨a1,5,none⟩ (.int .i64 0)):=rt.setCell (p:=⟨a1,5,none⟩) bw _;have lC:=lD.far (p:=⟨a1,5,none⟩) (by simp only;omega) (.int .i64 0);have iy:=hy.over qK;have jq:=zAc g6 rs;clear hy g6 dG aZ qN rv sh lF qM ru sd lE qL rt r9 lD qK rs;have HG:=qH (show zCr w rb w.heap.size a1 a2 F s S 1 (3) ((((X6.setCell ⟨a1,2,none⟩ (.int .i64 gi)).setCell ⟨a1,3,none⟩ (.int .i64 0)).setCell ⟨a1,4,none⟩ (.bool far)).setCell ⟨a1,5,none⟩ (.int .i64 0)) (r2) from .inr (.inl ⟨rfl,rfl,⟨⟨5,f,some ⟨g,0,far,0⟩,[],false⟩,5,fi,gi,far,⟨iy,lC,r8,jq,HN.out,rfl,nw.out⟩⟩⟩));clear iy jq lC r8;go_wp2_with fail
       go_step3
       refine (show ∃n',zAS w rb a1 a2 F s S 1 n' _ _ from ?_);exact ⟨_,_,r2,rfl,⟨rfl,rfl,rfl,rfl,rfl,rfl,rfl⟩,HG⟩
     by_cases e6:K=6
     ·subst e6;rw [if_neg (by omega),if_neg (by omega),if_neg (by omega),if_pos (by omega)] at HU;have vn:=qH (fun wx (hx:RX wx rb F ⟨s.T,s.bad,s.lost||zAX F.L f⟩)=>zMF hx r);go_wp2_with fail
      refine (vn.out X5 eW).mono ?_;intro e X6 hc
      cases hsr:zFt r with
      | none =>
       obtain ⟨rfl,hy,hg⟩:=zGz hc hsr;have HN:=qH (show zAG S=none by rw [HU,hsr]);clear HU hsr f0;have dG:=aC.grownO hg co;have aZ:=bq.grownO hg aJ;have g6:=zAb eY hg;clear hc hg eY eW aC bq dM;have z28:=aZ.frozen 2;have d28:X6.cell? ⟨a1,2,none⟩=some (.int .i64 0):=(aZ.cell 2).trans rfl;have iO:Below (rb+1) X6 (X6.setCell ⟨a1,2,none⟩ (.int .i64 0)):=(Below.refl _ _).setCell (p:=⟨a1,2,none⟩) aJ _;have Ey:Below w.heap.size X6 (X6.setCell ⟨a1,2,none⟩ (.int .i64 0)):=(Below.refl _ _).setCell (p:=⟨a1,2,none⟩) bw _;have je:=dG.far (p:=⟨a1,2,none⟩) (by simp only;omega) (.int .i64 0);have qk:=hy.over iO;have qm:=zAc g6 Ey;clear hy g6 dG aZ iO Ey;have HG:=qH (show zCr w rb w.heap.size a1 a2 F s S 0 (1) (X6.setCell ⟨a1,2,none⟩ (.int .i64 0)) (r) from .inl ⟨rfl,rfl,⟨⟨_,qk⟩,je,qm,HN.out⟩⟩);clear qk qm je;go_wp2_with fail
       go_step3
       refine (show ∃n',zAS w rb a1 a2 F s S 0 n' _ _ from ?_);exact ⟨_,_,r,rfl,⟨rfl,rfl,rfl,rfl,rfl,rfl,rfl⟩,HG⟩
      | some p =>
       obtain ⟨g,r2⟩:=p;obtain ⟨rfl,hy,hg⟩:=zGy hc hsr;obtain ⟨gi,hgi⟩:∃x,(zAK F.L g:Int)=x:=⟨_,rfl⟩
       rw [hgi];have HN:=qH (show zAG S=zDF ⟨6,f,some ⟨g,0,false,0⟩,[],false⟩ (zCy r2) by rw [HU,hsr]);have eR:=qH (show (s.lost||zAX F.L f||zAX F.L g)=(s.lost||zAB F.L ⟨6,f,some ⟨g,0,false,0⟩,[],false⟩) by simp [zAB,zAU,Bool.or_assoc]);have nw:=qH (show ∀b,oOf F.L ⟨6,f,some ⟨g,0,false,0⟩,[],b⟩=⟨6,fi,⟨gi,0,false,0⟩,[],b⟩ from fun b=>by rw [←dz.out,←hgi];rfl)
       try simp only at hy
       rw [eR.out] at hy;clear HU hsr hgi f0;have dG:=aC.grownO hg co;have aZ:=bq.grownO hg aJ;have g6:=zAb eY hg;clear hc hg eY eW aC bq dM;have DW:=aZ.frozen 2;have FX:X6.cell? ⟨a1,2,none⟩=some (.int .i64 0):=(aZ.cell 2).trans rfl;have dI:Blk (X6.setCell ⟨a1,2,none⟩ (.int .i64 gi)) a1 32 #[.int .i64 6,.int .i64 fi,.int .i64 gi,.int .i64 0,.bool false,.int .i64 0,.slice none 0 0,.bool false]:=aZ.set_ 2 _;have pq:Below (rb+1) X6 (X6.setCell ⟨a1,2,none⟩ (.int .i64 gi)):=(Below.refl _ _).setCell (p:=⟨a1,2,none⟩) aJ _;have wP:Below w.heap.size X6 (X6.setCell ⟨a1,2,none⟩ (.int .i64 gi)):=(Below.refl _ _).setCell (p:=⟨a1,2,none⟩) bw _;have du:=dG.far (p:=⟨a1,2,none⟩) (by simp only;omega) (.int .i64 gi);have gR:=hy.over pq;have iG:=zAc g6 wP;clear hy g6 dG aZ pq wP;have HG:=qH (show zCr w rb w.heap.size a1 a2 F s S 1 (3) (X6.setCell ⟨a1,2,none⟩ (.int .i64 gi)) (r2) from .inr (.inl ⟨rfl,rfl,⟨⟨6,f,some ⟨g,0,false,0⟩,[],false⟩,6,fi,gi,false,⟨gR,du,dI,iG,HN.out,rfl,nw.out⟩⟩⟩));clear gR iG du dI;go_wp2_with fail
       go_step3
       refine (show ∃n',zAS w rb a1 a2 F s S 1 n' _ _ from ?_);exact ⟨_,_,r2,rfl,⟨rfl,rfl,rfl,rfl,rfl,rfl,rfl⟩,HG⟩
     by_cases e7:K=7
     ·subst e7;rw [if_neg (by omega),if_neg (by omega),if_neg (by omega),if_pos (by omega)] at HU;have vn:=qH (fun wx (hx:RX wx rb F ⟨s.T,s.bad,s.lost||zAX F.L f⟩)=>zMF hx r);go_wp2_with fail
      refine (vn.out X5 eW).mono ?_;intro e X6 hc
      cases hsr:zFt r with
      | none =>
       obtain ⟨rfl,hy,hg⟩:=zGz hc hsr;have HN:=qH (show zAG S=none by rw [HU,hsr]);clear HU hsr f0;have dG:=aC.grownO hg co;have aZ:=bq.grownO hg aJ;have g6:=zAb eY hg;clear hc hg eY eW aC bq dM;have DV:=aZ.frozen 2;have FV:X6.cell? ⟨a1,2,none⟩=some (.int .i64 0):=(aZ.cell 2).trans rfl;have iN:Below (rb+1) X6 (X6.setCell ⟨a1,2,none⟩ (.int .i64 0)):=(Below.refl _ _).setCell (p:=⟨a1,2,none⟩) aJ _;have wO:Below w.heap.size X6 (X6.setCell ⟨a1,2,none⟩ (.int .i64 0)):=(Below.refl _ _).setCell (p:=⟨a1,2,none⟩) bw _;have r7:=dG.far (p:=⟨a1,2,none⟩) (by simp only;omega) (.int .i64 0);have jK:=hy.over iN;have jL:=zAc g6 wO;clear hy g6 dG aZ iN wO;have HG:=qH (show zCr w rb w.heap.size a1 a2 F s S 0 (1) (X6.setCell ⟨a1,2,none⟩ (.int .i64 0)) (r) from .inl ⟨rfl,rfl,⟨⟨_,jK⟩,r7,jL,HN.out⟩⟩);clear jK jL r7;go_wp2_with fail
       go_step3
       refine (show ∃n',zAS w rb a1 a2 F s S 0 n' _ _ from ?_);exact ⟨_,_,r,rfl,⟨rfl,rfl,rfl,rfl,rfl,rfl,rfl⟩,HG⟩
      | some p =>
       obtain ⟨g,r2⟩:=p;obtain ⟨rfl,hy,hg⟩:=zGy hc hsr;obtain ⟨gi,hgi⟩:∃x,(zAK F.L g:Int)=x:=⟨_,rfl⟩
       rw [hgi];have HN:=qH (show zAG S=zDF ⟨7,f,some ⟨g,0,false,0⟩,[],false⟩ (zCy r2) by rw [HU,hsr]);have eR:=qH (show (s.lost||zAX F.L f||zAX F.L g)=(s.lost||zAB F.L ⟨7,f,some ⟨g,0,false,0⟩,[],false⟩) by simp [zAB,zAU,Bool.or_assoc]);have nw:=qH (show ∀b,oOf F.L ⟨7,f,some ⟨g,0,false,0⟩,[],b⟩=⟨7,fi,⟨gi,0,false,0⟩,[],b⟩ from fun b=>by rw [←dz.out,←hgi];rfl)
       try simp only at hy
       rw [eR.out] at hy;clear HU hsr hgi f0;have dG:=aC.grownO hg co;have aZ:=bq.grownO hg aJ;have g6:=zAb eY hg;clear hc hg eY eW aC bq dM;have z31:=aZ.frozen 2;have d31:X6.cell? ⟨a1,2,none⟩=some (.int .i64 0):=(aZ.cell 2).trans rfl;have r6:Blk (X6.setCell ⟨a1,2,none⟩ (.int .i64 gi)) a1 32 #[.int .i64 7,.int .i64 fi,.int .i64 gi,.int .i64 0,.bool false,.int .i64 0,.slice none 0 0,.bool false]:=aZ.set_ 2 _;have Ep:Below (rb+1) X6 (X6.setCell ⟨a1,2,none⟩ (.int .i64 gi)):=(Below.refl _ _).setCell (p:=⟨a1,2,none⟩) aJ _;have Ex:Below w.heap.size X6 (X6.setCell ⟨a1,2,none⟩ (.int .i64 gi)):=(Below.refl _ _).setCell (p:=⟨a1,2,none⟩) bw _;have rZ:=dG.far (p:=⟨a1,2,none⟩) (by simp only;omega) (.int .i64 gi);have nj:=hy.over Ep;have nk:=zAc g6 Ex;clear hy g6 dG aZ Ep Ex;have HG:=qH (show zCr w rb w.heap.size a1 a2 F s S 1 (3) (X6.setCell ⟨a1,2,none⟩ (.int .i64 gi)) (r2) from .inr (.inl ⟨rfl,rfl,⟨⟨7,f,some ⟨g,0,false,0⟩,[],false⟩,7,fi,gi,false,⟨nj,rZ,r6,nk,HN.out,rfl,nw.out⟩⟩⟩));clear nj nk rZ r6;go_wp2_with fail
       go_step3
       refine (show ∃n',zAS w rb a1 a2 F s S 1 n' _ _ from ?_);exact ⟨_,_,r2,rfl,⟨rfl,rfl,rfl,rfl,rfl,rfl,rfl⟩,HG⟩
     have m3:(K==3)=false:=by simpa using e3
     have m4:(K==4)=false:=by simpa using e4
     have m5:(K==5)=false:=by simpa using e5
     have m6:(K==6)=false:=by simpa using e6
     have m7:(K==7)=false:=by simpa using e7
     have HN:=qH (show zAG S=zRB ⟨K,f,none,[],false⟩ r by rw [HU,if_neg e4,if_neg e3,if_neg e5,if_neg (by omega)]);have eR:=qH (show (s.lost||zAX F.L f)=(s.lost||zAB F.L ⟨K,f,none,[],false⟩) by simp [zAB,zAU]);have nw:=qH (show oOf F.L ⟨K,f,none,[],false⟩=⟨K,fi,⟨0,0,false,0⟩,[],false⟩ by rw [←dz.out];rfl);rw [eR.out] at eW;clear HU e3 e4 e5 e6 e7;have HG:=qH (show zCr w rb w.heap.size a1 a2 F s S 3 (2) X5 (r) from .inr (.inr (.inr ⟨rfl,rfl,⟨⟨K,f,none,[],false⟩,K,fi,0,false,false,[],none,0,0,⟨eW,aC,bq,eY,Row.none_ _ _ _,rfl,nw.out,HN.out⟩⟩⟩)));clear eW eY aC bq dM;go_wp2_with fail
     go_step3
     refine (show ∃n',zAS w rb a1 a2 F s S 3 n' _ _ from ?_);exact ⟨_,_,r,rfl,⟨rfl,rfl,rfl,rfl,rfl,rfl,rfl⟩,HG⟩
 ·rintro l q a wv ⟨X9,r,hX,hF,HJ⟩;subst hX;rcases HJ.out with ⟨rfl,rfl,h0⟩ | ⟨rfl,rfl,n,k,f,ff,far,h1⟩ | ⟨rfl,rfl,f,fi,P,Ps,B,m,d,N,x0,x1,x3,x2,h2⟩ | ⟨rfl,rfl,n,k,f,ff,far,over,path,B,m,d,h3⟩
  ·exact zNC rb F s S w hlt a1 a2 gL.out wu.out r 1 rfl a X9 hF h0
  ·exact zNE rb F s S w hlt a1 a2 gL.out wu.out r 3 rfl a X9 hF n k f ff far h1
  ·exact zNF rb F s S w hlt a1 a2 gL.out wu.out r _ rfl a X9 hF hS f fi P Ps B m d N x0 x1 x3 x2 h2
  ·exact zND rb F s S w hlt a1 a2 gL.out wu.out r 2 rfl a X9 hF n k f ff far over path B m d h3
noncomputable def rlR (L:List Fg) (re lo:Int) (S:List UInt8):List Og×Nat×Int:=if zAy L re lo S=0 then zAQ L (zAR 10 S) [] else ([],0,zAy L re lo S)
def zWP:Value→Nat
 | .string s=>s.size
 | _=>0
theorem zNG (L:List Fg) (S:List UInt8):zDe L S=0∨zDe L S=6∨zDe L S=8:=by
 unfold zDe;split
 ·omega
 ·split<;>omega
theorem zHo {w:World} {base:Nat} {B:Option Addr} {m d:Nat} {P:List Sp} (h:Row w base 5 B m d (P.flatMap zCa)) (hm:m≤1000000) (hok:∀x∈P,SgOk x.s):Stps w B m P:=⟨h.els (fun _=>rfl) (by omega) (by omega),hok⟩
theorem zMG (L:List Fg) (S:List UInt8):(zEt L S).path.length≤2*S.length+2:=by
 by_cases h:∃n,okN n∧S=zCb n
 ·obtain ⟨n,h1,rfl⟩:=h;rw [(zEW L h1).2]
  cases zAB L n with
  | true=>simp [o0]
  | false =>
   show (n.path.map (pOf L)).length≤_;rw [List.length_map];have h2:=zFG (zCb n);rw [zDR] at h2;have h3:n.path.length≤(zIQ n).length:=by
    by_cases hp:n.path=[]
    ·simp [hp]
    ·have hk:n.kind=3:=by
      rcases h1.2 with ⟨_,_,h,_⟩ | ⟨_,_,h⟩ | ⟨h,_⟩ | ⟨_,_,h⟩ | ⟨_,_,h⟩
      ·exact absurd h hp
      ·exact absurd h hp
      ·exact h
      ·exact absurd h hp
      ·exact absurd h hp
     have:=zMA n.path;unfold zIQ tlT;rw [if_neg (by omega),if_pos hk];simp only [List.length_cons,List.length_append];omega
   omega
 ·rw [(zKn L fun n h1 h2=>h ⟨n,h1,h2⟩).2];simp [o0]
set_option maxHeartbeats 12800000 in
set_option maxRecDepth 100000 in
theorem zDG (F:Fm) (S:List UInt8) (w:World) (hA:Fgs w F.A F.n F.L) (hc:F.n≤F.c) (ht:Tabs w) :
  Calls Tryz.prog 23 #[frV F.A F.n F.c F.re F.lo,.string (bA S)] w (zGc w (rlR F.L F.re F.lo S).1 (rlR F.L F.re F.lo S).2.1 (rlR F.L F.re F.lo S).2.2):=by
 have nJ:F.L.length≤17592186043904:=by rw [hA.len];exact hA.le
 have ah:Below w.heap.size w (w.alloc (.cells #[.slice F.A F.n F.c,.int .i64 F.re,.int .i64 F.lo] 24)):=(Below.refl _ _).alloc (Nat.le_refl _) _;have hk0:Blk (w.alloc (.cells #[.slice F.A F.n F.c,.int .i64 F.re,.int .i64 F.lo] 24)) w.heap.size 24 #[.slice F.A F.n F.c,.int .i64 F.re,.int .i64 F.lo]:=Blk.new _ _ _;have HA:=qH hA;have HT:=qH ht;obtain ⟨E,hE⟩:∃E,zAy F.L F.re F.lo S=E:=⟨_,rfl⟩
 have hcs:=zEo F.L F.re F.lo S;rw [hE] at hcs;have kY:=qH (fun wx (hx:Fgs wx F.A F.n F.L)=>zDd F.A F.n F.c F.L F.re F.lo S wx hx hc);simp only [hE] at kY;have HE:=qH hE;have HR:Hid (rlR F.L F.re F.lo S=if E=0 then zAQ F.L (zAR 10 S) [] else ([],0,E)):=qH (by unfold rlR;rw [hE]);obtain ⟨⟨TO,TN,TE⟩,pB⟩:∃x,rlR F.L F.re F.lo S=x:=⟨_,rfl⟩
 rw [pB] at HR ⊢;simp only;have fm:=qH (fun (O:List Og) (n:Nat) (er:Int) (hq:(O,n,er)=(TO,TN,TE)) (e:Ending) (wx:World) (h:zGc w O n er e wx)=>(show zGc w TO TN TE e wx by injection hq with h1 h2;injection h2 with h2 h3;subst h1;subst h2;subst h3;exact h));have FL:=qH nJ;clear hA ht hE pB nJ;go_enter Tryz.func23,Tryz.ntmps23;go_wp2_with fail
 generalize w.alloc (.cells #[.slice F.A F.n F.c,.int .i64 F.re,.int .i64 F.lo] 24)=Y at ah hk0 ⊢;refine (kY.out Y (HA.out.below ah)).mono ?_;rintro e Y2 ⟨rfl,ai⟩;have bt:=hk0.below ai hk0.lt;have al:=zAa ah ai ah.size;clear hk0 ah ai kY;by_cases h0:E=0
 ·subst h0;have hS:=(zBP HE.out).1;have kV:=qH (HR.out.trans (if_pos rfl));clear hcs HR;go_wp2_with fail
  go_loopw [1,8,9] (fun v1 v8 v9 wv=>∃(X:World) (R:List UInt8) (A':Option Addr) (i c':Nat) (Es:List Oe),X=wv∧v1=.string (bA R)∧v8=.slice A' i c'∧v9=.int .i64 i∧R.length+i≤8000∧OpsOwn X Y2.heap.size A' i c' Es∧Below Y2.heap.size Y2 X∧Hid (Es.length=i∧(TO,TN,TE)=zAQ F.L (zAR 10 R) (List.map (fun x:Oe=>x.o) Es))) (fun v1 _ _ _=>zWP v1)
  case atStart=>exact ⟨_,S,none,0,0,[],rfl,rfl,rfl,rfl,by omega,OpsOwn.none_ _ _,Below.refl _ _,qH ⟨rfl,kV.out⟩⟩
  case round =>
   obtain ⟨X,R,A',i,c',Es,hX,rfl,rfl,rfl,hle,hO,hb,HI⟩:=hrel;subst hX;have hbw:=zAa al hb al.size;have hz:w.heap.size≤Y2.heap.size:=al.size;by_cases hR:R=[]
   ·have n0:((bA R).toList==[])=true:=by rw [zAr,hR];rfl
    have HF:=qH (fm.out (List.map (fun x:Oe=>x.o) Es) i 0 (by rw [HI.out.2,hR,zPw,List.length_map,HI.out.1]) _ X ⟨A',i,c',Es,rfl,rfl,by omega,hO.mono hz,hbw⟩);clear hR hO hb hbw HI bt;go_wp2_with fail
    go_ret3
    exact HF.out
   have n0:((bA R).toList==[])=false:=by rw [zAr];simpa using hR
   have fP:=zRx R (by omega) X (HT.out.below hbw);by_cases h10:(10:UInt8)∈R
   ·obtain ⟨h,r,vQ,hh⟩:=zJe h10;rw [show Lib.cut R [10]=(h,r,true) from by rw [vQ];exact zOF hh] at fP;have fP:=qH fP;have hlr:r.length+(i+1)≤8000:=by rw [vQ] at hle;simp at hle;omega
    have hlh:h.length≤20000:=by rw [vQ] at hle;simp at hle;omega
    have hms:zWP (.string (bA r)) < zWP (.string (bA R)):=by simp only [zWP,zAL,vQ];simp;omega
    have HL:=qH (show (TO,TN,TE)=if zDe F.L h=0 then zAQ F.L (zAR 10 r) (List.map (fun x:Oe=>x.o) Es++[zEt F.L h]) else ([],i,zDe F.L h) by rw [HI.out.2,vQ,zNB F.L hh,List.length_map,HI.out.1]);have iI:=qH HI.out.1;have Dy:=qH hms;clear hR h10 vQ hh HI hms;go_wp2_with fail
    refine fP.out.mono ?_;rintro e X2 ⟨rfl,aI⟩;have aw:=zAa hbw aI hbw.size;have uz:=zAa hb aI hb.size;have gQ:=hO.below aI;have hfx:=(bt.below hb bt.lt).below aI (bt.below hb bt.lt).lt;have jy:=zHm F h X2 (HA.out.below aw) hlh (HT.out.below aw);have uJ:=zPv FL.out h;have BY:=zNG F.L h;obtain ⟨ov,eov⟩:∃x,zEt F.L h=x:=⟨_,rfl⟩
    obtain ⟨er,eer⟩:∃x,zDe F.L h=x:=⟨_,rfl⟩
    rw [eov,eer] at jy HL;rw [eov] at uJ;rw [eer] at BY;have jy:=qH jy;have jO:=qH uJ;have gD:Hid (ov.path.length≤1000000):=qH (by rw [←eov];have:=zMG F.L h;omega);obtain ⟨kk,ff,⟨gf,gl,gfar,gpc⟩,path,vov⟩:=ov;obtain ⟨w0,w1,w2⟩:=cQ3 hfx;clear hO hb hbw aI fP eov eer uJ hfx hlh;go_wp2_with fail
    refine jy.out.mono ?_;rintro e X3 ⟨B2,m2,d2,rfl,hrow,db,aH⟩;have gE:=qH db;have cI:=zAa aw aH aw.size;have ux:=zAa uz aH uz.size;have oR:=gQ.below aH;have hbl:=(Below.refl X3.heap.size X3).alloc (Nat.le_refl _) (.cells #[.int .i64 kk,.int .i64 ff,.int .i64 gf,.int .i64 gl,.bool gfar,.int .i64 gpc,.slice B2 m2 d2,.bool vov] 32);have hop:Blk (X3.alloc (.cells #[.int .i64 kk,.int .i64 ff,.int .i64 gf,.int .i64 gl,.bool gfar,.int .i64 gpc,.slice B2 m2 d2,.bool vov] 32)) X3.heap.size 32 #[.int .i64 kk,.int .i64 ff,.int .i64 gf,.int .i64 gl,.bool gfar,.int .i64 gpc,.slice B2 m2 d2,.bool vov]:=Blk.new _ _ _;have mB:=oR.below hbl;have hrw:=hrow.below hbl;have cm:=zAa cI hbl cI.size;have oL:=zAa ux hbl ux.size
    have qu:=qH (fun k (hk:blk B2=some k)=>(show k < (X3.alloc (.cells #[.int .i64 kk,.int .i64 ff,.int .i64 gf,.int .i64 gl,.bool gfar,.int .i64 gpc,.slice B2 m2 d2,.bool vov] 32)).heap.size∧blk A'≠some k by
     have h1:=hrow.lt k hk
     refine ⟨by simp;omega,fun e2=>?_⟩
     have h2:=(gQ.row.lt k e2).2
     omega))
    have qr:=qH (show Y2.heap.size≤(X3.alloc (.cells #[.int .i64 kk,.int .i64 ff,.int .i64 gf,.int .i64 gl,.bool gfar,.int .i64 gpc,.slice B2 m2 d2,.bool vov] 32)).heap.size from oL.size);clear db gQ aw uz aH cI ux oR hbl hrow w0 w1 w2 jy;go_upto_region 12 with fail
    generalize X3.alloc (.cells #[.int .i64 kk,.int .i64 ff,.int .i64 gf,.int .i64 gl,.bool gfar,.int .i64 gpc,.slice B2 m2 d2,.bool vov] 32)=X4 at hop mB hrw cm oL qu qr ⊢;generalize X3.heap.size=a13 at hop ⊢;by_cases her:er=0
    ·subst her;have zc:=qH (HL.out.trans (if_pos rfl));clear BY HL n0;obtain ⟨f0,f1,f2,f3,f4,f5,f6,f7⟩:=cQ8 hop;go_upto_region 15 with (at_builtin;refine zEV ?_)
     refine qH ?_;refine zUj (y:=⟨⟨kk,ff,⟨gf,gl,gfar,gpc⟩,path,vov⟩,B2,m2,d2⟩) (N:=i+1) (base:=Y2.heap.size) (A:=A') (n:=i) (c:=c') (Es:=Es) rfl (.tmp 44) (.tmp 46) ?_ ?_ ?_ ?_ ?_ ?_ ?_ ?_
     ·rfl
     ·exact mB.row
     ·rfl
     ·rfl
     ·rfl
     ·omega
     ·exact qr.out
     intro A2 c2 w9 hR9 cl ck;have aS:=mB.row.belowOf cl qr.out;have tV:m2≤1000000:=by rw [gE.out];exact gD.out
     have fH:=mB.push ⟨⟨kk,ff,⟨gf,gl,gfar,gpc⟩,path,vov⟩,B2,m2,d2⟩ ⟨jO.out.1,zHo hrw tV jO.out.2,hrw.cap,qu.out⟩ hR9 cl ck;have hbz:=oL.trans aS;have HF:=qH (show (Es++[(⟨⟨kk,ff,⟨gf,gl,gfar,gpc⟩,path,vov⟩,B2,m2,d2⟩:Oe)]).length=i+1∧(TO,TN,TE)=zAQ F.L (zAR 10 r) (List.map (fun x:Oe=>x.o) (Es++[(⟨⟨kk,ff,⟨gf,gl,gfar,gpc⟩,path,vov⟩,B2,m2,d2⟩:Oe)])) from ⟨by simp [iI.out],by rw [zc.out,List.map_append];rfl⟩);clear hop mB hrw cm oL cl ck hR9 aS f0 f1 f2 f3 f4 f5 f6 f7 qu qr;go_wp2_with fail
     go_roundw
     case rel=>exact ⟨_,r,A2,i+1,c2,_,rfl,rfl,rfl,by go_num,hlr,fH,hbz,HF⟩
     case measure=>exact Dy.out
    ·have k0:(er != 0)=true:=by simpa using her
     have HF:=qH (fm.out [] i er (by rw [HL.out,if_neg her]) _ X4 ⟨none,0,0,[],rfl,rfl,by omega,OpsOwn.none_ _ _,cm⟩);clear hop mB hrw cm oL BY her;go_wp2_with fail
     go_ret3
     exact HF.out
   ·rw [zOG h10] at fP;have fP:=qH fP;have HL:=qH (show ([],i,(6:Int))=(TO,TN,TE) by rw [HI.out.2,zNA F.L h10 hR,List.length_map,HI.out.1]);clear hR h10 HI hO hb bt;go_wp2_with fail
    refine fP.out.mono ?_;rintro e X2 ⟨rfl,aI⟩;have HF:=qH (fm.out [] i 6 HL.out _ X2 ⟨none,0,0,[],rfl,rfl,by omega,OpsOwn.none_ _ _,zAa hbw aI hbw.size⟩);clear aI hbw;go_wp2_with fail
    go_ret3
    exact HF.out
 ·have HF:=qH (fm.out [] 0 E (by rw [HR.out,if_neg h0]) _ Y2 ⟨none,0,0,[],rfl,rfl,by omega,OpsOwn.none_ _ _,al⟩);have k0:(E != 0)=true:=by simpa using h0
  clear hcs h0 al bt;go_wp2_with fail
  go_ret3
  exact HF.out
end Go.Proofs.YtlmdfmnbcndhoaaGreatDoor
