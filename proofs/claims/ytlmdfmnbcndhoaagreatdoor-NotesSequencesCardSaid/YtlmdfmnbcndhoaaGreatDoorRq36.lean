/-
  Lemmas, part 36. Conditions: each theorem's own.
-/
import Derived.Test.YtlmdfmnbcndhoaaGreatDoorRq35
import Derived.Test.YtlmdfmnbcndhoaaGreatDoorRq28
open Go.Value renaming bool→G,int→D,slice→H,string→W
open Go.IntKind renaming i64→J
open Option renaming none→U,some→Z
open Bool renaming false→E,true→Q
namespace Go.Proofs.YtlmdfmnbcndhoaaGreatDoor
open Go.RowKit
structure SgW (Y wr:World) (oB:Nat) (K:Int) (A:Option Addr) (n c:Nat) (M:List Lt):Prop where
 own:OwnL wr Y.heap.size A n c M
 bk:Blk wr oB 55 #[D J K,H A n c]
 far:∀q,blk A=Z q→q≠oB
 old:Below Y.heap.size Y wr
section
variable {Y wr wx:World} {oB:Nat} {K:Int} {A:Option Addr} {n c:Nat} {M:List Lt}
theorem SgW.next (h:SgW Y wr oB K A n c M) (hb:Below wr.heap.size wr wx):SgW Y wx oB K A n c M:=⟨h.own.next hb,h.bk.below hb h.bk.lt,h.far,zAa h.old hb h.old.size⟩
theorem SgW.put {g o j:Nat} {x x':Lt} {u:Value} (h:SgW Y wr oB K (Z ⟨g,o,U⟩) n c M) (hx:M[j]? = Z x) (he:ltC x'=(ltC x).set 4 u) (hok:LtOk x') :
  SgW Y (wr.setCell ⟨g,o+(j*6+4),U⟩ u) oB K (Z ⟨g,o,U⟩) n c (M.set j x') :=
 ⟨h.own.put hx (by omega) he hok rfl,h.bk.far (fun e=>h.far g rfl e.symm) u,h.far,h.old.setCell (p:=⟨g,o+(j*6+4),U⟩) (h.own.row.at_ _ rfl).2.1 u⟩
theorem SgW.free {g o j:Nat} (h:SgW Y wr oB K (Z ⟨g,o,U⟩) n c M) (hj:j < n):wr.frozen? ⟨g,o+j*6+4,U⟩=E:=by
 have:=h.own.row.cap;have e:=h.own.row.free (j:=j*6+4) (by omega);rw [←Nat.add_assoc] at e;exact e
end
theorem zIS {a b c:World} {B:Nat} (h:Below B a b) (hg:b.grownBy c (blk U)) (hB:B≤b.heap.size):Below B a c:=h.grown hg hB (fun k hk=>by cases hk)
theorem zVa {A:Option Addr} {N M:Nat} (h:N < M) (hl:∀k,blk A=Z k→blk U=Z k∨M≤k):∀q,blk A=Z q→q≠N:=fun q hq e=>by
 rcases hl q hq with h1 | h1
 ·cases h1
 ·omega
theorem zSx {Y w1:World} {K:Int} {A:Option Addr} {n c:Nat} {L:List Lt} (hown:OwnL w1 Y.heap.size A n c L) (hz:Blk w1 Y.heap.size 55 #[D J 0,H U 0 0]) (hb:Below Y.heap.size Y w1) (hf:∀q,blk A=Z q→q≠Y.heap.size) :
  ∃(X:World) (oB:Nat) (A1:Option Addr) (c1:Nat),X=(w1.setCell ⟨Y.heap.size,0,U⟩ (D J K)).setCell ⟨Y.heap.size,1,U⟩ (H A n c)∧Value.pointer (Z ⟨Y.heap.size,0,U⟩)=.pointer (Z ⟨oB,0,U⟩)∧Y.heap.size≤oB∧SgW Y X oB K A1 n c1 L:=by
 refine ⟨_,Y.heap.size,A,c,rfl,rfl,Nat.le_refl _,?_,(hz.set_ 0 _).set_ 1 _,hf,(hb.setCell (p:=⟨Y.heap.size,0,U⟩) (Nat.le_refl _) _).setCell (p:=⟨Y.heap.size,1,U⟩) (Nat.le_refl _) _⟩;have gS:=zAk (zAk (World.grownBy.refl w1 (Z Y.heap.size)) (p:=⟨Y.heap.size,0,U⟩) (.inl rfl) (D J K)) (p:=⟨Y.heap.size,1,U⟩) (.inl rfl) (H A n c);refine ⟨hown.row.kept gS ?_,hown.fits,hown.le⟩
 cases hb:blk A with
 | none=>exact .inl rfl
 | some q=>exact .inr (by have:=hf q hb;simpa using this)
set_option maxHeartbeats 12800000 in
set_option maxRecDepth 100000 in
theorem zKV (K:Int) (B:Option Addr) (n d:Nat) (L:List Lt) (cr nu:Nat) (w:World) (hB:Lets w B n L) (hn:n≤1000000) (hcr:cr≤12) (hnu:nu < 4096) (hid:∀i,i < n→isC (la L i)=Q→1≤(la L i).id∧(la L i).id≤cr) :
  Calls Tryz.prog 82 #[.agg #[D J K,H B n d],D J (cr:Int),D J (nu:Int)] w (zMo w K (zCS cr nu L)):=by
 have aa:Below w.heap.size w ((w.alloc (.cells #[D J K,H B n d] 55)).alloc (.cells #[D J 0,H U 0 0] 55)):=((Below.refl _ _).alloc (Nat.le_refl _) _).alloc (by simp) _;have hk0:Blk ((w.alloc (.cells #[D J K,H B n d] 55)).alloc (.cells #[D J 0,H U 0 0] 55)) w.heap.size 55 #[D J K,H B n d]:=(Blk.new w _ _).alloc _;have ag:Blk ((w.alloc (.cells #[D J K,H B n d] 55)).alloc (.cells #[D J 0,H U 0 0] 55)) (w.heap.size+1) 55 #[D J 0,H U 0 0]:=heap_alloc2_new w _ _;have aZ:=qH hB.len;have HB:=qH hB;have wU:=qH hid;clear hid hB;go_enter Tryz.func82,Tryz.ntmps82;go_upto_region 1 with fail
 generalize ((w.alloc (.cells #[D J K,H B n d] 55)).alloc (.cells #[D J 0,H U 0 0] 55))=Y at aa hk0 ag ⊢;obtain ⟨f0,f1⟩:=cQ2 hk0;have D6:Lets Y B n L:=HB.out.below aa;have KP:=qH (fun wx (h:Below Y.heap.size Y wx)=>(show wx.cell? ⟨w.heap.size,0,U⟩=Z (D J K)∧wx.cell? ⟨w.heap.size,1,U⟩=Z (H B n d) from ⟨((hk0.below h hk0.lt).cell 0).trans rfl,((hk0.below h hk0.lt).cell 1).trans rfl⟩));have Dv:n≤2932031007402:=by omega
 have jb:Below Y.heap.size Y (Y.alloc (.cells #[D J 0,H U 0 0] 55)):=(Below.refl _ _).alloc (Nat.le_refl _) _;have zi:Blk (Y.alloc (.cells #[D J 0,H U 0 0] 55)) Y.heap.size 55 #[D J 0,H U 0 0]:=Blk.new _ _ _;have C8:(Y.alloc (.cells #[D J 0,H U 0 0] 55)).cell? ⟨w.heap.size,0,U⟩=Z (D J K):=(KP.out _ jb).1;have C7:(Y.alloc (.cells #[D J 0,H U 0 0] 55)).cell? ⟨w.heap.size,1,U⟩=Z (H B n d):=(KP.out _ jb).2;go_cut [7] (fun v7 wv=>∃(X:World) (oB:Nat) (A1:Option Addr) (c1:Nat),X=wv∧v7=.pointer (Z ⟨oB,0,U⟩)∧Y.heap.size≤oB∧SgW Y X oB K A1 n c1 (zIk cr nu L 0))
 case first =>
  go_region_law (first
   | ((refine zWE (base:=Y.heap.size) (A:=U) (n:=0) (c:=0) (L:=[]) (m:=n) (d:=d) (M:=L) rfl (.const (H U 0 0)) (.tmp 13) (by rfl) (by rfl) (by rfl) (OwnL.nil _ _) (by first | exact D6.below (Below.refl _ _).drew | exact D6.below jb.drew) n (by omega) Dv (by first | exact Nat.le_refl _ | exact jb.size) ?_)
      intro A1 c1 w1 dO bT eN
      have ky:Below Y.heap.size Y w1:=(by first | exact zIS (Below.refl Y.heap.size Y).drew bT (Nat.le_refl _) | exact zIS jb.drew bT jb.size)
      obtain ⟨u0,u1⟩:=KP.out _ ky
      obtain ⟨u2,u3⟩:=KP.out _ (ky.alloc ky.size (.cells #[D J 0,H U 0 0] 55))
      try have uF:=zi.drew.grown bT (by simp [blk])
      try have y0:w1.cell? ⟨Y.heap.size,0,U⟩=Z (D J 0):=(uF.cell 0).trans rfl
      try have y1:w1.cell? ⟨Y.heap.size,1,U⟩=Z (H U 0 0):=(uF.cell 1).trans rfl
      try have iC:=uF.frozen 0
      try have iB:=uF.frozen 1
      try have hfar:=zVa zi.lt eN))
  all_goals
   rw [List.nil_append] at dO;clear u0 u1 u2 u3 KP f0 f1 C8 C7;go_wp2_with fail
   go_meet
   case rel =>
    rw [zQG]
    first
     | exact ⟨_,w1.heap.size,A1,c1,rfl,rfl,ky.size,dO.alloc _,Blk.new _ _ _,fun q hq=>Nat.ne_of_lt (dO.row.lt q hq).2,ky.alloc ky.size _⟩
     | exact zSx dO uF ky hfar
 case rest =>
  obtain ⟨ZU,oB,A1,c1,hZ,rfl,hoY,c8⟩:=hcut;subst hZ;clear zi C8 C7 jb KP f0 f1;have g1:ZU.cell? ⟨oB,1,U⟩=Z (H A1 n c1):=(c8.bk.cell 1).trans rfl;go_wp2_with fail
  clear g1;go_loopw [19] (fun v19 wv=>∃(i:Nat) (X:World),X=wv∧i≤n∧v19=D J i∧SgW Y X oB K A1 n c1 (zIk cr nu L i)) (fun v19 _=>n-(intOf v19).toNat)
  case atStart=>exact ⟨0,_,rfl,by omega,rfl,c8⟩
  case round =>
   obtain ⟨i,X,hX,hi,rfl,hW⟩:=hrel;subst hX;clear c8;by_cases hlt:i < n
   ·have j0:(0:Int)≤(i:Int):=by omega
    have j1:(i:Int) < (n:Int):=by omega
    have hil:i < L.length:=by rw [aZ.out];exact hlt
    have hgi:=zQH (cr:=cr) (nu:=nu) hil;have hll:la (zIk cr nu L i) i=la L i:=zRx hgi;obtain ⟨g,o,rfl,hgl,hat,hok⟩:=hW.own.lets.at_ hlt;rw [hll] at hat hok;obtain ⟨l,hle⟩:∃l,la L i=l:=⟨_,rfl⟩
    rw [hle] at hat hok hgi;obtain ⟨x0,x1,x2,x3,x4,x5⟩:=hat;have hbl:=(Below.refl X.heap.size X).alloc (Nat.le_refl _) (.cells #[D J l.kind,D J l.gate,D J l.rank,D J l.id,D J l.sign,G l.over] 76);have bg:Blk (X.alloc (.cells #[D J l.kind,D J l.gate,D J l.rank,D J l.id,D J l.sign,G l.over] 76)) X.heap.size 76 #[D J l.kind,D J l.gate,D J l.rank,D J l.id,D J l.sign,G l.over]:=Blk.new _ _ _;have dx:=hW.next hbl;have dT:g < X.heap.size:=hgl;have Cy:=qH (wU.out i hlt);clear hW hbl hll;by_cases hk2:l.kind=2
    ·have q2:(l.kind != 2)=E:=by simpa using hk2
     have rV:isC (la L i)=Q:=by rw [hle];exact zKl hk2
     have hid:=Cy.out rV;rw [hle] at hid;obtain ⟨k,hk⟩:∃k:Nat,(cr:Int)-l.id=(k:Int):=⟨((cr:Int)-l.id).toNat,by omega⟩
     have hk12:k≤12:=by omega
     have hkk:cr-l.id.toNat=k:=by omega
     obtain ⟨q,hq⟩:∃q,nu >>> k=q:=⟨_,rfl⟩
     have hq4:q < 4096:=by rw [←hq];exact Nat.lt_of_le_of_lt (Nat.shiftRight_le _ _) hnu
     have hdiv:(nu:Int) / 2 ^ k=(q:Int):=by rw [←hq,Nat.shiftRight_eq_div_pow];simp
     have hand:=zQJ q hq4;have hwr:wrap64 ((cr:Int)-l.id)=(k:Int):=by rw [hk];unfold wrap64;omega
     have hokm:∀s,s=1∨s = -1→LtOk { l with sign:=s }:=fun s hs=>⟨hok.kind,hok.gate,hok.rank,hok.id,⟨by simp only;omega,by simp only;omega⟩⟩
     have wN:=qH (show sgL cr nu (la L i)={ l with sign:=if q % 2=1 then 1 else -1 } by
      unfold sgL sgI
      rw [rV,if_pos rfl,hle,hkk,hq])
     have wO:=qH (zNp (cr:=cr) (nu:=nu) hil);have hi1:i+1≤n:=hlt;have wV:=qH hgi;have gk:=qH hokm;clear hk2 rV hid hle hk hkk hq hokm hgi hok;go_upto_region 6 with fail
     clear x0 x1 x2 x3 x5;generalize X.alloc (.cells #[D J l.kind,D J l.gate,D J l.rank,D J l.id,D J l.sign,G l.over] 76)=X1 at bg dx ⊢;generalize X.heap.size=a9 at bg dT ⊢;have sq:=(dx.own.lets.also (k:=i) hlt).1;have ve:la (zIk cr nu L i) i=l:=zRx wV.out;rw [ve] at sq;have c1:X1.cell? ⟨oB,1,U⟩=Z (H (Z ⟨g,o,U⟩) n c1):=(dx.bk.cell 1).trans rfl;have s4:X1.cell? ⟨g,o+i*6+4,U⟩=Z (D J l.sign):=sq.sign;have z4:=dx.free hlt;have bw:=dx.put (x':={ l with sign:=-1 }) (u:=D J (-1)) wV.out rfl (gk.out _ (.inr rfl));have bK:=bg.far (p:=⟨g,o+(i*6+4),U⟩) (by simp only;omega) (D J (-1));clear sq ve dx bg;go_upto_region 7 with fail
     clear c1 s4 z4 x4;generalize X1.setCell ⟨g,o+i*6+4,U⟩ (D J (-1))=X2 at *
     change SgW Y X2 oB K (Z ⟨g,o,U⟩) n c1 _ at bw
     change Blk X2 a9 _ _ at bK
     have e3:X2.cell? ⟨a9,3,U⟩=Z (D J l.id):=(bK.cell 3).trans rfl;have bn:((zIk cr nu L i).set i { l with sign:=-1 })[i]? = Z { l with sign:=-1 }:=by rw [List.getElem?_set_self (by rw [zJR _ _ _ (Nat.le_of_lt hil)];exact hil)]
     by_cases hb:q % 2=1
     ·have r1:(((q % 2:Nat):Int)==1)=Q:=by rw [hb];rfl
      have c1:X2.cell? ⟨oB,1,U⟩=Z (H (Z ⟨g,o,U⟩) n c1):=(bw.bk.cell 1).trans rfl;have gQ:=(bw.own.lets.also (k:=i) hlt).1;rw [show la ((zIk cr nu L i).set i { l with sign:=-1 }) i={ l with sign:=-1 } from zRx bn] at gQ;have s4:X2.cell? ⟨g,o+i*6+4,U⟩=Z (D J (-1)):=gQ.sign;have z4:=bw.free hlt;have bX:=bw.put (x':={ l with sign:=1 }) (u:=D J 1) bn rfl (gk.out _ (.inl rfl));rw [List.set_set,show ({ l with sign:=1 }:Lt)=sgL cr nu (la L i) by rw [wN.out,if_pos hb],wO.out] at bX;have lE:=qH bX;clear gQ bw bX bK bn hb;go_wp2_with fail
      go_roundw
      case rel=>exact ⟨i+1,_,rfl,hi1,by go_num,lE.out⟩
      case measure=>simp [intOf];omega
     ·have aa:q % 2=0:=by omega
      have r1:(((q % 2:Nat):Int)==1)=E:=by rw [aa];rfl
      rw [show ({ l with sign:=-1 }:Lt)=sgL cr nu (la L i) by rw [wN.out,if_neg hb],wO.out] at bw;clear bK bn hb aa;go_wp2_with fail
      go_roundw
      case rel=>exact ⟨i+1,_,rfl,hi1,by go_num,bw⟩
      case measure=>simp [intOf];omega
    ·have q2:(l.kind != 2)=Q:=by simpa using hk2
     have hs:zIk cr nu L (i+1)=zIk cr nu L i:=zQI hil (by unfold sgL;rw [hle,zKm hk2];rfl);rw [←hs] at dx;clear hk2 hle hs bg hgi hok;go_wp2_with fail
     go_roundw
     case rel=>exact ⟨i+1,_,rfl,by omega,by go_num,dx⟩
     case measure=>simp [intOf];omega
   ·have j1:¬(i:Int) < (n:Int):=by omega
    have hin:i=L.length:=by rw [aZ.out];omega
    rw [hin,zSw] at hW;have vG:w.heap.size+1 < Y.heap.size:=ag.lt;have eY:=ag.below hW.old vG;have e0:X.cell? ⟨oB,0,U⟩=Z (D J K):=(hW.bk.cell 0).trans rfl;have e1:X.cell? ⟨oB,1,U⟩=Z (H A1 n c1):=(hW.bk.cell 1).trans rfl;obtain ⟨r0,r1⟩:=cQ2 eY;have z0:=eY.frozen 0;have z1:=eY.frozen 1;have js:=qH eY;have HW:=qH hW;have nM:=aa.size;clear hin hlt hW eY;go_wp2_with fail
    have hS:Blk ((X.setCell ⟨w.heap.size+1,0,U⟩ (D J K)).setCell ⟨w.heap.size+1,1,U⟩ (H A1 n c1)) (w.heap.size+1) 55 #[D J K,H A1 n c1]:=(js.out.set_ 0 _).set_ 1 _;have gS:=zAk (zAk (World.grownBy.refl X (Z (w.heap.size+1))) (p:=⟨w.heap.size+1,0,U⟩) (.inl rfl) (D J K)) (p:=⟨w.heap.size+1,1,U⟩) (.inl rfl) (H A1 n c1);have gP:=((zAa aa HW.out.old nM).setCell (p:=⟨w.heap.size+1,0,U⟩) (by simp) (D J K)).setCell (p:=⟨w.heap.size+1,1,U⟩) (by simp) (H A1 n c1);have vL:OwnL ((X.setCell ⟨w.heap.size+1,0,U⟩ (D J K)).setCell ⟨w.heap.size+1,1,U⟩ (H A1 n c1)) w.heap.size A1 n c1 (zCS cr nu L):=by
     refine ⟨(HW.out.own.row.kept gS ?_).mono nM,HW.out.own.fits,HW.out.own.le⟩
     cases hb:blk A1 with
     | none=>exact .inl rfl
     | some q=>exact .inr (by have:=(HW.out.own.row.lt q hb).1;simp;omega)
    (try simp only [Exit.inBlock,Exit.then])
    refine zAH rfl rfl hS Tryz.underlying55 rfl (by kernel_rfl) rfl ?_;exact ⟨A1,n,c1,rfl,vL,gP⟩
def zTx (b:Bi):List Value:=[D J b.f,D J b.n,G b.b]
structure BiOk (b:Bi):Prop where
 f:I64 b.f
 n:I64 b.n
structure BiAt (w:World) (g o:Nat) (x:Bi):Prop where
 f:w.cell? ⟨g,o,U⟩=Z (D J x.f)
 n:w.cell? ⟨g,o+1,U⟩=Z (D J x.n)
 b:w.cell? ⟨g,o+2,U⟩=Z (G x.b)
def Bits (w:World) (A:Option Addr) (n:Nat) (l:List Bi):Prop:=Els 3 zTx w A n l∧∀x∈l,BiOk x
section
variable {w w':World} {A:Option Addr} {n:Nat} {l:List Bi}
theorem Bits.len (h:Bits w A n l):l.length=n:=h.1.1
theorem Bits.below (h:Bits w A n l) (hb:Below w.heap.size w w'):Bits w' A n l:=⟨h.1.below hb,h.2⟩
theorem Bits.at_ {k:Nat} (h:Bits w A n l) (hk:k < n):∃g o,A=Z ⟨g,o,U⟩∧g < w.heap.size∧BiAt w g (o+k*3) (ba l k)∧BiOk (ba l k):=by
 obtain ⟨g,o,e,hb,hc⟩:=h.1.2.2 (by omega);have hx:l[k]? = Z (ba l k):=zNi (by rw [h.len];exact hk);refine ⟨g,o,e,hb,⟨hc k _ hx 0 _ rfl,hc k _ hx 1 _ rfl,hc k _ hx 2 _ rfl⟩,h.2 _ (List.mem_of_getElem? hx)⟩
end
theorem zWF:(Tryz.prog.info? 174).map (fun i=>(i.zero,i.size,i.bytes))=Z (Z (.agg #[D J 0,D J 0,G E]),3,24):=by kernel_rfl
theorem zXL {w:World} {ops:Array Oper} {rest:List Oper} {o:Oper} {a:Act} {ZS:Exit→Act→World→Prop} (hgd:o.guard=U) (s x:Operand)
  (ho:o.op=.call { callee:=.builtin .append,args:=#[s,x],argTypes:=#[124,124] })
  {base:Nat} {A:Option Addr} {n c:Nat} {P:List Bi} (hst:Row w base 3 A n c (P.flatMap zTx)) (y:Bi)
  (hs:a.eval s=H A n c) (hx:a.eval x=H (Z ⟨w.heap.size,0,U⟩) 1 1) (N:Nat) (hN:n+1=N) (hn:N≤1000000) (hbase:base≤w.heap.size)
  (h:∀A' c' w',Row w' base 3 A' N c' ((P++[y]).flatMap zTx)→w.grownBy w' (blk A)→(∀k,blk A'=Z k→blk A=Z k∨w.heap.size≤k)→wpList Tryz.prog ops ZS rest (a.put o.dst (H A' N c')) w') :
  wpList Tryz.prog ops ZS (o :: rest) a (w.alloc (.cells #[D J y.f,D J y.n,G y.b] 174)):=by
 obtain ⟨i0,hi,aQ,az,bi⟩:=info_parts zWF;have hbl:=(Below.refl w.heap.size w).alloc (Nat.le_refl _) (.cells #[D J y.f,D J y.n,G y.b] 174);have bE:=hst.below hbl
 refine zPn hgd s x 124 ho 174 i0 _ 3 24 Tryz.underlying124 hi aQ az bi rfl (by decide) bE (Src.new (m:=1) (cs:=zTx y) rfl)
  (by intro u hu;simp [zTx] at hu;rcases hu with rfl | rfl | rfl<;>rfl) hs hx N hN (by unfold maxLen;omega) (by omega) (by simp;omega) ?_
 intro A' c' w' h1 h2 h3 _;refine h A' c' w' (by rw [List.flatMap_append];simpa using h1) ?_ (fun k hk=>?_)
 ·exact zAb (zAt hbl) h2
 ·rcases h3 k hk with e | e
  ·exact .inl e
  ·exact .inr (by simp at e;omega)
def zQK (x:List UInt8):List UInt8:=match x.getLast? with
 | some c=>[c]
 | none=>[]
theorem zQL (S:List UInt8) (c:UInt8):zQK (S++[c])=[c]:=by unfold zQK;simp
theorem zJS (x:List UInt8) (c:UInt8):(zQK x==[c])=zBZ x c:=by
 unfold zQK zBZ
 cases x.getLast? with
 | none=>simp
 | some d=>by_cases h:d=c<;>simp [h]
theorem zSy (S:List UInt8) (c:UInt8) (w:World):(Instr.slice 9 (W (bA (S++[c]))) U (Z (D J (S.length:Int))) U).run Tryz.prog w=.ok (W (bA S)) w:=by
 rw [run_slice_string_h w 9 (bA (S++[c])) Tryz.underlying9 J (S.length:Int) (by omega) (by rw [zAZ];simp;omega),zDa];simp
theorem zSz (S:List UInt8) (c:UInt8) (w:World):(Instr.slice 9 (W (bA (S++[c]))) (Z (D J (S.length:Int))) U U).run Tryz.prog w=.ok (W (bA [c])) w:=by
 rw [run_slice_string_l w 9 (bA (S++[c])) Tryz.underlying9 J (S.length:Int) (by omega) (by rw [zAZ];simp;omega),zDa,zAZ,List.take_of_length_le (Nat.le_refl _)];simp
theorem zVb (s:List UInt8) (hs:s.length≤100000) (w:World) (ht:Tabs w) :
  Calls Tryz.prog 62 #[W (bA s),W ⟨#[46]⟩] w fun e w'=>e=.returned (.tuple #[W (bA (Lib.cut s [46]).1),W (bA (Lib.cut s [46]).2.1),G (Lib.cut s [46]).2.2])∧Below w.heap.size w w':=by
 obtain ⟨m,hm⟩:=ht.most;have h:=Tryz.strings_Cut (bA s) (bA [46]) m w (by rw [zAZ];omega) hm;rw [zDO,zDO] at h;refine h.mono ?_;rintro e w' ⟨rfl,n,rfl⟩;exact ⟨rfl,zAf (Below.refl _ _) n⟩
end Go.Proofs.YtlmdfmnbcndhoaaGreatDoor
