/-
  Lemmas, part 43. Conditions: each theorem's own.
-/
import Derived.Test.YtlmdfmnbcndhoaaGreatDoorRq32
import Derived.Test.YtlmdfmnbcndhoaaGreatDoorRq05
open Go.Value renaming bool→G,int→D,slice→H
open Go.IntKind renaming i64→J
open Option renaming none→U,some→Z
open Bool renaming false→E,true→Q
namespace Go.Proofs.YtlmdfmnbcndhoaaGreatDoor
open Go.RowKit
theorem zOG {f:Nat→Nat} {k:Nat} {s:List Bool} {x:Nat} (h:sat s x=Q):zAW f k s x=([],s):=by
 cases k with
 | zero=>rfl
 | succ k=>unfold zAW;rw [if_pos h]
theorem zOH {f:Nat→Nat} {k:Nat} {s:List Bool} {x:Nat} (h:sat s x=E):zAW f (k+1) s x=(x :: (zAW f k (s.set x Q) (f x)).1,(zAW f k (s.set x Q) (f x)).2):=by
 conv=>lhs;unfold zAW
 rw [if_neg (by rw [h];simp)]
theorem zOI {f:Nat→Nat} {d k:Nat} {s:List Bool} (h:sat s d=Q):zAO f (List.range' d (k+1)) s=zAO f (List.range' (d+1) k) s:=by
 rw [List.range'_succ];conv=>lhs;unfold zAO
 rw [if_pos h]
theorem zRf {f:Nat→Nat} {d k:Nat} {s:List Bool} (h:sat s d=E):zAO f (List.range' d (k+1)) s=(zAW f s.length s d).1 :: zAO f (List.range' (d+1) k) (zAW f s.length s d).2:=by
 rw [List.range'_succ];conv=>lhs;unfold zAO
 rw [if_neg (by rw [h];simp)]
theorem zOJ:(Tryz.prog.info? 79).map (fun i=>(i.zero,i.size,i.bytes))=Z (Z (H U 0 0),1,24):=by kernel_rfl
def zTJ:Value→Nat
 | H _ n _=>n
 | _=>0
theorem zWY {w:World} {ops:Array Oper} {rest:List Oper} {o:Oper} {a:Act} {ZS:Exit→Act→World→Prop} (hgd:o.guard=U) (s x:Operand)
  (ho:o.op=.call { callee:=.builtin .append,args:=#[s,x],argTypes:=#[177,177] })
  {base:Nat} {A:Option Addr} {n c:Nat} {vs:List SV} (hst:Row w base 1 A n c (vs.map SV.val)) (B:Option Addr) (m d:Nat) (hs:a.eval s=H A n c)
  (hx:a.eval x=H (Z ⟨w.heap.size,0,U⟩) 1 1) (N:Nat) (hN:n+1=N) (hn:N≤1000000) (hbase:base≤w.heap.size)
  (h:∀A' c' w',Row w' base 1 A' N c' ((vs++[(⟨B,m,d⟩:SV)]).map SV.val)→w.grownBy w' (blk A)→(∀k,blk A'=Z k→blk A=Z k∨w.heap.size≤k)→wpList Tryz.prog ops ZS rest (a.put o.dst (H A' N c')) w') :
  wpList Tryz.prog ops ZS (o :: rest) a (w.alloc (.cells #[H B m d] 79)):=by
 obtain ⟨i0,hi,aQ,az,bi⟩:=info_parts zOJ
 refine zPn hgd s x 177 ho 79 i0 _ 1 24 Tryz.underlying177 hi aQ az bi rfl (by decide) (hst.alloc _) (Src.new (m:=1) (cs:=[H B m d]) rfl)
  (by intro u hu;simp at hu;subst hu;rfl) hs hx N hN (by unfold maxLen;omega) (by omega) (by simp;omega) ?_
 intro A' c' w' h1 h2 h3 _;refine h A' c' w' (by rw [List.map_append];exact h1) (zAb (World.grownBy_alloc w _ _) h2) (fun k hk=>?_);rcases h3 k hk with h | h
 ·exact .inl h
 ·right;simp at h;omega
set_option maxRecDepth 100000 in
set_option maxHeartbeats 3200000 in
theorem zRg (K:Int) (A:Option Addr) (n c:Nat) (L:List Lt) (w:World) (hA:Lets w A n L) (g:Good K L) (fu:n≤1000) :
  Calls Tryz.prog 135 #[.agg #[D J K,H A n c]] w fun e w'=>∃A' c' vs,e=.returned (.slice A' (zBz L).length c')∧Wks w' w.heap.size A' (zBz L).length c' vs ((zBz L).map zEM)∧Below w.heap.size w w':=by
 have aD:=qH hA.len;have hbx:=Boxed.refl w K A n c;obtain ⟨m,hm⟩:∃m,m=(axL L).length:=⟨_,rfl⟩
 have hmn:m≤n:=by rw [hm,zEJ,aD.out];exact zIm L n
 obtain ⟨N,hN⟩:∃N,N=zAw L:=⟨_,rfl⟩
 have vK:N=2*n+2*m:=by rw [hN,hm];unfold zAw;rw [aD.out]
 have sv:N≤17592186044416:=by omega
 have HM:=qH hm;have HN:=qH hN;have oI:=qH vK;have hW:Hid ([]++zAO (zAz L (axL L)) (List.range' 0 (N-0)) (List.replicate N E)=zBz L):=by
  show _=_;rw [List.nil_append,Nat.sub_zero,←List.range_eq_range',hN];rfl
 clear hm hN vK;go_enter Tryz.func135,Tryz.ntmps135;go_wp2_with fail
 refine (zSp K A n c L _ (hA.below hbx.below)).mono ?_;rintro e w1 ⟨A1,c1,rfl,dO,aj⟩;rw [←HM.out] at dO ⊢;have hX:=dO.ints;have eX:=hbx.more aj;have k0:=eX.c0;have k1:=eX.c1;clear dO aj hbx;go_wp2_with (at_make;refine zMN rfl _ _ rfl N _ rfl rfl (by have:=oI.out;omega) sv (Nat.le_refl _) ?_;intro ws ny mH hzs)
 clear k0 k1;have fc:=hA.below eX.below;go_loopw [3,6] (fun v3 v6 wr=>∃(d q:Nat) (s:List Bool) (A2:Option Addr) (c2:Nat) (vs:List SV) (Ws:List (List Nat)),d≤N∧q≤d∧v6=D J d∧v3=H A2 q c2∧Wks wr (w1.heap.size+1) A2 q c2 vs (Ws.map zEM)∧OwnB wr w1.heap.size w1.heap.size N s∧Below w1.heap.size w1 wr∧Hid (Ws++zAO (zAz L (axL L)) (List.range' d (N-d)) s=zBz L)) (fun _ v6 _=>N-(intOf v6).toNat)
 case atStart=>exact ⟨0,0,List.replicate N E,U,0,[],[],Nat.zero_le _,Nat.le_refl _,rfl,rfl,Wks.nil _ _,ny,mH,hW⟩
 case round =>
  obtain ⟨d,q,s,A2,c2,vs,Ws,hd,hqd,rfl,rfl,hwk,hs,hbw,HW⟩:=hrel;clear ny hW mH;by_cases hdN:d < N
  ·have hcs:=hs.cell hdN;have i0:(0:Int)≤(d:Int):=by omega
   have i1:(d:Int) < (N:Int):=by omega
   cases hsd:sat s d with
   | true =>
    rw [hsd] at hcs
    have BS:=qH (show Ws++zAO (zAz L (axL L)) (List.range' (d+1) (N-(d+1))) s=zBz L by
     rw [←HW.out,show N-d=N-(d+1)+1 by omega,zOI hsd])
    clear hsd HW;go_wp2_with fail
    go_roundw
    case rel=>exact ⟨d+1,q,s,A2,c2,vs,Ws,by omega,by omega,by go_num,rfl,hwk,hs,hbw,BS⟩
    case measure=>simp [intOf];omega
   | false =>
    rw [hsd] at hcs
    have vP:=qH (show Ws++(zAW (zAz L (axL L)) N s d).1 :: zAO (zAz L (axL L)) (List.range' (d+1) (N-(d+1))) (zAW (zAz L (axL L)) N s d).2=zBz L by
     rw [←HW.out,show N-d=N-(d+1)+1 by omega,zRf hsd,hs.len])
    clear hsd HW;have zy:unN s≤N:=by rw [←hs.len];exact zPb s
    have zT:w1.heap.size < wr.heap.size:=hs.lt;go_wp2_with fail
    obtain ⟨wo,rfl⟩:∃wo:World,wo=wr:=⟨_,rfl⟩
    go_loopw [7,8] (fun v7 v8 wi=>∃(x p cP k:Nat) (AP:Option Addr) (P:List Nat) (si:List Bool),x < N∧v8=D J x∧v7=H AP p cP∧Own wi wo.heap.size AP p cP (zEM P)∧OwnB wi w1.heap.size w1.heap.size N si∧wo.grownBy wi (Z w1.heap.size)∧Below w1.heap.size w1 wi∧unN si≤k∧p+unN si=unN s∧Hid (P++(zAW (zAz L (axL L)) k si x).1=(zAW (zAz L (axL L)) N s d).1∧(zAW (zAz L (axL L)) k si x).2=(zAW (zAz L (axL L)) N s d).2)) (fun v7 _ _=>N-zTJ v7)
    case atStart=>exact ⟨d,0,0,N,U,[],s,hdN,rfl,rfl,Own.nil _ _,hs,World.grownBy.refl _ _,hbw,zy,by omega,qH ⟨rfl,rfl⟩⟩
    case round =>
     obtain ⟨x,p,cP,k,AP,P,si,hx,rfl,rfl,di,hsi,hgr,hbi,huk,hpu,HP⟩:=hrel;have j0:(0:Int)≤(x:Int):=by omega
     have j1:(x:Int) < (N:Int):=by omega
     have hcx:=hsi.cell hx;have hfx:=hsi.frozen x;have hszi:=hgr.size
     cases hsx:sat si x with
     | true =>
      rw [hsx] at hcx;have jh:=HP.out;rw [zOG hsx] at jh;have gh:=qH jh;clear hsx HP jh;have hwki:=hwk.kept hgr (by omega);have qD:=di.ints;have hpc:=di.cap;have fW:q+1≤1000000:=by have:=oI.out;omega
      have An:w1.heap.size+1≤wr.heap.size:=by omega
      go_wp2_with (at_builtin;refine zWY rfl _ _ rfl hwki.row AP p cP rfl rfl (q+1) rfl fW An ?_)
      intro A3 c3 w3 lT db qJ;have uK:=hwki.push (v:=⟨AP,p,cP⟩) (by rw [List.map_append];exact lT) rfl db qJ qD hpc (fun k hk=>⟨by have:=(di.lt k hk).1;omega,(di.lt k hk).2,fun e=>by have:=(hwk.row.lt k e).2;have:=(di.lt k hk).1;omega⟩)
      have zE:=hsi.kept db (by
       intro e
       have:=(hwki.row.lt _ e.symm).1
       omega)
      have ac:Below w1.heap.size w1 w3:=zAa hbi (B:=w1.heap.size) (C:=w1.heap.size+1) ((Below.refl _ _).grown db (by omega) (fun k hk=>(hwki.row.lt k hk).1)) (by omega)
      have sy:=qH (show (Ws++[P])++zAO (zAz L (axL L)) (List.range' (d+1) (N-(d+1))) si=zBz L by
       rw [←vP.out,←gh.out.1,←gh.out.2];simp)
      have hmap:Ws.map zEM++[zEM P]=(Ws++[P]).map zEM:=by simp
      rw [hmap] at uK;clear lT db qJ hwki qD di hsi hgr hbi hwk hs hbw hmap gh vP hcx hfx hcs;go_wp2_with fail
      go_roundw
      case rel=>exact ⟨d+1,q+1,si,A3,c3,_,_,by omega,by omega,by go_num,rfl,uK,zE,ac,sy⟩
      case measure=>simp [intOf];omega
     | false =>
      rw [hsx] at hcx;obtain ⟨k,rfl⟩:∃k',k=k'+1:=⟨k-1,by have:=zLq hsx;omega⟩
      have hus:=zHr hsx;have jh:=HP.out;rw [zOH hsx] at jh
      have gh:=qH (show (P++[x])++(zAW (zAz L (axL L)) k (si.set x Q) (zAz L (axL L) x)).1=(zAW (zAz L (axL L)) N s d).1∧(zAW (zAz L (axL L)) k (si.set x Q) (zAz L (axL L) x)).2=(zAW (zAz L (axL L)) N s d).2 by
       simpa using jh)
      clear hsx HP jh;have uJ:I64 (x:Int):=⟨by omega,by omega⟩;have BQ:=qH uJ;clear uJ;have g1:=zAk (World.grownBy.refl wr (Z w1.heap.size)) (p:=⟨w1.heap.size,x,U⟩) (.inl rfl) (G Q)
      have qC:Own (wr.setCell ⟨w1.heap.size,x,U⟩ (G Q)) wo.heap.size AP p cP (zEM P):=di.kept g1 (by
       cases hb:blk AP with
       | none=>exact .inl rfl
       | some q=>exact .inr (by have:=(di.lt q hb).1;simp;omega))
      have tl:=hsi.stored x Q;have Dy:=zAk hgr (p:=⟨w1.heap.size,x,U⟩) (.inl rfl) (G Q);have gP:=hbi.setCell (p:=⟨w1.heap.size,x,U⟩) (Nat.le_refl _) (G Q);have uL:(wr.setCell ⟨w1.heap.size,x,U⟩ (G Q)).heap.size=wr.heap.size:=by simp
      have zL:p < 17592186044416:=by omega
      clear g1 di hsi hgr hbi;go_wp2_with (at_builtin;refine zXs rfl _ _ rfl qC (x:Int) rfl wr.heap.size uL rfl BQ.out zL (by omega) ?_)
      intro A4 c4 w4 hown4 ah _ _;have cO:=tl.below ah zT;have dj:=zAn Dy ah (Nat.le_refl _);have je:=zAa gP ah (by omega);have hmap:zEM P++[(x:Int)]=zEM (P++[x]):=by simp [zEM]
      rw [hmap] at hown4;have mA:zAz L (axL L) x < N:=by rw [HN.out];exact g.into (by rw [←HN.out];exact hx)
      clear qC tl Dy gP ah hmap hcx hfx uL;have k0:=(eX.moreB je (by have:=eX.size;omega)).c0;have k1:=(eX.moreB je (by have:=eX.size;omega)).c1;go_wp2_with fail
      refine (zSr K x A A1 n c m c1 L _ (fc.below je) g (hX.below je) (by rw [←HN.out];exact hx)).mono ?_;rintro e w5 ⟨rfl,ai⟩;have rz:=cO.below ai cO.lt;have im:=zAn dj ai dj.size;have uU:=hown4.below ai;have sm:=zAa je ai (by have:=je.size;omega);clear cO dj hown4 je ai k0 k1;generalize zAz L (axL L) x=x' at mA gh ⊢;have hsl:(si.set x Q).length=N:=rz.len;go_wp2_with fail
      go_roundw
      case rel=>exact ⟨x',p+1,c4,k,A4,P++[x],si.set x Q,mA,rfl,rfl,uU,rz,im,sm,by omega,by omega,gh⟩
      case measure=>simp [zTJ];omega
  ·have Aj:d=N:=by omega
   subst Aj;have mJ:Ws=zBz L:=by
    have:=HW.out;rw [Nat.sub_self] at this;simpa [zAO] using this
   have hq:q=(zBz L).length:=by rw [←mJ,←hwk.len];simp
   rw [mJ] at hwk;subst hq;clear mJ HW;go_wp2_with fail
   go_ret;exact ⟨_,_,vs,rfl,hwk.mono (by have:=eX.size;omega),zAa eX.below hbw (by have:=eX.size;omega)⟩
end Go.Proofs.YtlmdfmnbcndhoaaGreatDoor
