/-
  Lemmas. Conditions: each one's own.
-/
import Derived.Test.YtlmdfmnbcndhoaaGreatDoorRt09
open Go.RowKit
set_option maxHeartbeats 12800000
set_option maxRecDepth 100000
open Go renaming World->ZY
open Option renaming none->U,some->Z
open Bool renaming false->E,true->Q
open Go.Value renaming bool->G,int->D,slice->H,string->W
open Go.IntKind renaming i64->J
open Go.Proofs.Tryz renaming prog->ZX
open Go.RowKit.Below renaming refl->M
open Nat renaming le_refl->O
open Go.RowKit renaming Below->ZZ
namespace Go.Proofs.YtlmdfmnbcndhoaaGreatDoor
theorem zFY {fn:Func} {p u v:Tmp} {ty:TypeId} (h:fn.results=#[.cell p ty,.tmp u,.tmp v]) (tmps:Array Value) (P:Program) (w:ZY) :
  (results fn tmps).run P w =
   ((asAddr (tmps.getD p undef)).run P w).andThen fun a w₁=>((loadVar ty a).run P w₁).andThen fun x w₂=>.ok (.tuple #[x,tmps.getD u undef,tmps.getD v undef]) w₂:=by
 simp only [results,h];simp [Sem.run_bind,Result.andThen]
theorem zDf {P:Program} {fn:Func} {p u u2:Tmp} {ty:TypeId} {R:Ending->ZY->Prop} {a:Act} {w:ZY} {g:Nat} {t:TypeId} {cs:Array Value} {fr:Nat×Nat} {d:TypeDesc} {v v2:Value} (h:fn.results=#[.cell p ty,.tmp u,.tmp u2])
  (hp:a.tmps.getD p undef=.pointer (Z ⟨g,0,U⟩)) (hv:a.tmps.getD u undef=v) (wl:a.tmps.getD u2 undef=v2) (hg:w.heap[g]? = Z (.cells cs t fr)) (hu:P.underlying ty=Z d) (hd:(match d with | .struct _ | .array _ _=>Q | _=>E)=Q) (hi:(P.info? ty).map (·.size)=Z cs.size)
  (hdf:a.defers=[]) (hR:R (.returned (.tuple #[.agg cs,v,v2])) w):bodyPost P fn R .ret a w:=by
 refine bodyPost_ret ?_ hdf hR;rw [zFY h,hp,hv,wl];simp [asAddr,run_loadVar_row w g t ty cs fr d hg hu hd hi,Result.andThen]
def zEo (w0:ZY) (rb:Nat) (F:Fm) (s:RS) (S:List UInt8) (e:Ending) (w':ZY):Prop :=
 (match zFL S with
  | some (f,r)=>e=.returned (.tuple #[D J (zAN F.L f:Int),W (bA r),G Q])/\RX w' rb F ⟨s.T,s.bad,s.lost||zBc F.L f⟩
  | none=>e=.returned (.tuple #[D J 0,W (bA S),G E])/\RX w' rb F s)/\w0.grownBy w' (Z rb)
theorem zMU {w:ZY} {rb:Nat} {F:Fm} {s:RS} (h:RX w rb F s) (S:List UInt8):Calls ZX 160 #[.pointer (Z ⟨rb,0,U⟩),W (bA S)] w (zEo w rb F s S):=by
 refine (zNT rb F.A F.n F.c F.L F.re F.lo s.T s.bad s.lost S w h.rd h.fr h.ne).mono ?_;rintro e w' ⟨h1,h2⟩;unfold zEo;refine ⟨?_,h2⟩
 cases hc:zFL S with
 | none =>
  rw [hc] at h1;exact ⟨h1.1,⟨h1.2,h.fr.keepR h2 h.ne,h.ne⟩⟩
 | some p =>
  rw [hc] at h1;exact ⟨h1.1,⟨h1.2,h.fr.keepR h2 h.ne,h.ne⟩⟩
theorem zGQ {w0:ZY} {rb:Nat} {F:Fm} {s:RS} {S r:List UInt8} {f:Fg} {e:Ending} {w':ZY} (h:zEo w0 rb F s S e w') (hc:zFL S=Z (f,r)) :
  e=.returned (.tuple #[D J (zAN F.L f:Int),W (bA r),G Q])/\RX w' rb F ⟨s.T,s.bad,s.lost||zBc F.L f⟩/\w0.grownBy w' (Z rb):=by
 unfold zEo at h;rw [hc] at h;exact ⟨h.1.1,h.1.2,h.2⟩
theorem zGR {w0:ZY} {rb:Nat} {F:Fm} {s:RS} {S:List UInt8} {e:Ending} {w':ZY} (h:zEo w0 rb F s S e w') (hc:zFL S=U) :
  e=.returned (.tuple #[D J 0,W (bA S),G E])/\RX w' rb F s/\w0.grownBy w' (Z rb):=by
 unfold zEo at h;rw [hc] at h;exact ⟨h.1.1,h.1.2,h.2⟩
def zBq (w0:ZY) (rb:Nat) (F:Fm) (s:RS) (S:List UInt8) (e:Ending) (w':ZY):Prop :=
 (match zAX S with
  | some (f,far,r)=>e=.returned (.tuple #[.agg #[D J (zAN F.L f:Int),D J 0,G far,D J 0],W (bA r),G Q])/\RX w' rb F ⟨s.T,s.bad,s.lost||zBc F.L f⟩
  | none=>e=.returned (.tuple #[.agg #[D J 0,D J 0,G E,D J 0],W (bA S),G E])/\∃l,RX w' rb F ⟨s.T,s.bad,l⟩)/\w0.grownBy w' (Z rb)
theorem zFZ {w0:ZY} {rb:Nat} {F:Fm} {s:RS} {S r:List UInt8} {f:Fg} {far:Bool} {e:Ending} {w':ZY} (h:zBq w0 rb F s S e w') (hc:zAX S=Z (f,far,r)) :
  e=.returned (.tuple #[.agg #[D J (zAN F.L f:Int),D J 0,G far,D J 0],W (bA r),G Q])/\RX w' rb F ⟨s.T,s.bad,s.lost||zBc F.L f⟩/\w0.grownBy w' (Z rb):=by
 unfold zBq at h;rw [hc] at h;exact ⟨h.1.1,h.1.2,h.2⟩
theorem zGa {w0:ZY} {rb:Nat} {F:Fm} {s:RS} {S:List UInt8} {e:Ending} {w':ZY} (h:zBq w0 rb F s S e w') (hc:zAX S=U) :
  e=.returned (.tuple #[.agg #[D J 0,D J 0,G E,D J 0],W (bA S),G E])/\(∃l,RX w' rb F ⟨s.T,s.bad,l⟩)/\w0.grownBy w' (Z rb):=by
 unfold zBq at h;rw [hc] at h;exact ⟨h.1.1,h.1.2,h.2⟩
theorem zWQ (f:Int) (far:Bool) (w:ZY):(Instr.build 29 #[(0,D J f),(2,G far)]).run ZX w=.ok (.agg #[D J f,D J 0,G far,D J 0]) w:=run_build w _ _ _ (by kernel_rfl)
theorem zDU (rb:Nat) (F:Fm) (s:RS) (S:List UInt8) (w:ZY) (h:RX w rb F s) :
  Calls ZX 162 #[.pointer (Z ⟨rb,0,U⟩),W (bA S)] w (zBq w rb F s S):=by
 have hlt:=h.lt;have b1:ZZ w.heap.size w (w.alloc (.cells #[D J 0,D J 0,G E,D J 0] 29)):=(M _ _).alloc (O _) _;have k1:Blk (w.alloc (.cells #[D J 0,D J 0,G E,D J 0] 29)) w.heap.size 29 #[D J 0,D J 0,G E,D J 0]:=Blk.new _ _ _;have h1:=h.below b1;have g1:w.grownBy (w.alloc (.cells #[D J 0,D J 0,G E,D J 0] 29)) (Z rb):=zAA b1;have f8:=qH (fun wx (hx:RX wx rb F s)=>zMU hx S)
 have pE:=qH (fun (hn:zAX S=U) (e:Ending) (wx:ZY) (he:e=.returned (.tuple #[.agg #[D J 0,D J 0,G E,D J 0],W (bA S),G E])) (hx:∃l,RX wx rb F ⟨s.T,s.bad,l⟩) (hg:w.grownBy wx (Z rb)) =>
  (show zBq w rb F s S e wx by unfold zBq;rw [hn];exact ⟨⟨he,hx⟩,hg⟩))
 have pD:=qH (fun (f:Fg) (far:Bool) (r:List UInt8) (hn:zAX S=Z (f,far,r)) (e:Ending) (wx:ZY) (he:e=.returned (.tuple #[.agg #[D J (zAN F.L f:Int),D J 0,G far,D J 0],W (bA r),G Q])) (hx:RX wx rb F ⟨s.T,s.bad,s.lost||zBc F.L f⟩) (hg:w.grownBy wx (Z rb)) =>
  (show zBq w rb F s S e wx by unfold zBq;rw [hn];exact ⟨⟨he,hx⟩,hg⟩))
 clear h b1;go_enter Tryz.func162,Tryz.ntmps162;go_wp2_with fail
 generalize w.alloc (.cells #[D J 0,D J 0,G E,D J 0] 29)=X1 at k1 h1 g1 ⊢;refine (f8.out X1 h1).mono ?_;intro e X2 hc
 have key:∀(sx:RS) (wx:ZY),RX wx rb F sx->X1.grownBy wx (Z rb)->∃(v:Unit),(wx.cell? ⟨w.heap.size,0,U⟩=Z (D J 0)/\wx.frozen? ⟨w.heap.size,0,U⟩=E/\wx.cell? ⟨w.heap.size,1,U⟩=Z (D J 0)/\wx.frozen? ⟨w.heap.size,1,U⟩=E/\wx.cell? ⟨w.heap.size,2,U⟩=Z (G E)/\wx.frozen? ⟨w.heap.size,2,U⟩=E/\wx.cell? ⟨w.heap.size,3,U⟩=Z (D J 0)/\wx.frozen? ⟨w.heap.size,3,U⟩=E) /\
   Hid (∀(u0 u1 u2 u3:Value),Blk ((((wx.setCell ⟨w.heap.size,0,U⟩ u0).setCell ⟨w.heap.size,1,U⟩ u1).setCell ⟨w.heap.size,2,U⟩ u2).setCell ⟨w.heap.size,3,U⟩ u3) w.heap.size 29 #[u0,u1,u2,u3] /\
    RX ((((wx.setCell ⟨w.heap.size,0,U⟩ u0).setCell ⟨w.heap.size,1,U⟩ u1).setCell ⟨w.heap.size,2,U⟩ u2).setCell ⟨w.heap.size,3,U⟩ u3) rb F sx /\
    w.grownBy ((((wx.setCell ⟨w.heap.size,0,U⟩ u0).setCell ⟨w.heap.size,1,U⟩ u1).setCell ⟨w.heap.size,2,U⟩ u2).setCell ⟨w.heap.size,3,U⟩ u3) (Z rb)):=fun sx wx hx hg=>by
  have kx:=k1.grownO hg hlt;refine ⟨(),⟨(kx.cell 0).trans rfl,kx.frozen 0,(kx.cell 1).trans rfl,kx.frozen 1,(kx.cell 2).trans rfl,kx.frozen 2,(kx.cell 3).trans rfl,kx.frozen 3⟩,qH fun u0 u1 u2 u3=>⟨kx.store4 u0 u1 u2 u3,hx.over (zCi (M (rb+1) wx) (show rb+1<=w.heap.size from hlt) u0 u1 u2 u3),zAd (zAb g1 hg) (zCi (M w.heap.size wx) (O w.heap.size) u0 u1 u2 u3)⟩⟩
 have vG:=qH key;clear key k1 h1 g1 f8
 cases hcf:zFL S with
 | none =>
  obtain ⟨rfl,hx,hg⟩:=zGR hc hcf;have HN:=qH (show zAX S=U by unfold zAX;rw [hcf]);obtain ⟨_,⟨c0,z0,c1,z1,c2,z2,c3,z3⟩,HK⟩:=vG.out s X2 hx hg;clear hc hcf hx hg vG pD;go_wp2_with fail
  exact zDf rfl rfl rfl rfl (HK.out _ _ _ _).1 Tryz.underlying29 rfl (by kernel_rfl) rfl (pE.out HN.out _ _ rfl ⟨_,(HK.out _ _ _ _).2.1⟩ (HK.out _ _ _ _).2.2)
 | some p =>
  obtain ⟨f,r⟩:=p;obtain ⟨rfl,hx,hg⟩:=zGQ hc hcf;obtain ⟨_,⟨c0,z0,c1,z1,c2,z2,c3,z3⟩,HK⟩:=vG.out _ X2 hx hg;obtain ⟨ix,hix⟩:∃x,zAN F.L f=x:=⟨_,rfl⟩
  rw [hix];have qZ:=qH hix;have n0:=zAp r [];clear hc hx hg vG hix
  cases r with
  | nil =>
   rw [show (([]:List UInt8)==[])=Q from rfl] at n0;have HN:=qH (show zAX S=U by unfold zAX;rw [hcf]);clear hcf pD;go_wp2_with fail
   exact zDf rfl rfl rfl rfl (HK.out _ _ _ _).1 Tryz.underlying29 rfl (by kernel_rfl) rfl (pE.out HN.out _ _ rfl ⟨_,(HK.out _ _ _ _).2.1⟩ (HK.out _ _ _ _).2.2)
  | cons x r =>
   rw [show (x :: r==([]:List UInt8))=E from rfl] at n0;have t1:=zCX x r;have t2:=zGK x r;by_cases h1:x=110
   ·have HS:=qH (show zAX S=Z (f,E,r) by unfold zAX;rw [hcf];simp only;rw [qP h1]);subst h1;rw [show (((110:UInt8).toNat:Nat):Int)=110 from rfl] at t1;clear hcf pE;go_wp2_with fail
    go_region
    go_wp2_with fail
    exact zDf rfl rfl rfl rfl (HK.out _ _ _ _).1.drew Tryz.underlying29 rfl (by kernel_rfl) rfl (pD.out f E r HS.out _ _ (by first | (rw [qZ.out];done) | (rw [qZ.out];rfl)) ((HK.out _ _ _ _).2.1.below (M _ _).drew) (zBL (HK.out _ _ _ _).2.2))
   ·by_cases h2:x=102
    ·have HS:=qH (show zAX S=Z (f,Q,r) by unfold zAX;rw [hcf];simp only;rw [qN h1,qP h2]);subst h2;rw [show (((102:UInt8).toNat:Nat):Int)=102 from rfl] at t1;clear hcf pE h1;go_wp2_with fail
     go_region
     go_wp2_with fail
     exact zDf rfl rfl rfl rfl (HK.out _ _ _ _).1.drew Tryz.underlying29 rfl (by kernel_rfl) rfl (pD.out f Q r HS.out _ _ (by first | (rw [qZ.out];done) | (rw [qZ.out];rfl)) ((HK.out _ _ _ _).2.1.below (M _ _).drew) (zBL (HK.out _ _ _ _).2.2))
    ·have k1:((x.toNat:Int) != 110)=Q:=by
      simp only [bne_iff_ne,ne_eq];intro e;exact h1 (UInt8.toNat.inj (show x.toNat=110 by omega))
     have k2:((x.toNat:Int) != 102)=Q:=by
      simp only [bne_iff_ne,ne_eq];intro e;exact h2 (UInt8.toNat.inj (show x.toNat=102 by omega))
     have HN:=qH (show zAX S=U by unfold zAX;rw [hcf];simp only;rw [qN h1,qN h2]);clear hcf pD h1 h2;go_wp2_with fail
     exact zDf rfl rfl rfl rfl (HK.out _ _ _ _).1 Tryz.underlying29 rfl (by kernel_rfl) rfl (pE.out HN.out _ _ rfl ⟨_,(HK.out _ _ _ _).2.1⟩ (HK.out _ _ _ _).2.2)
def zop:Og:=⟨0,0,s0,[],E⟩
def zCj (w0:ZY) (rb:Nat) (F:Fm) (s:RS) (S:List UInt8) (e:Ending) (w':ZY):Prop :=
 (∃n,zAD S=Z n/\∃B m d,e=.returned (opV (oOf F.L n) B m d)/\Row w' w0.heap.size 5 B m d ((oOf F.L n).path.flatMap zCl)/\m=(oOf F.L n).path.length/\RX w' rb F ⟨s.T,s.bad,s.lost||zAy F.L n⟩/\w0.grownBy w' (Z rb))
 ∨ (zAD S=U/\e=.returned (opV zop U 0 0)/\(∃l,RX w' rb F ⟨s.T,Q,l⟩)/\w0.grownBy w' (Z rb))
abbrev opT:TypeId:=32
abbrev zC:Array Value:=#[D J 0,D J 0,D J 0,D J 0,G E,D J 0,H U 0 0,G E]
def zQe (f:Fg) (P:Option (List (Nst×Bool)×Nst)):Option Nop:=match P with | some (ZP,x)=>Z ⟨3,f,Z x,ZP,E⟩ | none=>U
def zDV (n:Nop) (P:Option (Bool×List UInt8)):Option Nop:=match P with | some (b,[])=>Z ⟨n.kind,n.f,n.fr,n.path,b⟩ | _=>U
def zSj (n:Nop) (r:List UInt8):Option Nop:=if r=[] then Z n else U
def Sc0 (w:ZY) (rb a0:Nat) (F:Fm) (s:RS) (S:List UInt8) (X:ZY):Prop :=
 (∃lo,RX X rb F ⟨s.T,s.bad,lo⟩)/\Blk X a0 opT zC/\w.grownBy X (Z rb)/\zAD S=U
def Sc1 (w:ZY) (rb a0 a1:Nat) (F:Fm) (s:RS) (S:List UInt8) (X:ZY) (r:List UInt8) (n:Nop) (k f ff:Int) (far:Bool):Prop :=
 RX X rb F ⟨s.T,s.bad,s.lost||zAy F.L n⟩/\Blk X a0 opT zC/\Blk X a1 opT #[D J k,D J f,D J ff,D J 0,G far,D J 0,H U 0 0,G E]/\w.grownBy X (Z rb) /\
  zAD S=zDV n (zCN r)/\n.path=[]/\∀b,oOf F.L ⟨n.kind,n.f,n.fr,n.path,b⟩=⟨k,f,⟨ff,0,far,0⟩,[],b⟩
def Sc2 (w:ZY) (rb a0 a1 a2:Nat) (F:Fm) (s:RS) (S:List UInt8) (X:ZY) (r:List UInt8) (f:Fg) (fi:Int) (P:List (Nst×Bool)) (Ps:List Sp) (B:Option Addr) (m d N:Nat) (x0 x1 x3:Int) (x2:Bool):Prop :=
 RX X rb F ⟨s.T,s.bad,s.lost||zBc F.L f||zAV F.L P⟩/\Blk X a0 opT zC/\Blk X a1 opT #[D J 3,D J fi,D J 0,D J 0,G E,D J 0,H B m d,G E] /\
  Blk X a2 29 #[D J x0,D J x1,G x2,D J x3]/\w.grownBy X (Z rb)/\Row X (a2+1) 5 B m d (Ps.flatMap zCl)/\m=Ps.length/\Ps=P.map (pOf F.L)/\fi=(zAN F.L f:Int) /\
  m+r.length<=S.length/\r.length < N/\zAD S=zQe f (zFV N P r)
def Sc3 (w:ZY) (rb a0 a1:Nat) (F:Fm) (s:RS) (S:List UInt8) (X:ZY) (r:List UInt8) (n:Nop) (k f ff:Int) (far over:Bool) (path:List Sp) (B:Option Addr) (m d:Nat):Prop :=
 RX X rb F ⟨s.T,s.bad,s.lost||zAy F.L n⟩/\Blk X a0 opT zC/\Blk X a1 opT #[D J k,D J f,D J ff,D J 0,G far,D J 0,H B m d,G over]/\w.grownBy X (Z rb) /\
  Row X (a1+1) 5 B m d (path.flatMap zCl)/\m=path.length/\oOf F.L n=⟨k,f,⟨ff,0,far,0⟩,path,over⟩/\zAD S=zSj n r
def zCG (w:ZY) (rb a0 a1 a2:Nat) (F:Fm) (s:RS) (S:List UInt8) (l q:Nat) (X:ZY) (r:List UInt8):Prop :=
 (l=0/\q=1/\Sc0 w rb a0 F s S X)
 ∨ (l=1/\q=3/\∃n k f ff far,Sc1 w rb a0 a1 F s S X r n k f ff far)
 ∨ (l=2/\q=10+r.length/\∃f fi P Ps B m d N x0 x1 x3 x2,Sc2 w rb a0 a1 a2 F s S X r f fi P Ps B m d N x0 x1 x3 x2)
 ∨ (l=3/\q=2/\∃n k f ff far over path B m d,Sc3 w rb a0 a1 F s S X r n k f ff far over path B m d)
abbrev zKL (rb a0 a1 a2:Nat) (a:Act) (r:List UInt8):Prop :=
 a.tmps.size=136/\a.tmps.getD 0 undef=.pointer (Z ⟨rb,0,U⟩)/\a.tmps.getD 1 undef=W (bA r)/\a.tmps.getD 4 undef=.pointer (Z ⟨a0,0,U⟩)/\a.tmps.getD 5 undef=.pointer (Z ⟨a1,0,U⟩)/\a.tmps.getD 7 undef=.pointer (Z ⟨a2,0,U⟩)/\a.defers=[]
theorem zFt (S:List UInt8):zGF S=match zCN S with | some (b,r)=>(b,r,Q) | none=>(E,S,E):=by
 cases S with
 | nil=>rfl
 | cons x r =>
  by_cases h1:x=111
  ·simp [zGF,zCN,h1]
  ·by_cases h2:x=117
   ·simp [zGF,zCN,h2]
   ·simp [zGF,zCN,h1,h2]
theorem zSk (b:UInt8):Lib.indexByte [32,45,94,60,126,61,42,37,33] b=if b=32 then 0 else if zAK b=0 then -1 else zAK b:=by
 by_cases h0:b=32
 ·subst h0;decide
 rw [qN h0];by_cases h:zAK b=0
 ·rw [qP h];refine zPd fun hm=>?_
  simp only [List.mem_cons,List.not_mem_nil,or_false] at hm;rcases hm with rfl | rfl | rfl | rfl | rfl | rfl | rfl | rfl | rfl
  ·exact h0 rfl
  all_goals exact absurd h (by decide)
 ·rw [qN h];have hb:=(zDP h).2.2;obtain ⟨h1,h8,_⟩:=zDP h;have hk:zAK b=1∨zAK b=2∨zAK b=3∨zAK b=4∨zAK b=5∨zAK b=6∨zAK b=7∨zAK b=8:=by omega
  rcases hk with e | e | e | e | e | e | e | e<;>rw [e] at hb ⊢<;>(have hbb:_=b:=List.head_eq_of_cons_eq hb;rw [<-hbb];decide)
theorem zJD (b:UInt8) (w:ZY):Calls ZX 161 #[W ⟨#[32,45,94,60,126,61,42,37,33]⟩,D .u8 b.toNat] w fun e w'=>e=.returned (D J (if b=32 then 0 else if zAK b=0 then -1 else zAK b))/\w'=w:=by
 refine (Tryz.strings_IndexByte ⟨#[32,45,94,60,126,61,42,37,33]⟩ b.toNat w).mono ?_;rintro e w' ⟨rfl,rfl⟩;refine ⟨?_,rfl⟩;rw [<-zSk]
 congr 3
 simp
theorem zLZ (S:List UInt8):zAD S=match zFL S with
 | some (f,b :: r)=>if zAK b=0 then U
  else if zAK b=4 then zDV ⟨4,f,U,[],E⟩ (zCN r)
  else if zAK b=3 then zQe f (zFV (r.length+1) [] r)
  else if zAK b=5 then (match zAX r with | some (g,far,r2)=>zDV ⟨5,f,Z ⟨g,0,far,0⟩,[],E⟩ (zCN r2) | none=>U)
  else if zAK b=6∨zAK b=7 then (match zFL r with | some (g,r2)=>zDV ⟨zAK b,f,Z ⟨g,0,E,0⟩,[],E⟩ (zCN r2) | none=>U)
  else zSj ⟨zAK b,f,U,[],E⟩ r
 | _=>U:=by
 unfold zAD
 cases zFL S with
 | none=>rfl
 | some p =>
  obtain ⟨f,q⟩:=p
  cases q with
  | nil=>rfl
  | cons b r =>
   simp only;by_cases e0:zAK b=0
   ·rw [qN (by omega),qN (by omega),qN (by omega),qN (by omega),qP e0,qP e0]
   rw [qN e0,qN e0];by_cases e4:zAK b=4
   ·rw [qP e4,qP e4];unfold zRY zDV;split<;>simp_all
   rw [qN e4,qN e4];by_cases e3:zAK b=3
   ·rw [qP e3,qP e3];rfl
   rw [qN e3,qN e3];by_cases e5:zAK b=5
   ·rw [qP e5,qP e5];unfold zRZ zDV;split
    ·rename_i g far r2 h;rw [h];split<;>simp_all
    ·rename_i h;rw [h]
   rw [qN e5,qN e5];by_cases e6:zAK b=6∨zAK b=7
   ·rw [qP e6,qP e6];unfold zSa zDV;split
    ·rename_i g r2 h;rw [h];split<;>simp_all
    ·rename_i h;rw [h]
   rw [qN e6,qN e6];rfl
def zGb:Code->Code
 | .scope c=>c
 | .seq _ y=>zGb y
 | c=>c
noncomputable def zKM:Code:=zGb (Tryz.f120.body.getD .skip)
abbrev zAT (w:ZY) (rb a1 a2:Nat) (F:Fm) (s:RS) (S:List UInt8) (l q:Nat) (a:Act) (wv:ZY):Prop :=
 ∃(X:ZY) (r:List UInt8),X=wv/\zKL rb w.heap.size a1 a2 a r/\Hid (zCG w rb w.heap.size a1 a2 F s S l q X r)
abbrev zSl (w:ZY) (rb:Nat) (F:Fm) (s:RS) (S:List UInt8):Exit->Act->ZY->Prop:=bodyPost ZX Tryz.f120 (zCj w rb F s S)
theorem zNY (rb:Nat) (F:Fm) (s:RS) (S:List UInt8) (w:ZY) (hlt0:rb < w.heap.size) (a1 a2:Nat) (cY:a1=w.heap.size+1) (iK:a2=w.heap.size+2) (r:List UInt8) (q:Nat) (hq:q=1) (a:Act) (X:ZY) (hF:zKL rb w.heap.size a1 a2 a r)  (hJ:Sc0 w rb w.heap.size F s S X) :
  ∃rest,findLabel zKM 0=Z rest/\rest.wp ZX (zDR (fun l' a' w'=>∃n',n' < q/\zAT w rb a1 a2 F s S l' n' a' w') (zSl w rb F s S)) a X:=by
 have hlt:=hlt0
 have FS:=qH (fun (n:Nop) (o:Og) (hn:zAD S=Z n) (ho:oOf F.L n=o) (wx:ZY) (B:Option Addr) (m d:Nat) (hr:Row wx w.heap.size 5 B m d (o.path.flatMap zCl)) (hm:m=o.path.length) (hx:RX wx rb F ⟨s.T,s.bad,s.lost||zAy F.L n⟩) (hg:w.grownBy wx (Z rb)) =>
  (show zCj w rb F s S (.returned (opV o B m d)) wx from .inl ⟨n,hn,B,m,d,by rw [ho],by rw [ho];exact hr,by rw [ho];exact hm,hx,hg⟩))
 have FN:=qH (fun (hn:zAD S=U) (wx:ZY) (hx:∃l,RX wx rb F ⟨s.T,Q,l⟩) (hg:w.grownBy wx (Z rb))=>(show zCj w rb F s S (.returned (opV zop U 0 0)) wx from .inr ⟨hn,rfl,hx,hg⟩));have bop:=zKJ;have ig:=qH cY;have xc:=qH iK;have cG:rb < w.heap.size:=hlt;have bi:rb < a1:=by omega
 have dB:rb < a2:=by omega
 have lh:w.heap.size<=w.heap.size:=O _;have bM:w.heap.size<=a1:=by omega
 have ic:w.heap.size<=a2:=by omega
 have iA:w.heap.size < a1:=by omega
 have oJ:w.heap.size < a2:=by omega
 have kH:a1 < a2:=by omega
 have HQ:=qH hq;clear cY iK hq hlt hlt0;obtain ⟨tm,df⟩:=a;obtain ⟨hs,t0,t1,t4,t5,t7,hd⟩:=hF;simp only at hs t0 t1 t4 t5 t7 hd;subst hd;obtain ⟨v,hv⟩:∃v:Nat->Value,tm=#[.pointer (Z ⟨rb,0,U⟩),W (bA r),v 2,v 3,.pointer (Z ⟨w.heap.size,0,U⟩),.pointer (Z ⟨a1,0,U⟩),v 6,.pointer (Z ⟨a2,0,U⟩),v 8,v 9,v 10,v 11,v 12,v 13,v 14,v 15,v 16,v 17,v 18,v 19,v 20,v 21,v 22,v 23,v 24,v 25,v 26,v 27,v 28,v 29,v 30,v 31,v 32,v 33,v 34,v 35,v 36,v 37,v 38,v 39,v 40,v 41,v 42,v 43,v 44,v 45,v 46,v 47,v 48,v 49,v 50,v 51,v 52,v 53,v 54,v 55,v 56,v 57,v 58,v 59,v 60,v 61,v 62,v 63,v 64,v 65,v 66,v 67,v 68,v 69,v 70,v 71,v 72,v 73,v 74,v 75,v 76,v 77,v 78,v 79,v 80,v 81,v 82,v 83,v 84,v 85,v 86,v 87,v 88,v 89,v 90,v 91,v 92,v 93,v 94,v 95,v 96,v 97,v 98,v 99,v 100,v 101,v 102,v 103,v 104,v 105,v 106,v 107,v 108,v 109,v 110,v 111,v 112,v 113,v 114,v 115,v 116,v 117,v 118,v 119,v 120,v 121,v 122,v 123,v 124,v 125,v 126,v 127,v 128,v 129,v 130,v 131,v 132,v 133,v 134,v 135]:=⟨fun i=>tm.getD i undef,by rw [<-t0,<-t1,<-t4,<-t5,<-t7];exact zFs 136 tm hs⟩
 subst hv;clear hs t0 t1 t4 t5 t7;simp only [zKM,Tryz.f120,Option.getD,zGb,findLabel];refine ⟨_,rfl,?_⟩;obtain ⟨⟨lo,h1⟩,kr,g1,hn⟩:=hJ;have HN:=qH hn;clear hn;have c4:X.cell? ⟨rb,4,U⟩=Z (G s.bad):=h1.bad4.1;have z4:=h1.bad4.2;have hm:=h1.marked Q Q (by simp);have gB:∃l,RX (X.setCell ⟨rb,4,U⟩ (G Q)) rb F ⟨s.T,Q,l⟩:=⟨_,by have:=hm.1;unfold RS.mark at this;simpa using this⟩
 have k9:=kr.grownO hm.2 cG;have g9:=zAb g1 hm.2;clear hm h1 g1 kr;go_upto_region 39 with fail
 clear c4 z4;generalize X.setCell ⟨rb,4,U⟩ (G Q)=X9 at gB k9 g9 ⊢;have y0:X9.cell? ⟨w.heap.size,0,U⟩=Z (D J 0):=(k9.cell 0).trans rfl;have ki:=k9.frozen 0;have y1:X9.cell? ⟨w.heap.size,1,U⟩=Z (D J 0):=(k9.cell 1).trans rfl;have kh:=k9.frozen 1;have y2:X9.cell? ⟨w.heap.size,2,U⟩=Z (D J 0):=(k9.cell 2).trans rfl;have lT:=k9.frozen 2;have y3:X9.cell? ⟨w.heap.size,3,U⟩=Z (D J 0):=(k9.cell 3).trans rfl;have lS:=k9.frozen 3;have y4:X9.cell? ⟨w.heap.size,4,U⟩=Z (G E):=(k9.cell 4).trans rfl;have lQ:=k9.frozen 4;have y5:X9.cell? ⟨w.heap.size,5,U⟩=Z (D J 0):=(k9.cell 5).trans rfl;have lO:=k9.frozen 5;have y6:X9.cell? ⟨w.heap.size,6,U⟩=Z (H U 0 0):=(k9.cell 6).trans rfl;have lM:=k9.frozen 6;have y7:X9.cell? ⟨w.heap.size,7,U⟩=Z (G E):=(k9.cell 7).trans rfl;have lK:=k9.frozen 7;have SZ:=qH (k9.store8 (D J 0) (D J 0) (D J 0) (D J 0) (G E) (D J 0) (H U 0 0) (G E));have BR:=qH (zAc (M (rb+1) X9) (show rb+1<=w.heap.size from cG) (D J 0) (D J 0) (D J 0) (D J 0) (G E) (D J 0) (H U 0 0) (G E));have BW:=qH (zAc (M w.heap.size X9) lh (D J 0) (D J 0) (D J 0) (D J 0) (G E) (D J 0) (H U 0 0) (G E));have HF:=qH (FN.out HN.out _ (by obtain ⟨l,hl⟩:=gB;exact ⟨l,hl.over BR.out⟩) (zAd g9 BW.out));clear gB k9 g9 BR BW;go_wp2_with fail
 rw [zDd];exact zAi rfl rfl SZ.out Tryz.underlying32 rfl (by kernel_rfl) rfl HF.out
theorem zNZ (rb:Nat) (F:Fm) (s:RS) (S:List UInt8) (w:ZY) (hlt0:rb < w.heap.size) (a1 a2:Nat) (cY:a1=w.heap.size+1) (iK:a2=w.heap.size+2) (r:List UInt8) (q:Nat) (hq:q=2) (a:Act) (X:ZY) (hF:zKL rb w.heap.size a1 a2 a r) (n:Nop) (k f ff:Int) (far over:Bool) (path:List Sp) (B:Option Addr) (m d:Nat) (hJ:Sc3 w rb w.heap.size a1 F s S X r n k f ff far over path B m d) :
  ∃rest,findLabel zKM 3=Z rest/\rest.wp ZX (zDR (fun l' a' w'=>∃n',n' < q/\zAT w rb a1 a2 F s S l' n' a' w') (zSl w rb F s S)) a X:=by
 have hlt:=hlt0
 have FS:=qH (fun (n:Nop) (o:Og) (hn:zAD S=Z n) (ho:oOf F.L n=o) (wx:ZY) (B:Option Addr) (m d:Nat) (hr:Row wx w.heap.size 5 B m d (o.path.flatMap zCl)) (hm:m=o.path.length) (hx:RX wx rb F ⟨s.T,s.bad,s.lost||zAy F.L n⟩) (hg:w.grownBy wx (Z rb)) =>
  (show zCj w rb F s S (.returned (opV o B m d)) wx from .inl ⟨n,hn,B,m,d,by rw [ho],by rw [ho];exact hr,by rw [ho];exact hm,hx,hg⟩))
 have FN:=qH (fun (hn:zAD S=U) (wx:ZY) (hx:∃l,RX wx rb F ⟨s.T,Q,l⟩) (hg:w.grownBy wx (Z rb))=>(show zCj w rb F s S (.returned (opV zop U 0 0)) wx from .inr ⟨hn,rfl,hx,hg⟩));have bop:=zKJ;have ig:=qH cY;have xc:=qH iK;have cG:rb < w.heap.size:=hlt;have bi:rb < a1:=by omega
 have dB:rb < a2:=by omega
 have lh:w.heap.size<=w.heap.size:=O _;have bM:w.heap.size<=a1:=by omega
 have ic:w.heap.size<=a2:=by omega
 have iA:w.heap.size < a1:=by omega
 have oJ:w.heap.size < a2:=by omega
 have kH:a1 < a2:=by omega
 have HQ:=qH hq;clear cY iK hq hlt hlt0;obtain ⟨tm,df⟩:=a;obtain ⟨hs,t0,t1,t4,t5,t7,hd⟩:=hF;simp only at hs t0 t1 t4 t5 t7 hd;subst hd;obtain ⟨v,hv⟩:∃v:Nat->Value,tm=#[.pointer (Z ⟨rb,0,U⟩),W (bA r),v 2,v 3,.pointer (Z ⟨w.heap.size,0,U⟩),.pointer (Z ⟨a1,0,U⟩),v 6,.pointer (Z ⟨a2,0,U⟩),v 8,v 9,v 10,v 11,v 12,v 13,v 14,v 15,v 16,v 17,v 18,v 19,v 20,v 21,v 22,v 23,v 24,v 25,v 26,v 27,v 28,v 29,v 30,v 31,v 32,v 33,v 34,v 35,v 36,v 37,v 38,v 39,v 40,v 41,v 42,v 43,v 44,v 45,v 46,v 47,v 48,v 49,v 50,v 51,v 52,v 53,v 54,v 55,v 56,v 57,v 58,v 59,v 60,v 61,v 62,v 63,v 64,v 65,v 66,v 67,v 68,v 69,v 70,v 71,v 72,v 73,v 74,v 75,v 76,v 77,v 78,v 79,v 80,v 81,v 82,v 83,v 84,v 85,v 86,v 87,v 88,v 89,v 90,v 91,v 92,v 93,v 94,v 95,v 96,v 97,v 98,v 99,v 100,v 101,v 102,v 103,v 104,v 105,v 106,v 107,v 108,v 109,v 110,v 111,v 112,v 113,v 114,v 115,v 116,v 117,v 118,v 119,v 120,v 121,v 122,v 123,v 124,v 125,v 126,v 127,v 128,v 129,v 130,v 131,v 132,v 133,v 134,v 135]:=⟨fun i=>tm.getD i undef,by rw [<-t0,<-t1,<-t4,<-t5,<-t7];exact zFs 136 tm hs⟩
 subst hv;clear hs t0 t1 t4 t5 t7;simp only [zKM,Tryz.f120,Option.getD,zGb,findLabel];refine ⟨_,rfl,?_⟩;obtain ⟨h1,kr,ko,g1,hrow,hm,ho,hn⟩:=hJ;have HO:=qH ho;have HM:=qH hm;have n0:=zAp r [];clear ho hm
 cases r with
 | nil =>
  rw [show (([]:List UInt8)==[])=Q from rfl] at n0;have HN:=qH (show zAD S=Z n by rw [hn];rfl);have DD:=qH hrow;clear hn hrow;obtain ⟨f0,f1,f2,f3,f4,f5,f6,f7⟩:=cQ8 ko;have y0:X.cell? ⟨w.heap.size,0,U⟩=Z (D J 0):=(kr.cell 0).trans rfl;have ki:=kr.frozen 0;have y1:X.cell? ⟨w.heap.size,1,U⟩=Z (D J 0):=(kr.cell 1).trans rfl;have kh:=kr.frozen 1;have y2:X.cell? ⟨w.heap.size,2,U⟩=Z (D J 0):=(kr.cell 2).trans rfl;have lT:=kr.frozen 2;have y3:X.cell? ⟨w.heap.size,3,U⟩=Z (D J 0):=(kr.cell 3).trans rfl;have lS:=kr.frozen 3;have y4:X.cell? ⟨w.heap.size,4,U⟩=Z (G E):=(kr.cell 4).trans rfl;have lQ:=kr.frozen 4;have y5:X.cell? ⟨w.heap.size,5,U⟩=Z (D J 0):=(kr.cell 5).trans rfl;have lO:=kr.frozen 5;have y6:X.cell? ⟨w.heap.size,6,U⟩=Z (H U 0 0):=(kr.cell 6).trans rfl;have lM:=kr.frozen 6;have y7:X.cell? ⟨w.heap.size,7,U⟩=Z (G E):=(kr.cell 7).trans rfl;have lK:=kr.frozen 7;have SZ:=qH (kr.store8 (D J k) (D J f) (D J ff) (D J 0) (G far) (D J 0) (H B m d) (G over));have BR:=qH (zAc (M (rb+1) X) (show rb+1<=w.heap.size from cG) (D J k) (D J f) (D J ff) (D J 0) (G far) (D J 0) (H B m d) (G over));have BW:=qH (zAc (M w.heap.size X) lh (D J k) (D J f) (D J ff) (D J 0) (G far) (D J 0) (H B m d) (G over));have HF:=qH (FS.out n ⟨k,f,⟨ff,0,far,0⟩,path,over⟩ HN.out HO.out _ B m d ((DD.out.store8 (show w.heap.size < a1+1 by omega) (D J k) (D J f) (D J ff) (D J 0) (G far) (D J 0) (H B m d) (G over)).mono (by omega)) HM.out (h1.over BR.out) (zAd g1 BW.out));clear BR BW h1 g1 kr ko;go_wp2_with fail
  rw [zDd];exact zAi rfl rfl SZ.out Tryz.underlying32 rfl (by kernel_rfl) rfl HF.out
 | cons x r =>
  rw [show (x :: r==([]:List UInt8))=E from rfl] at n0;have HN:=qH (show zAD S=U by rw [hn];rfl);clear hn hrow;go_wp2_with fail
  go_step3
  have c4:X.cell? ⟨rb,4,U⟩=Z (G s.bad):=h1.bad4.1;have z4:=h1.bad4.2;have hm:=h1.marked Q Q (by simp);have gB:∃l,RX (X.setCell ⟨rb,4,U⟩ (G Q)) rb F ⟨s.T,Q,l⟩:=⟨_,by have:=hm.1;unfold RS.mark at this;simpa using this⟩
  have k9:=kr.grownO hm.2 cG;have g9:=zAb g1 hm.2;clear hm h1 g1 kr ko;go_upto_region 39 with fail
  clear c4 z4;generalize X.setCell ⟨rb,4,U⟩ (G Q)=X9 at gB k9 g9 ⊢;have y0:X9.cell? ⟨w.heap.size,0,U⟩=Z (D J 0):=(k9.cell 0).trans rfl;have ki:=k9.frozen 0;have y1:X9.cell? ⟨w.heap.size,1,U⟩=Z (D J 0):=(k9.cell 1).trans rfl;have kh:=k9.frozen 1;have y2:X9.cell? ⟨w.heap.size,2,U⟩=Z (D J 0):=(k9.cell 2).trans rfl;have lT:=k9.frozen 2;have y3:X9.cell? ⟨w.heap.size,3,U⟩=Z (D J 0):=(k9.cell 3).trans rfl;have lS:=k9.frozen 3;have y4:X9.cell? ⟨w.heap.size,4,U⟩=Z (G E):=(k9.cell 4).trans rfl;have lQ:=k9.frozen 4;have y5:X9.cell? ⟨w.heap.size,5,U⟩=Z (D J 0):=(k9.cell 5).trans rfl;have lO:=k9.frozen 5;have y6:X9.cell? ⟨w.heap.size,6,U⟩=Z (H U 0 0):=(k9.cell 6).trans rfl;have lM:=k9.frozen 6;have y7:X9.cell? ⟨w.heap.size,7,U⟩=Z (G E):=(k9.cell 7).trans rfl;have lK:=k9.frozen 7;have SZ:=qH (k9.store8 (D J 0) (D J 0) (D J 0) (D J 0) (G E) (D J 0) (H U 0 0) (G E));have BR:=qH (zAc (M (rb+1) X9) (show rb+1<=w.heap.size from cG) (D J 0) (D J 0) (D J 0) (D J 0) (G E) (D J 0) (H U 0 0) (G E));have BW:=qH (zAc (M w.heap.size X9) lh (D J 0) (D J 0) (D J 0) (D J 0) (G E) (D J 0) (H U 0 0) (G E));have HF:=qH (FN.out HN.out _ (by obtain ⟨l,hl⟩:=gB;exact ⟨l,hl.over BR.out⟩) (zAd g9 BW.out));clear gB k9 g9 BR BW;go_wp2_with fail
  rw [zDd];exact zAi rfl rfl SZ.out Tryz.underlying32 rfl (by kernel_rfl) rfl HF.out
theorem zOa (rb:Nat) (F:Fm) (s:RS) (S:List UInt8) (w:ZY) (hlt0:rb < w.heap.size) (a1 a2:Nat) (cY:a1=w.heap.size+1) (iK:a2=w.heap.size+2) (r:List UInt8) (q:Nat) (hq:q=3) (a:Act) (X:ZY) (hF:zKL rb w.heap.size a1 a2 a r) (n:Nop) (k f ff:Int) (far:Bool) (hJ:Sc1 w rb w.heap.size a1 F s S X r n k f ff far) :
  ∃rest,findLabel zKM 1=Z rest/\rest.wp ZX (zDR (fun l' a' w'=>∃n',n' < q/\zAT w rb a1 a2 F s S l' n' a' w') (zSl w rb F s S)) a X:=by
 have hlt:=hlt0
 have FS:=qH (fun (n:Nop) (o:Og) (hn:zAD S=Z n) (ho:oOf F.L n=o) (wx:ZY) (B:Option Addr) (m d:Nat) (hr:Row wx w.heap.size 5 B m d (o.path.flatMap zCl)) (hm:m=o.path.length) (hx:RX wx rb F ⟨s.T,s.bad,s.lost||zAy F.L n⟩) (hg:w.grownBy wx (Z rb)) =>
  (show zCj w rb F s S (.returned (opV o B m d)) wx from .inl ⟨n,hn,B,m,d,by rw [ho],by rw [ho];exact hr,by rw [ho];exact hm,hx,hg⟩))
 have FN:=qH (fun (hn:zAD S=U) (wx:ZY) (hx:∃l,RX wx rb F ⟨s.T,Q,l⟩) (hg:w.grownBy wx (Z rb))=>(show zCj w rb F s S (.returned (opV zop U 0 0)) wx from .inr ⟨hn,rfl,hx,hg⟩));have cG:rb < w.heap.size:=hlt;have bi:rb < a1:=by omega
 have lh:w.heap.size<=w.heap.size:=O _;have bM:w.heap.size<=a1:=by omega
 have iA:w.heap.size < a1:=by omega
 have HQ:=qH hq;clear cY iK hq hlt hlt0;obtain ⟨tm,df⟩:=a;obtain ⟨hs,t0,t1,t4,t5,t7,hd⟩:=hF;simp only at hs t0 t1 t4 t5 t7 hd;subst hd;obtain ⟨v,hv⟩:∃v:Nat->Value,tm=#[.pointer (Z ⟨rb,0,U⟩),W (bA r),v 2,v 3,.pointer (Z ⟨w.heap.size,0,U⟩),.pointer (Z ⟨a1,0,U⟩),v 6,.pointer (Z ⟨a2,0,U⟩),v 8,v 9,v 10,v 11,v 12,v 13,v 14,v 15,v 16,v 17,v 18,v 19,v 20,v 21,v 22,v 23,v 24,v 25,v 26,v 27,v 28,v 29,v 30,v 31,v 32,v 33,v 34,v 35,v 36,v 37,v 38,v 39,v 40,v 41,v 42,v 43,v 44,v 45,v 46,v 47,v 48,v 49,v 50,v 51,v 52,v 53,v 54,v 55,v 56,v 57,v 58,v 59,v 60,v 61,v 62,v 63,v 64,v 65,v 66,v 67,v 68,v 69,v 70,v 71,v 72,v 73,v 74,v 75,v 76,v 77,v 78,v 79,v 80,v 81,v 82,v 83,v 84,v 85,v 86,v 87,v 88,v 89,v 90,v 91,v 92,v 93,v 94,v 95,v 96,v 97,v 98,v 99,v 100,v 101,v 102,v 103,v 104,v 105,v 106,v 107,v 108,v 109,v 110,v 111,v 112,v 113,v 114,v 115,v 116,v 117,v 118,v 119,v 120,v 121,v 122,v 123,v 124,v 125,v 126,v 127,v 128,v 129,v 130,v 131,v 132,v 133,v 134,v 135]:=⟨fun i=>tm.getD i undef,by rw [<-t0,<-t1,<-t4,<-t5,<-t7];exact zFs 136 tm hs⟩
 subst hv;clear hs t0 t1 t4 t5 t7;simp only [zKM,Tryz.f120,Option.getD,zGb,findLabel];refine ⟨_,rfl,?_⟩;obtain ⟨h1,kr,ko,g1,hn,hp,ho⟩:=hJ;have HO:=qH ho;have eT:=qH (fun wx=>zEj r wx);rw [zFt] at eT;clear ho hp
 cases hfl:zCN r with
 | none =>
  rw [hfl] at eT;have HN:=qH (show zAD S=U by rw [hn,hfl];rfl);clear hn hfl;go_wp2_with fail
  refine (eT.out X).mono ?_;rintro e kd ⟨rfl,iz⟩;have jE:=kr.below iz kr.lt;have oW:=ko.below iz ko.lt;have nb:=h1.below iz;have nf:=zAb g1 (zAA (row:=Z rb) iz);clear h1 g1 kr ko iz eT;have Ag:=oW.frozen 7;have AZ:kd.cell? ⟨a1,7,U⟩=Z (G E):=(oW.cell 7).trans rfl;have lW:ZZ (rb+1) kd (kd.setCell ⟨a1,7,U⟩ (G E)):=(M _ _).setCell (p:=⟨a1,7,U⟩) bi _;have sB:ZZ w.heap.size kd (kd.setCell ⟨a1,7,U⟩ (G E)):=(M _ _).setCell (p:=⟨a1,7,U⟩) bM _;have eu:=jE.far (p:=⟨a1,7,U⟩) (by simp only;omega) (G E);have eQ:=nb.over lW;have fu:=zAd nf sB;clear nb nf jE oW lW sB;have HG:=qH (show zCG w rb w.heap.size a1 a2 F s S 0 (1) (kd.setCell ⟨a1,7,U⟩ (G E)) (r) from .inl ⟨rfl,rfl,⟨⟨_,eQ⟩,eu,fu,HN.out⟩⟩);clear eQ fu eu;go_wp2_with fail
  go_step3
  refine (show ∃n',n' < q/\zAT w rb a1 a2 F s S 0 n' _ _ from ?_);exact ⟨_,by have:=HQ.out;omega,_,r,rfl,⟨rfl,rfl,rfl,rfl,rfl,rfl,rfl⟩,HG⟩
 | some p =>
  obtain ⟨b,r2⟩:=p;rw [hfl] at eT hn;have n0:=zAp r2 [];clear hfl
  cases r2 with
  | nil =>
   rw [show (([]:List UInt8)==[])=Q from rfl] at n0;have HN:=qH (show zAD S=Z ⟨n.kind,n.f,n.fr,n.path,b⟩ by rw [hn];rfl);clear hn;go_wp2_with fail
   refine (eT.out X).mono ?_;rintro e iq ⟨rfl,xB⟩;have sZ:=kr.below xB kr.lt;have mS:=ko.below xB ko.lt;have yT:=h1.below xB;have y9:=zAb g1 (zAA (row:=Z rb) xB);clear h1 g1 kr ko xB eT;have z24:=mS.frozen 7;have Dc:iq.cell? ⟨a1,7,U⟩=Z (G E):=(mS.cell 7).trans rfl;have bH:Blk (iq.setCell ⟨a1,7,U⟩ (G b)) a1 32 #[D J k,D J f,D J ff,D J 0,G far,D J 0,H U 0 0,G b]:=mS.set_ 7 _;have xA:ZZ (rb+1) iq (iq.setCell ⟨a1,7,U⟩ (G b)):=(M _ _).setCell (p:=⟨a1,7,U⟩) bi _;have xF:ZZ w.heap.size iq (iq.setCell ⟨a1,7,U⟩ (G b)):=(M _ _).setCell (p:=⟨a1,7,U⟩) bM _;have aG:=sZ.far (p:=⟨a1,7,U⟩) (by simp only;omega) (G b);have fc:=yT.over xA;have fh:=zAd y9 xF;clear yT y9 sZ mS xA xF;go_wp2_with fail
   go_step3
   clear z24 Dc;generalize iq.setCell ⟨a1,7,U⟩ (G b)=nk at fc fh aG bH ⊢;obtain ⟨f0,f1,f2,f3,f4,f5,f6,f7⟩:=cQ8 bH;have y0:nk.cell? ⟨w.heap.size,0,U⟩=Z (D J 0):=(aG.cell 0).trans rfl;have ki:=aG.frozen 0;have y1:nk.cell? ⟨w.heap.size,1,U⟩=Z (D J 0):=(aG.cell 1).trans rfl;have kh:=aG.frozen 1;have y2:nk.cell? ⟨w.heap.size,2,U⟩=Z (D J 0):=(aG.cell 2).trans rfl;have lT:=aG.frozen 2;have y3:nk.cell? ⟨w.heap.size,3,U⟩=Z (D J 0):=(aG.cell 3).trans rfl;have lS:=aG.frozen 3;have y4:nk.cell? ⟨w.heap.size,4,U⟩=Z (G E):=(aG.cell 4).trans rfl;have lQ:=aG.frozen 4;have y5:nk.cell? ⟨w.heap.size,5,U⟩=Z (D J 0):=(aG.cell 5).trans rfl;have lO:=aG.frozen 5;have y6:nk.cell? ⟨w.heap.size,6,U⟩=Z (H U 0 0):=(aG.cell 6).trans rfl;have lM:=aG.frozen 6;have y7:nk.cell? ⟨w.heap.size,7,U⟩=Z (G E):=(aG.cell 7).trans rfl;have lK:=aG.frozen 7;have SZ:=qH (aG.store8 (D J k) (D J f) (D J ff) (D J 0) (G far) (D J 0) (H U 0 0) (G b));have BR:=qH (zAc (M (rb+1) nk) (show rb+1<=w.heap.size from cG) (D J k) (D J f) (D J ff) (D J 0) (G far) (D J 0) (H U 0 0) (G b));have BW:=qH (zAc (M w.heap.size nk) lh (D J k) (D J f) (D J ff) (D J 0) (G far) (D J 0) (H U 0 0) (G b));have HF:=qH (FS.out ⟨n.kind,n.f,n.fr,n.path,b⟩ ⟨k,f,⟨ff,0,far,0⟩,[],b⟩ HN.out (HO.out b) _ U 0 0 (Row.none_ _ _ _) rfl (fc.over BR.out) (zAd fh BW.out));clear BR BW fc fh aG bH;go_wp2_with fail
   rw [zDd];exact zAi rfl rfl SZ.out Tryz.underlying32 rfl (by kernel_rfl) rfl HF.out
  | cons x r2 =>
   rw [show (x :: r2==([]:List UInt8))=E from rfl] at n0;have HN:=qH (show zAD S=U by rw [hn];rfl);clear hn;go_wp2_with fail
   refine (eT.out X).mono ?_;rintro e jf ⟨rfl,gT⟩;have jC:=kr.below gT kr.lt;have oT:=ko.below gT ko.lt;have na:=h1.below gT;have nd:=zAb g1 (zAA (row:=Z rb) gT);clear h1 g1 kr ko gT eT;have Bl:=oT.frozen 7;have Db:jf.cell? ⟨a1,7,U⟩=Z (G E):=(oT.cell 7).trans rfl;have jY:ZZ (rb+1) jf (jf.setCell ⟨a1,7,U⟩ (G b)):=(M _ _).setCell (p:=⟨a1,7,U⟩) bi _;have xE:ZZ w.heap.size jf (jf.setCell ⟨a1,7,U⟩ (G b)):=(M _ _).setCell (p:=⟨a1,7,U⟩) bM _;have ij:=jC.far (p:=⟨a1,7,U⟩) (by simp only;omega) (G b);have iV:=na.over jY;have jS:=zAd nd xE;clear na nd jC oT jY xE;go_wp2_with fail
   go_step3
   clear Bl Db;generalize jf.setCell ⟨a1,7,U⟩ (G b)=p9 at iV jS ij ⊢;go_wp2_with fail
   go_step3
   have c4:p9.cell? ⟨rb,4,U⟩=Z (G s.bad):=iV.bad4.1;have z4:=iV.bad4.2;have hm:=iV.marked Q Q (by simp);have gB:∃l,RX (p9.setCell ⟨rb,4,U⟩ (G Q)) rb F ⟨s.T,Q,l⟩:=⟨_,by have:=hm.1;unfold RS.mark at this;simpa using this⟩
   have k9:=ij.grownO hm.2 cG;have g9:=zAb jS hm.2;clear hm iV jS ij;go_upto_region 39 with fail
   clear c4 z4;generalize p9.setCell ⟨rb,4,U⟩ (G Q)=X9 at gB k9 g9 ⊢;have y0:X9.cell? ⟨w.heap.size,0,U⟩=Z (D J 0):=(k9.cell 0).trans rfl;have ki:=k9.frozen 0;have y1:X9.cell? ⟨w.heap.size,1,U⟩=Z (D J 0):=(k9.cell 1).trans rfl;have kh:=k9.frozen 1;have y2:X9.cell? ⟨w.heap.size,2,U⟩=Z (D J 0):=(k9.cell 2).trans rfl;have lT:=k9.frozen 2;have y3:X9.cell? ⟨w.heap.size,3,U⟩=Z (D J 0):=(k9.cell 3).trans rfl;have lS:=k9.frozen 3;have y4:X9.cell? ⟨w.heap.size,4,U⟩=Z (G E):=(k9.cell 4).trans rfl;have lQ:=k9.frozen 4;have y5:X9.cell? ⟨w.heap.size,5,U⟩=Z (D J 0):=(k9.cell 5).trans rfl;have lO:=k9.frozen 5;have y6:X9.cell? ⟨w.heap.size,6,U⟩=Z (H U 0 0):=(k9.cell 6).trans rfl;have lM:=k9.frozen 6;have y7:X9.cell? ⟨w.heap.size,7,U⟩=Z (G E):=(k9.cell 7).trans rfl;have lK:=k9.frozen 7;have SZ:=qH (k9.store8 (D J 0) (D J 0) (D J 0) (D J 0) (G E) (D J 0) (H U 0 0) (G E));have BR:=qH (zAc (M (rb+1) X9) (show rb+1<=w.heap.size from cG) (D J 0) (D J 0) (D J 0) (D J 0) (G E) (D J 0) (H U 0 0) (G E));have BW:=qH (zAc (M w.heap.size X9) lh (D J 0) (D J 0) (D J 0) (D J 0) (G E) (D J 0) (H U 0 0) (G E));have HF:=qH (FN.out HN.out _ (by obtain ⟨l,hl⟩:=gB;exact ⟨l,hl.over BR.out⟩) (zAd g9 BW.out));clear gB k9 g9 BR BW;go_wp2_with fail
   rw [zDd];exact zAi rfl rfl SZ.out Tryz.underlying32 rfl (by kernel_rfl) rfl HF.out
