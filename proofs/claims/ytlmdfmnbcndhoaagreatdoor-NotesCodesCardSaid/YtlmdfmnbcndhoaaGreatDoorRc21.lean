/-
  Lemmas, part 21. Conditions: each theorem's own.
-/
import Derived.Test.YtlmdfmnbcndhoaaGreatDoorRc16
import Derived.Test.YtlmdfmnbcndhoaaGreatDoorRc15
import Derived.Test.YtlmdfmnbcndhoaaGreatDoorRc17
open Option renaming none→U,some→Z
open Bool renaming false→E,true→Q
open Go.Value renaming bool→G,int→D,slice→H,string→W
open Go.IntKind renaming i64→J
namespace Go.Proofs.YtlmdfmnbcndhoaaGreatDoor
open Go.RowKit
theorem zGb {fn:Func} {p u v:Tmp} {ty:TypeId} (h:fn.results=#[.cell p ty,.tmp u,.tmp v]) (tmps:Array Value) (P:Program) (w:World) :
  (results fn tmps).run P w =
   ((asAddr (tmps.getD p undef)).run P w).andThen fun a w₁=>((loadVar ty a).run P w₁).andThen fun x w₂=>.ok (.tuple #[x,tmps.getD u undef,tmps.getD v undef]) w₂:=by
 simp only [results,h];simp [Sem.run_bind,Result.andThen]
theorem zDi {P:Program} {fn:Func} {p u u2:Tmp} {ty:TypeId} {R:Ending→World→Prop} {a:Act} {w:World} {g:Nat} {t:TypeId} {cs:Array Value} {fr:Nat×Nat} {d:TypeDesc} {v v2:Value} (h:fn.results=#[.cell p ty,.tmp u,.tmp u2])
  (hp:a.tmps.getD p undef=.pointer (Z ⟨g,0,U⟩)) (hv:a.tmps.getD u undef=v) (ox:a.tmps.getD u2 undef=v2) (hg:w.heap[g]? = Z (.cells cs t fr)) (hu:P.underlying ty=Z d) (hd:(match d with | .struct _ | .array _ _=>Q | _=>E)=Q) (hi:(P.info? ty).map (·.size)=Z cs.size)
  (hdf:a.defers=[]) (hR:R (.returned (.tuple #[.agg cs,v,v2])) w):bodyPost P fn R .ret a w:=by
 refine bodyPost_ret ?_ hdf hR;rw [zGb h,hp,hv,ox];simp [asAddr,run_loadVar_row w g t ty cs fr d hg hu hd hi,Result.andThen]
def zEq (w0:World) (rb:Nat) (F:Fm) (s:RS) (S:List UInt8) (e:Ending) (w':World):Prop :=
 (match zFL S with
  | some (f,r)=>e=.returned (.tuple #[D J (zAM F.L f:Int),W (bA r),G Q])∧RX w' rb F ⟨s.T,s.bad,s.lost||zBE F.L f⟩
  | none=>e=.returned (.tuple #[D J 0,W (bA S),G E])∧RX w' rb F s)∧w0.grownBy w' (Z rb)
theorem zMN {w:World} {rb:Nat} {F:Fm} {s:RS} (h:RX w rb F s) (S:List UInt8):Calls Tryz.prog 160 #[.pointer (Z ⟨rb,0,U⟩),W (bA S)] w (zEq w rb F s S):=by
 refine (zNJ rb F.A F.n F.c F.L F.re F.lo s.T s.bad s.lost S w h.rd h.fr h.ne).mono ?_;rintro e w' ⟨h1,h2⟩;unfold zEq;refine ⟨?_,h2⟩
 cases hc:zFL S with
 | none =>
  rw [hc] at h1;exact ⟨h1.1,⟨h1.2,h.fr.keepR h2 h.ne,h.ne⟩⟩
 | some p =>
  rw [hc] at h1;exact ⟨h1.1,⟨h1.2,h.fr.keepR h2 h.ne,h.ne⟩⟩
theorem zGT {w0:World} {rb:Nat} {F:Fm} {s:RS} {S r:List UInt8} {f:Fg} {e:Ending} {w':World} (h:zEq w0 rb F s S e w') (hc:zFL S=Z (f,r)) :
  e=.returned (.tuple #[D J (zAM F.L f:Int),W (bA r),G Q])∧RX w' rb F ⟨s.T,s.bad,s.lost||zBE F.L f⟩∧w0.grownBy w' (Z rb):=by
 unfold zEq at h;rw [hc] at h;exact ⟨h.1.1,h.1.2,h.2⟩
theorem zGU {w0:World} {rb:Nat} {F:Fm} {s:RS} {S:List UInt8} {e:Ending} {w':World} (h:zEq w0 rb F s S e w') (hc:zFL S=U) :
  e=.returned (.tuple #[D J 0,W (bA S),G E])∧RX w' rb F s∧w0.grownBy w' (Z rb):=by
 unfold zEq at h;rw [hc] at h;exact ⟨h.1.1,h.1.2,h.2⟩
def zBv (w0:World) (rb:Nat) (F:Fm) (s:RS) (S:List UInt8) (e:Ending) (w':World):Prop :=
 (match zBj S with
  | some (f,far,r)=>e=.returned (.tuple #[.agg #[D J (zAM F.L f:Int),D J 0,G far,D J 0],W (bA r),G Q])∧RX w' rb F ⟨s.T,s.bad,s.lost||zBE F.L f⟩
  | none=>e=.returned (.tuple #[.agg #[D J 0,D J 0,G E,D J 0],W (bA S),G E])∧∃l,RX w' rb F ⟨s.T,s.bad,l⟩)∧w0.grownBy w' (Z rb)
theorem zGc {w0:World} {rb:Nat} {F:Fm} {s:RS} {S r:List UInt8} {f:Fg} {far:Bool} {e:Ending} {w':World} (h:zBv w0 rb F s S e w') (hc:zBj S=Z (f,far,r)) :
  e=.returned (.tuple #[.agg #[D J (zAM F.L f:Int),D J 0,G far,D J 0],W (bA r),G Q])∧RX w' rb F ⟨s.T,s.bad,s.lost||zBE F.L f⟩∧w0.grownBy w' (Z rb):=by
 unfold zBv at h;rw [hc] at h;exact ⟨h.1.1,h.1.2,h.2⟩
theorem zGd {w0:World} {rb:Nat} {F:Fm} {s:RS} {S:List UInt8} {e:Ending} {w':World} (h:zBv w0 rb F s S e w') (hc:zBj S=U) :
  e=.returned (.tuple #[.agg #[D J 0,D J 0,G E,D J 0],W (bA S),G E])∧(∃l,RX w' rb F ⟨s.T,s.bad,l⟩)∧w0.grownBy w' (Z rb):=by
 unfold zBv at h;rw [hc] at h;exact ⟨h.1.1,h.1.2,h.2⟩
theorem zWp (f:Int) (far:Bool) (w:World):(Instr.build 29 #[(0,D J f),(2,G far)]).run Tryz.prog w=.ok (.agg #[D J f,D J 0,G far,D J 0]) w:=run_build w _ _ _ (by kernel_rfl)
set_option maxHeartbeats 6400000 in
theorem zEb (rb:Nat) (F:Fm) (s:RS) (S:List UInt8) (w:World) (h:RX w rb F s) :
  Calls Tryz.prog 162 #[.pointer (Z ⟨rb,0,U⟩),W (bA S)] w (zBv w rb F s S):=by
 have hlt:=h.lt;have b1:Below w.heap.size w (w.alloc (.cells #[D J 0,D J 0,G E,D J 0] 29)):=(Below.refl _ _).alloc (Nat.le_refl _) _;have k1:Blk (w.alloc (.cells #[D J 0,D J 0,G E,D J 0] 29)) w.heap.size 29 #[D J 0,D J 0,G E,D J 0]:=Blk.new _ _ _;have h1:=h.below b1;have g1:w.grownBy (w.alloc (.cells #[D J 0,D J 0,G E,D J 0] 29)) (Z rb):=zAv b1;have eG:=qH (fun wx (hx:RX wx rb F s)=>zMN hx S)
 have nV:=qH (fun (hn:zBj S=U) (e:Ending) (wx:World) (he:e=.returned (.tuple #[.agg #[D J 0,D J 0,G E,D J 0],W (bA S),G E])) (hx:∃l,RX wx rb F ⟨s.T,s.bad,l⟩) (hg:w.grownBy wx (Z rb)) =>
  (show zBv w rb F s S e wx by unfold zBv;rw [hn];exact ⟨⟨he,hx⟩,hg⟩))
 have nU:=qH (fun (f:Fg) (far:Bool) (r:List UInt8) (hn:zBj S=Z (f,far,r)) (e:Ending) (wx:World) (he:e=.returned (.tuple #[.agg #[D J (zAM F.L f:Int),D J 0,G far,D J 0],W (bA r),G Q])) (hx:RX wx rb F ⟨s.T,s.bad,s.lost||zBE F.L f⟩) (hg:w.grownBy wx (Z rb)) =>
  (show zBv w rb F s S e wx by unfold zBv;rw [hn];exact ⟨⟨he,hx⟩,hg⟩))
 clear h b1;go_enter Tryz.func162,Tryz.ntmps162;go_wp2_with fail
 generalize w.alloc (.cells #[D J 0,D J 0,G E,D J 0] 29)=X1 at k1 h1 g1 ⊢;refine (eG.out X1 h1).mono ?_;intro e X2 hc
 have key:∀(sx:RS) (wx:World),RX wx rb F sx→X1.grownBy wx (Z rb)→∃(v:Unit),(wx.cell? ⟨w.heap.size,0,U⟩=Z (D J 0)∧wx.frozen? ⟨w.heap.size,0,U⟩=E∧wx.cell? ⟨w.heap.size,1,U⟩=Z (D J 0)∧wx.frozen? ⟨w.heap.size,1,U⟩=E∧wx.cell? ⟨w.heap.size,2,U⟩=Z (G E)∧wx.frozen? ⟨w.heap.size,2,U⟩=E∧wx.cell? ⟨w.heap.size,3,U⟩=Z (D J 0)∧wx.frozen? ⟨w.heap.size,3,U⟩=E) ∧
   Hid (∀(u0 u1 u2 u3:Value),Blk ((((wx.setCell ⟨w.heap.size,0,U⟩ u0).setCell ⟨w.heap.size,1,U⟩ u1).setCell ⟨w.heap.size,2,U⟩ u2).setCell ⟨w.heap.size,3,U⟩ u3) w.heap.size 29 #[u0,u1,u2,u3] ∧
    RX ((((wx.setCell ⟨w.heap.size,0,U⟩ u0).setCell ⟨w.heap.size,1,U⟩ u1).setCell ⟨w.heap.size,2,U⟩ u2).setCell ⟨w.heap.size,3,U⟩ u3) rb F sx ∧
    w.grownBy ((((wx.setCell ⟨w.heap.size,0,U⟩ u0).setCell ⟨w.heap.size,1,U⟩ u1).setCell ⟨w.heap.size,2,U⟩ u2).setCell ⟨w.heap.size,3,U⟩ u3) (Z rb)):=fun sx wx hx hg=>by
  have kx:=k1.grownO hg hlt;refine ⟨(),⟨(kx.cell 0).trans rfl,kx.frozen 0,(kx.cell 1).trans rfl,kx.frozen 1,(kx.cell 2).trans rfl,kx.frozen 2,(kx.cell 3).trans rfl,kx.frozen 3⟩,qH fun u0 u1 u2 u3=>⟨kx.store4 u0 u1 u2 u3,hx.over (zCm (Below.refl (rb+1) wx) (show rb+1≤w.heap.size from hlt) u0 u1 u2 u3),zAc (zAb g1 hg) (zCm (Below.refl w.heap.size wx) (Nat.le_refl w.heap.size) u0 u1 u2 u3)⟩⟩
 have uh:=qH key;clear key k1 h1 g1 eG
 cases hcf:zFL S with
 | none =>
  obtain ⟨rfl,hx,hg⟩:=zGU hc hcf;have HN:=qH (show zBj S=U by unfold zBj;rw [hcf]);obtain ⟨_,⟨c0,z0,c1,z1,c2,z2,c3,z3⟩,HK⟩:=uh.out s X2 hx hg;clear hc hcf hx hg uh nU;go_wp2_with fail
  exact zDi rfl rfl rfl rfl (HK.out _ _ _ _).1 Tryz.underlying29 rfl (by kernel_rfl) rfl (nV.out HN.out _ _ rfl ⟨_,(HK.out _ _ _ _).2.1⟩ (HK.out _ _ _ _).2.2)
 | some p =>
  obtain ⟨f,r⟩:=p;obtain ⟨rfl,hx,hg⟩:=zGT hc hcf;obtain ⟨_,⟨c0,z0,c1,z1,c2,z2,c3,z3⟩,HK⟩:=uh.out _ X2 hx hg;obtain ⟨ix,hix⟩:∃x,zAM F.L f=x:=⟨_,rfl⟩
  rw [hix];have pH:=qH hix;have n0:=zAH r [];clear hc hx hg uh hix
  cases r with
  | nil =>
   rw [show (([]:List UInt8)==[])=Q from rfl] at n0;have HN:=qH (show zBj S=U by unfold zBj;rw [hcf]);clear hcf nU;go_wp2_with fail
   exact zDi rfl rfl rfl rfl (HK.out _ _ _ _).1 Tryz.underlying29 rfl (by kernel_rfl) rfl (nV.out HN.out _ _ rfl ⟨_,(HK.out _ _ _ _).2.1⟩ (HK.out _ _ _ _).2.2)
  | cons x r =>
   rw [show (x :: r==([]:List UInt8))=E from rfl] at n0;have t1:=zDc x r;have t2:=zGN x r;by_cases h1:x=110
   ·have HS:=qH (show zBj S=Z (f,E,r) by unfold zBj;rw [hcf];simp only;rw [if_pos h1]);subst h1;rw [show (((110:UInt8).toNat:Nat):Int)=110 from rfl] at t1;clear hcf nV;go_wp2_with fail
    go_region
    go_wp2_with fail
    exact zDi rfl rfl rfl rfl (HK.out _ _ _ _).1.drew Tryz.underlying29 rfl (by kernel_rfl) rfl (nU.out f E r HS.out _ _ (by first | (rw [pH.out];done) | (rw [pH.out];rfl)) ((HK.out _ _ _ _).2.1.below (Below.refl _ _).drew) (zBT (HK.out _ _ _ _).2.2))
   ·by_cases h2:x=102
    ·have HS:=qH (show zBj S=Z (f,Q,r) by unfold zBj;rw [hcf];simp only;rw [if_neg h1,if_pos h2]);subst h2;rw [show (((102:UInt8).toNat:Nat):Int)=102 from rfl] at t1;clear hcf nV h1;go_wp2_with fail
     go_region
     go_wp2_with fail
     exact zDi rfl rfl rfl rfl (HK.out _ _ _ _).1.drew Tryz.underlying29 rfl (by kernel_rfl) rfl (nU.out f Q r HS.out _ _ (by first | (rw [pH.out];done) | (rw [pH.out];rfl)) ((HK.out _ _ _ _).2.1.below (Below.refl _ _).drew) (zBT (HK.out _ _ _ _).2.2))
    ·have k1:((x.toNat:Int) != 110)=Q:=by
      simp only [bne_iff_ne,ne_eq];intro e;exact h1 (UInt8.toNat.inj (show x.toNat=110 by omega))
     have k2:((x.toNat:Int) != 102)=Q:=by
      simp only [bne_iff_ne,ne_eq];intro e;exact h2 (UInt8.toNat.inj (show x.toNat=102 by omega))
     have HN:=qH (show zBj S=U by unfold zBj;rw [hcf];simp only;rw [if_neg h1,if_neg h2]);clear hcf nU h1 h2;go_wp2_with fail
     exact zDi rfl rfl rfl rfl (HK.out _ _ _ _).1 Tryz.underlying29 rfl (by kernel_rfl) rfl (nV.out HN.out _ _ rfl ⟨_,(HK.out _ _ _ _).2.1⟩ (HK.out _ _ _ _).2.2)
def zop:Og:=⟨0,0,s0,[],E⟩
def zCn (w0:World) (rb:Nat) (F:Fm) (s:RS) (S:List UInt8) (e:Ending) (w':World):Prop :=
 (∃n,zAJ S=Z n∧∃B m d,e=.returned (opV (oOf F.L n) B m d)∧Row w' w0.heap.size 5 B m d ((oOf F.L n).path.flatMap zIg)∧m=(oOf F.L n).path.length∧RX w' rb F ⟨s.T,s.bad,s.lost||zAE F.L n⟩∧w0.grownBy w' (Z rb))
 ∨ (zAJ S=U∧e=.returned (opV zop U 0 0)∧(∃l,RX w' rb F ⟨s.T,Q,l⟩)∧w0.grownBy w' (Z rb))
abbrev opT:TypeId:=32
abbrev zC:Array Value:=#[D J 0,D J 0,D J 0,D J 0,G E,D J 0,H U 0 0,G E]
def zPM (f:Fg) (P:Option (List (Nst×Bool)×Nst)):Option Nop:=match P with | some (ZS,x)=>Z ⟨3,f,Z x,ZS,E⟩ | none=>U
def zEc (n:Nop) (P:Option (Bool×List UInt8)):Option Nop:=match P with | some (b,[])=>Z ⟨n.kind,n.f,n.fr,n.path,b⟩ | _=>U
def zSa (n:Nop) (r:List UInt8):Option Nop:=if r=[] then Z n else U
def Sc0 (w:World) (rb a0:Nat) (F:Fm) (s:RS) (S:List UInt8) (X:World):Prop :=
 (∃lo,RX X rb F ⟨s.T,s.bad,lo⟩)∧Blk X a0 opT zC∧w.grownBy X (Z rb)∧zAJ S=U
def Sc1 (w:World) (rb a0 a1:Nat) (F:Fm) (s:RS) (S:List UInt8) (X:World) (r:List UInt8) (n:Nop) (k f ff:Int) (far:Bool):Prop :=
 RX X rb F ⟨s.T,s.bad,s.lost||zAE F.L n⟩∧Blk X a0 opT zC∧Blk X a1 opT #[D J k,D J f,D J ff,D J 0,G far,D J 0,H U 0 0,G E]∧w.grownBy X (Z rb) ∧
  zAJ S=zEc n (zCP r)∧n.path=[]∧∀b,oOf F.L ⟨n.kind,n.f,n.fr,n.path,b⟩=⟨k,f,⟨ff,0,far,0⟩,[],b⟩
def Sc2 (w:World) (rb a0 a1 a2:Nat) (F:Fm) (s:RS) (S:List UInt8) (X:World) (r:List UInt8) (f:Fg) (fi:Int) (P:List (Nst×Bool)) (Ps:List Sp) (B:Option Addr) (m d N:Nat) (x0 x1 x3:Int) (x2:Bool):Prop :=
 RX X rb F ⟨s.T,s.bad,s.lost||zBE F.L f||zBI F.L P⟩∧Blk X a0 opT zC∧Blk X a1 opT #[D J 3,D J fi,D J 0,D J 0,G E,D J 0,H B m d,G E] ∧
  Blk X a2 29 #[D J x0,D J x1,G x2,D J x3]∧w.grownBy X (Z rb)∧Row X (a2+1) 5 B m d (Ps.flatMap zIg)∧m=Ps.length∧Ps=P.map (pOf F.L)∧fi=(zAM F.L f:Int) ∧
  m+r.length≤S.length∧r.length < N∧zAJ S=zPM f (zFW N P r)
def Sc3 (w:World) (rb a0 a1:Nat) (F:Fm) (s:RS) (S:List UInt8) (X:World) (r:List UInt8) (n:Nop) (k f ff:Int) (far over:Bool) (path:List Sp) (B:Option Addr) (m d:Nat):Prop :=
 RX X rb F ⟨s.T,s.bad,s.lost||zAE F.L n⟩∧Blk X a0 opT zC∧Blk X a1 opT #[D J k,D J f,D J ff,D J 0,G far,D J 0,H B m d,G over]∧w.grownBy X (Z rb) ∧
  Row X (a1+1) 5 B m d (path.flatMap zIg)∧m=path.length∧oOf F.L n=⟨k,f,⟨ff,0,far,0⟩,path,over⟩∧zAJ S=zSa n r
def zCI (w:World) (rb a0 a1 a2:Nat) (F:Fm) (s:RS) (S:List UInt8) (l q:Nat) (X:World) (r:List UInt8):Prop :=
 (l=0∧q=1∧Sc0 w rb a0 F s S X)
 ∨ (l=1∧q=3∧∃n k f ff far,Sc1 w rb a0 a1 F s S X r n k f ff far)
 ∨ (l=2∧q=10+r.length∧∃f fi P Ps B m d N x0 x1 x3 x2,Sc2 w rb a0 a1 a2 F s S X r f fi P Ps B m d N x0 x1 x3 x2)
 ∨ (l=3∧q=2∧∃n k f ff far over path B m d,Sc3 w rb a0 a1 F s S X r n k f ff far over path B m d)
abbrev zKF (rb a0 a1 a2:Nat) (a:Act) (r:List UInt8):Prop :=
 a.tmps.size=136∧a.tmps.getD 0 undef=.pointer (Z ⟨rb,0,U⟩)∧a.tmps.getD 1 undef=W (bA r)∧a.tmps.getD 4 undef=.pointer (Z ⟨a0,0,U⟩)∧a.tmps.getD 5 undef=.pointer (Z ⟨a1,0,U⟩)∧a.tmps.getD 7 undef=.pointer (Z ⟨a2,0,U⟩)∧a.defers=[]
theorem zFw (S:List UInt8):zGF S=match zCP S with | some (b,r)=>(b,r,Q) | none=>(E,S,E):=by
 cases S with
 | nil=>rfl
 | cons x r =>
  by_cases h1:x=111
  ·simp [zGF,zCP,h1]
  ·by_cases h2:x=117
   ·simp [zGF,zCP,h2]
   ·simp [zGF,zCP,h1,h2]
theorem zSb (b:UInt8):Lib.indexByte [32,45,94,60,126,61,42,37,33] b=if b=32 then 0 else if zAL b=0 then -1 else zAL b:=by
 by_cases h0:b=32
 ·subst h0;decide
 rw [if_neg h0];by_cases h:zAL b=0
 ·rw [if_pos h];refine zOR fun hm=>?_
  simp only [List.mem_cons,List.not_mem_nil,or_false] at hm;rcases hm with rfl | rfl | rfl | rfl | rfl | rfl | rfl | rfl | rfl
  ·exact h0 rfl
  all_goals exact absurd h (by decide)
 ·rw [if_neg h];have hb:=(zDX h).2.2;obtain ⟨h1,h8,_⟩:=zDX h;have hk:zAL b=1∨zAL b=2∨zAL b=3∨zAL b=4∨zAL b=5∨zAL b=6∨zAL b=7∨zAL b=8:=by omega
  rcases hk with e | e | e | e | e | e | e | e<;>rw [e] at hb ⊢<;>(have hbb:_=b:=List.head_eq_of_cons_eq hb;rw [←hbb];decide)
theorem zJE (b:UInt8) (w:World):Calls Tryz.prog 161 #[W ⟨#[32,45,94,60,126,61,42,37,33]⟩,D .u8 b.toNat] w fun e w'=>e=.returned (D J (if b=32 then 0 else if zAL b=0 then -1 else zAL b))∧w'=w:=by
 refine (Tryz.strings_IndexByte ⟨#[32,45,94,60,126,61,42,37,33]⟩ b.toNat w).mono ?_;rintro e w' ⟨rfl,rfl⟩;refine ⟨?_,rfl⟩;rw [←zSb]
 congr 3
 simp
theorem zLV (S:List UInt8):zAJ S=match zFL S with
 | some (f,b :: r)=>if zAL b=0 then U
  else if zAL b=4 then zEc ⟨4,f,U,[],E⟩ (zCP r)
  else if zAL b=3 then zPM f (zFW (r.length+1) [] r)
  else if zAL b=5 then (match zBj r with | some (g,far,r2)=>zEc ⟨5,f,Z ⟨g,0,far,0⟩,[],E⟩ (zCP r2) | none=>U)
  else if zAL b=6∨zAL b=7 then (match zFL r with | some (g,r2)=>zEc ⟨zAL b,f,Z ⟨g,0,E,0⟩,[],E⟩ (zCP r2) | none=>U)
  else zSa ⟨zAL b,f,U,[],E⟩ r
 | _=>U:=by
 unfold zAJ
 cases zFL S with
 | none=>rfl
 | some p =>
  obtain ⟨f,q⟩:=p
  cases q with
  | nil=>rfl
  | cons b r =>
   simp only;by_cases e0:zAL b=0
   ·rw [if_neg (by omega),if_neg (by omega),if_neg (by omega),if_neg (by omega),if_pos e0,if_pos e0]
   rw [if_neg e0,if_neg e0];by_cases e4:zAL b=4
   ·rw [if_pos e4,if_pos e4];unfold zRR zEc;split<;>simp_all
   rw [if_neg e4,if_neg e4];by_cases e3:zAL b=3
   ·rw [if_pos e3,if_pos e3];rfl
   rw [if_neg e3,if_neg e3];by_cases e5:zAL b=5
   ·rw [if_pos e5,if_pos e5];unfold zRS zEc;split
    ·rename_i g far r2 h;rw [h];split<;>simp_all
    ·rename_i h;rw [h]
   rw [if_neg e5,if_neg e5];by_cases e6:zAL b=6∨zAL b=7
   ·rw [if_pos e6,if_pos e6];unfold zRT zEc;split
    ·rename_i g r2 h;rw [h];split<;>simp_all
    ·rename_i h;rw [h]
   rw [if_neg e6,if_neg e6];rfl
end Go.Proofs.YtlmdfmnbcndhoaaGreatDoor
