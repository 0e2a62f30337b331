/-
  Lemmas, part 19. Conditions: each theorem's own.
-/
import Derived.Test.YtlmdfmnbcndhoaaGreatDoorRi14
import Derived.Test.YtlmdfmnbcndhoaaGreatDoorRi13
import Derived.Test.YtlmdfmnbcndhoaaGreatDoorRi15
namespace Go.Proofs.YtlmdfmnbcndhoaaGreatDoor
open Go.RowKit
theorem zFw {fn:Func} {p u v:Tmp} {ty:TypeId} (h:fn.results=#[.cell p ty,.tmp u,.tmp v]) (tmps:Array Value) (P:Program) (w:World) :
  (results fn tmps).run P w =
   ((asAddr (tmps.getD p undef)).run P w).andThen fun a w₁=>((loadVar ty a).run P w₁).andThen fun x w₂=>.ok (.tuple #[x,tmps.getD u undef,tmps.getD v undef]) w₂:=by
 simp only [results,h];simp [Sem.run_bind,Result.andThen]
theorem zCN {P:Program} {fn:Func} {p u u2:Tmp} {ty:TypeId} {R:Ending→World→Prop} {a:Act} {w:World} {g:Nat} {t:TypeId} {cs:Array Value} {fr:Nat×Nat} {d:TypeDesc} {v v2:Value} (h:fn.results=#[.cell p ty,.tmp u,.tmp u2])
  (hp:a.tmps.getD p undef=.pointer (some ⟨g,0,none⟩)) (hv:a.tmps.getD u undef=v) (hv2:a.tmps.getD u2 undef=v2) (hg:w.heap[g]? = some (.cells cs t fr)) (hu:P.underlying ty=some d) (hd:(match d with | .struct _ | .array _ _=>true | _=>false)=true) (hi:(P.info? ty).map (·.size)=some cs.size)
  (hdf:a.defers=[]) (hR:R (.returned (.tuple #[.agg cs,v,v2])) w):bodyPost P fn R .ret a w:=by
 refine bodyPost_ret ?_ hdf hR;rw [zFw h,hp,hv,hv2];simp [asAddr,run_loadVar_row w g t ty cs fr d hg hu hd hi,Result.andThen]
def zDM (w0:World) (rb:Nat) (F:Fm) (s:RS) (S:List UInt8) (e:Ending) (w':World):Prop :=
 (match zFk S with
  | some (f,r)=>e=.returned (.tuple #[.int .i64 (zAG F.L f:Int),.string (bA r),.bool true])∧RX w' rb F ⟨s.T,s.bad,s.lost||zAW F.L f⟩
  | none=>e=.returned (.tuple #[.int .i64 0,.string (bA S),.bool false])∧RX w' rb F s)∧w0.grownBy w' (some rb)
theorem zMa {w:World} {rb:Nat} {F:Fm} {s:RS} (h:RX w rb F s) (S:List UInt8):Calls Tryz.prog 160 #[.pointer (some ⟨rb,0,none⟩),.string (bA S)] w (zDM w rb F s S):=by
 refine (zMV rb F.A F.n F.c F.L F.re F.lo s.T s.bad s.lost S w h.rd h.fr h.ne).mono ?_;rintro e w' ⟨h1,h2⟩;unfold zDM;refine ⟨?_,h2⟩
 cases hc:zFk S with
 | none =>
  rw [hc] at h1;exact ⟨h1.1,⟨h1.2,h.fr.keepR h2 h.ne,h.ne⟩⟩
 | some p =>
  rw [hc] at h1;exact ⟨h1.1,⟨h1.2,h.fr.keepR h2 h.ne,h.ne⟩⟩
theorem zGk {w0:World} {rb:Nat} {F:Fm} {s:RS} {S r:List UInt8} {f:Fg} {e:Ending} {w':World} (h:zDM w0 rb F s S e w') (hc:zFk S=some (f,r)) :
  e=.returned (.tuple #[.int .i64 (zAG F.L f:Int),.string (bA r),.bool true])∧RX w' rb F ⟨s.T,s.bad,s.lost||zAW F.L f⟩∧w0.grownBy w' (some rb):=by
 unfold zDM at h;rw [hc] at h;exact ⟨h.1.1,h.1.2,h.2⟩
theorem zGl {w0:World} {rb:Nat} {F:Fm} {s:RS} {S:List UInt8} {e:Ending} {w':World} (h:zDM w0 rb F s S e w') (hc:zFk S=none) :
  e=.returned (.tuple #[.int .i64 0,.string (bA S),.bool false])∧RX w' rb F s∧w0.grownBy w' (some rb):=by
 unfold zDM at h;rw [hc] at h;exact ⟨h.1.1,h.1.2,h.2⟩
def zBj (w0:World) (rb:Nat) (F:Fm) (s:RS) (S:List UInt8) (e:Ending) (w':World):Prop :=
 (match zAQ S with
  | some (f,far,r)=>e=.returned (.tuple #[.agg #[.int .i64 (zAG F.L f:Int),.int .i64 0,.bool far,.int .i64 0],.string (bA r),.bool true])∧RX w' rb F ⟨s.T,s.bad,s.lost||zAW F.L f⟩
  | none=>e=.returned (.tuple #[.agg #[.int .i64 0,.int .i64 0,.bool false,.int .i64 0],.string (bA S),.bool false])∧∃l,RX w' rb F ⟨s.T,s.bad,l⟩)∧w0.grownBy w' (some rb)
theorem zFx {w0:World} {rb:Nat} {F:Fm} {s:RS} {S r:List UInt8} {f:Fg} {far:Bool} {e:Ending} {w':World} (h:zBj w0 rb F s S e w') (hc:zAQ S=some (f,far,r)) :
  e=.returned (.tuple #[.agg #[.int .i64 (zAG F.L f:Int),.int .i64 0,.bool far,.int .i64 0],.string (bA r),.bool true])∧RX w' rb F ⟨s.T,s.bad,s.lost||zAW F.L f⟩∧w0.grownBy w' (some rb):=by
 unfold zBj at h;rw [hc] at h;exact ⟨h.1.1,h.1.2,h.2⟩
theorem zFy {w0:World} {rb:Nat} {F:Fm} {s:RS} {S:List UInt8} {e:Ending} {w':World} (h:zBj w0 rb F s S e w') (hc:zAQ S=none) :
  e=.returned (.tuple #[.agg #[.int .i64 0,.int .i64 0,.bool false,.int .i64 0],.string (bA S),.bool false])∧(∃l,RX w' rb F ⟨s.T,s.bad,l⟩)∧w0.grownBy w' (some rb):=by
 unfold zBj at h;rw [hc] at h;exact ⟨h.1.1,h.1.2,h.2⟩
theorem zVi (f:Int) (far:Bool) (w:World):(Instr.build 29 #[(0,.int .i64 f),(2,.bool far)]).run Tryz.prog w=.ok (.agg #[.int .i64 f,.int .i64 0,.bool far,.int .i64 0]) w:=run_build w _ _ _ (by kernel_rfl)
set_option maxHeartbeats 6400000 in
theorem zDB (rb:Nat) (F:Fm) (s:RS) (S:List UInt8) (w:World) (h:RX w rb F s) :
  Calls Tryz.prog 162 #[.pointer (some ⟨rb,0,none⟩),.string (bA S)] w (zBj w rb F s S):=by
 have hlt:=h.lt;have b1:Below w.heap.size w (w.alloc (.cells #[.int .i64 0,.int .i64 0,.bool false,.int .i64 0] 29)):=(Below.refl _ _).alloc (Nat.le_refl _) _;have k1:Blk (w.alloc (.cells #[.int .i64 0,.int .i64 0,.bool false,.int .i64 0] 29)) w.heap.size 29 #[.int .i64 0,.int .i64 0,.bool false,.int .i64 0]:=Blk.new _ _ _;have h1:=h.below b1;have g1:w.grownBy (w.alloc (.cells #[.int .i64 0,.int .i64 0,.bool false,.int .i64 0] 29)) (some rb):=zAv b1;have HCU:=qH (fun wx (hx:RX wx rb F s)=>zMa hx S)
 have NONE:=qH (fun (hn:zAQ S=none) (e:Ending) (wx:World) (he:e=.returned (.tuple #[.agg #[.int .i64 0,.int .i64 0,.bool false,.int .i64 0],.string (bA S),.bool false])) (hx:∃l,RX wx rb F ⟨s.T,s.bad,l⟩) (hg:w.grownBy wx (some rb)) =>
  (show zBj w rb F s S e wx by unfold zBj;rw [hn];exact ⟨⟨he,hx⟩,hg⟩))
 have SOME:=qH (fun (f:Fg) (far:Bool) (r:List UInt8) (hn:zAQ S=some (f,far,r)) (e:Ending) (wx:World) (he:e=.returned (.tuple #[.agg #[.int .i64 (zAG F.L f:Int),.int .i64 0,.bool far,.int .i64 0],.string (bA r),.bool true])) (hx:RX wx rb F ⟨s.T,s.bad,s.lost||zAW F.L f⟩) (hg:w.grownBy wx (some rb)) =>
  (show zBj w rb F s S e wx by unfold zBj;rw [hn];exact ⟨⟨he,hx⟩,hg⟩))
 clear h b1;go_enter Tryz.func162,Tryz.ntmps162;go_wp2_with fail
 generalize w.alloc (.cells #[.int .i64 0,.int .i64 0,.bool false,.int .i64 0] 29)=X1 at k1 h1 g1 ⊢;refine (HCU.out X1 h1).mono ?_;intro e X2 hc
 have key:∀(sx:RS) (wx:World),RX wx rb F sx→X1.grownBy wx (some rb)→∃(v:Unit),(wx.cell? ⟨w.heap.size,0,none⟩=some (.int .i64 0)∧wx.frozen? ⟨w.heap.size,0,none⟩=false∧wx.cell? ⟨w.heap.size,1,none⟩=some (.int .i64 0)∧wx.frozen? ⟨w.heap.size,1,none⟩=false∧wx.cell? ⟨w.heap.size,2,none⟩=some (.bool false)∧wx.frozen? ⟨w.heap.size,2,none⟩=false∧wx.cell? ⟨w.heap.size,3,none⟩=some (.int .i64 0)∧wx.frozen? ⟨w.heap.size,3,none⟩=false) ∧
   Hid (∀(u0 u1 u2 u3:Value),Blk ((((wx.setCell ⟨w.heap.size,0,none⟩ u0).setCell ⟨w.heap.size,1,none⟩ u1).setCell ⟨w.heap.size,2,none⟩ u2).setCell ⟨w.heap.size,3,none⟩ u3) w.heap.size 29 #[u0,u1,u2,u3] ∧
    RX ((((wx.setCell ⟨w.heap.size,0,none⟩ u0).setCell ⟨w.heap.size,1,none⟩ u1).setCell ⟨w.heap.size,2,none⟩ u2).setCell ⟨w.heap.size,3,none⟩ u3) rb F sx ∧
    w.grownBy ((((wx.setCell ⟨w.heap.size,0,none⟩ u0).setCell ⟨w.heap.size,1,none⟩ u1).setCell ⟨w.heap.size,2,none⟩ u2).setCell ⟨w.heap.size,3,none⟩ u3) (some rb)):=fun sx wx hx hg=>by
  have kx:=k1.grownO hg hlt;refine ⟨(),⟨(kx.cell 0).trans rfl,kx.frozen 0,(kx.cell 1).trans rfl,kx.frozen 1,(kx.cell 2).trans rfl,kx.frozen 2,(kx.cell 3).trans rfl,kx.frozen 3⟩,qH fun u0 u1 u2 u3=>⟨kx.store4 u0 u1 u2 u3,hx.over (zBV (Below.refl (rb+1) wx) (show rb+1≤w.heap.size from hlt) u0 u1 u2 u3),zAc (zAb g1 hg) (zBV (Below.refl w.heap.size wx) (Nat.le_refl w.heap.size) u0 u1 u2 u3)⟩⟩
 have KEY:=qH key;clear key k1 h1 g1 HCU
 cases hcf:zFk S with
 | none =>
  obtain ⟨rfl,hx,hg⟩:=zGl hc hcf;have HN:=qH (show zAQ S=none by unfold zAQ;rw [hcf]);obtain ⟨_,⟨c0,z0,c1,z1,c2,z2,c3,z3⟩,HK⟩:=KEY.out s X2 hx hg;clear hc hcf hx hg KEY SOME;go_wp2_with fail
  exact zCN rfl rfl rfl rfl (HK.out _ _ _ _).1 Tryz.underlying29 rfl (by kernel_rfl) rfl (NONE.out HN.out _ _ rfl ⟨_,(HK.out _ _ _ _).2.1⟩ (HK.out _ _ _ _).2.2)
 | some p =>
  obtain ⟨f,r⟩:=p;obtain ⟨rfl,hx,hg⟩:=zGk hc hcf;obtain ⟨_,⟨c0,z0,c1,z1,c2,z2,c3,z3⟩,HK⟩:=KEY.out _ X2 hx hg;obtain ⟨ix,hix⟩:∃x,zAG F.L f=x:=⟨_,rfl⟩
  rw [hix];have HIX:=qH hix;have n0:=zAF r [];clear hc hx hg KEY hix
  cases r with
  | nil =>
   rw [show (([]:List UInt8)==[])=true from rfl] at n0;have HN:=qH (show zAQ S=none by unfold zAQ;rw [hcf]);clear hcf SOME;go_wp2_with fail
   exact zCN rfl rfl rfl rfl (HK.out _ _ _ _).1 Tryz.underlying29 rfl (by kernel_rfl) rfl (NONE.out HN.out _ _ rfl ⟨_,(HK.out _ _ _ _).2.1⟩ (HK.out _ _ _ _).2.2)
  | cons x r =>
   rw [show (x :: r==([]:List UInt8))=false from rfl] at n0;have t1:=zDq x r;have t2:=zGd x r;by_cases h1:x=110
   ·have HS:=qH (show zAQ S=some (f,false,r) by unfold zAQ;rw [hcf];simp only;rw [if_pos h1]);subst h1;rw [show (((110:UInt8).toNat:Nat):Int)=110 from rfl] at t1;clear hcf NONE;go_wp2_with fail
    go_region
    go_wp2_with fail
    exact zCN rfl rfl rfl rfl (HK.out _ _ _ _).1.drew Tryz.underlying29 rfl (by kernel_rfl) rfl (SOME.out f false r HS.out _ _ (by first | (rw [HIX.out];done) | (rw [HIX.out];rfl)) ((HK.out _ _ _ _).2.1.below (Below.refl _ _).drew) (zBB (HK.out _ _ _ _).2.2))
   ·by_cases h2:x=102
    ·have HS:=qH (show zAQ S=some (f,true,r) by unfold zAQ;rw [hcf];simp only;rw [if_neg h1,if_pos h2]);subst h2;rw [show (((102:UInt8).toNat:Nat):Int)=102 from rfl] at t1;clear hcf NONE h1;go_wp2_with fail
     go_region
     go_wp2_with fail
     exact zCN rfl rfl rfl rfl (HK.out _ _ _ _).1.drew Tryz.underlying29 rfl (by kernel_rfl) rfl (SOME.out f true r HS.out _ _ (by first | (rw [HIX.out];done) | (rw [HIX.out];rfl)) ((HK.out _ _ _ _).2.1.below (Below.refl _ _).drew) (zBB (HK.out _ _ _ _).2.2))
    ·have k1:((x.toNat:Int) != 110)=true:=by
      simp only [bne_iff_ne,ne_eq];intro e;exact h1 (UInt8.toNat.inj (show x.toNat=110 by omega))
     have k2:((x.toNat:Int) != 102)=true:=by
      simp only [bne_iff_ne,ne_eq];intro e;exact h2 (UInt8.toNat.inj (show x.toNat=102 by omega))
     have HN:=qH (show zAQ S=none by unfold zAQ;rw [hcf];simp only;rw [if_neg h1,if_neg h2]);clear hcf SOME h1 h2;go_wp2_with fail
     exact zCN rfl rfl rfl rfl (HK.out _ _ _ _).1 Tryz.underlying29 rfl (by kernel_rfl) rfl (NONE.out HN.out _ _ rfl ⟨_,(HK.out _ _ _ _).2.1⟩ (HK.out _ _ _ _).2.2)
def zop:Og:=⟨0,0,s0,[],false⟩
def zBW (w0:World) (rb:Nat) (F:Fm) (s:RS) (S:List UInt8) (e:Ending) (w':World):Prop :=
 (∃n,zAy S=some n∧∃B m d,e=.returned (opV (oOf F.L n) B m d)∧Row w' w0.heap.size 5 B m d ((oOf F.L n).path.flatMap zCj)∧m=(oOf F.L n).path.length∧RX w' rb F ⟨s.T,s.bad,s.lost||zAx F.L n⟩∧w0.grownBy w' (some rb))
 ∨ (zAy S=none∧e=.returned (opV zop none 0 0)∧(∃l,RX w' rb F ⟨s.T,true,l⟩)∧w0.grownBy w' (some rb))
abbrev opT:TypeId:=32
abbrev zC:Array Value:=#[.int .i64 0,.int .i64 0,.int .i64 0,.int .i64 0,.bool false,.int .i64 0,.slice none 0 0,.bool false]
def zOW (f:Fg) (P:Option (List (Nst×Bool)×Nst)):Option Nop:=match P with | some (Q,x)=>some ⟨3,f,some x,Q,false⟩ | none=>none
def zDC (n:Nop) (P:Option (Bool×List UInt8)):Option Nop:=match P with | some (b,[])=>some ⟨n.kind,n.f,n.fr,n.path,b⟩ | _=>none
def zQX (n:Nop) (r:List UInt8):Option Nop:=if r=[] then some n else none
def Sc0 (w:World) (rb a0:Nat) (F:Fm) (s:RS) (S:List UInt8) (X:World):Prop :=
 (∃lo,RX X rb F ⟨s.T,s.bad,lo⟩)∧Blk X a0 opT zC∧w.grownBy X (some rb)∧zAy S=none
def Sc1 (w:World) (rb a0 a1:Nat) (F:Fm) (s:RS) (S:List UInt8) (X:World) (r:List UInt8) (n:Nop) (k f ff:Int) (far:Bool):Prop :=
 RX X rb F ⟨s.T,s.bad,s.lost||zAx F.L n⟩∧Blk X a0 opT zC∧Blk X a1 opT #[.int .i64 k,.int .i64 f,.int .i64 ff,.int .i64 0,.bool far,.int .i64 0,.slice none 0 0,.bool false]∧w.grownBy X (some rb) ∧
  zAy S=zDC n (zCx r)∧n.path=[]∧∀b,oOf F.L ⟨n.kind,n.f,n.fr,n.path,b⟩=⟨k,f,⟨ff,0,far,0⟩,[],b⟩
def Sc2 (w:World) (rb a0 a1 a2:Nat) (F:Fm) (s:RS) (S:List UInt8) (X:World) (r:List UInt8) (f:Fg) (fi:Int) (P:List (Nst×Bool)) (Ps:List Sp) (B:Option Addr) (m d N:Nat) (x0 x1 x3:Int) (x2:Bool):Prop :=
 RX X rb F ⟨s.T,s.bad,s.lost||zAW F.L f||zAO F.L P⟩∧Blk X a0 opT zC∧Blk X a1 opT #[.int .i64 3,.int .i64 fi,.int .i64 0,.int .i64 0,.bool false,.int .i64 0,.slice B m d,.bool false] ∧
  Blk X a2 29 #[.int .i64 x0,.int .i64 x1,.bool x2,.int .i64 x3]∧w.grownBy X (some rb)∧Row X (a2+1) 5 B m d (Ps.flatMap zCj)∧m=Ps.length∧Ps=P.map (pOf F.L)∧fi=(zAG F.L f:Int) ∧
  m+r.length≤S.length∧r.length < N∧zAy S=zOW f (zFs N P r)
def Sc3 (w:World) (rb a0 a1:Nat) (F:Fm) (s:RS) (S:List UInt8) (X:World) (r:List UInt8) (n:Nop) (k f ff:Int) (far over:Bool) (path:List Sp) (B:Option Addr) (m d:Nat):Prop :=
 RX X rb F ⟨s.T,s.bad,s.lost||zAx F.L n⟩∧Blk X a0 opT zC∧Blk X a1 opT #[.int .i64 k,.int .i64 f,.int .i64 ff,.int .i64 0,.bool far,.int .i64 0,.slice B m d,.bool over]∧w.grownBy X (some rb) ∧
  Row X (a1+1) 5 B m d (path.flatMap zCj)∧m=path.length∧oOf F.L n=⟨k,f,⟨ff,0,far,0⟩,path,over⟩∧zAy S=zQX n r
def zCs (w:World) (rb a0 a1 a2:Nat) (F:Fm) (s:RS) (S:List UInt8) (l q:Nat) (X:World) (r:List UInt8):Prop :=
 (l=0∧q=1∧Sc0 w rb a0 F s S X)
 ∨ (l=1∧q=3∧∃n k f ff far,Sc1 w rb a0 a1 F s S X r n k f ff far)
 ∨ (l=2∧q=10+r.length∧∃f fi P Ps B m d N x0 x1 x3 x2,Sc2 w rb a0 a1 a2 F s S X r f fi P Ps B m d N x0 x1 x3 x2)
 ∨ (l=3∧q=2∧∃n k f ff far over path B m d,Sc3 w rb a0 a1 F s S X r n k f ff far over path B m d)
abbrev zJW (rb a0 a1 a2:Nat) (a:Act) (r:List UInt8):Prop :=
 a.tmps.size=136∧a.tmps.getD 0 undef=.pointer (some ⟨rb,0,none⟩)∧a.tmps.getD 1 undef=.string (bA r)∧a.tmps.getD 4 undef=.pointer (some ⟨a0,0,none⟩)∧a.tmps.getD 5 undef=.pointer (some ⟨a1,0,none⟩)∧a.tmps.getD 7 undef=.pointer (some ⟨a2,0,none⟩)∧a.defers=[]
theorem zEQ (S:List UInt8):zFZ S=match zCx S with | some (b,r)=>(b,r,true) | none=>(false,S,false):=by
 cases S with
 | nil=>rfl
 | cons x r =>
  by_cases h1:x=111
  ·simp [zFZ,zCx,h1]
  ·by_cases h2:x=117
   ·simp [zFZ,zCx,h2]
   ·simp [zFZ,zCx,h1,h2]
theorem zQY (b:UInt8):Lib.indexByte [32,45,94,60,126,61,42,37,33] b=if b=32 then 0 else if zAD b=0 then -1 else zAD b:=by
 by_cases h0:b=32
 ·subst h0;decide
 rw [if_neg h0];by_cases h:zAD b=0
 ·rw [if_pos h];refine zNW fun hm=>?_
  simp only [List.mem_cons,List.not_mem_nil,or_false] at hm;rcases hm with rfl | rfl | rfl | rfl | rfl | rfl | rfl | rfl | rfl
  ·exact h0 rfl
  all_goals exact absurd h (by decide)
 ·rw [if_neg h];have hb:=(zDw h).2.2;obtain ⟨h1,h8,_⟩:=zDw h;have hk:zAD b=1∨zAD b=2∨zAD b=3∨zAD b=4∨zAD b=5∨zAD b=6∨zAD b=7∨zAD b=8:=by omega
  rcases hk with e | e | e | e | e | e | e | e<;>rw [e] at hb ⊢<;>(have hbb:_=b:=List.head_eq_of_cons_eq hb;rw [←hbb];decide)
theorem zIS (b:UInt8) (w:World):Calls Tryz.prog 161 #[.string ⟨#[32,45,94,60,126,61,42,37,33]⟩,.int .u8 b.toNat] w fun e w'=>e=.returned (.int .i64 (if b=32 then 0 else if zAD b=0 then -1 else zAD b))∧w'=w:=by
 refine (Tryz.strings_IndexByte ⟨#[32,45,94,60,126,61,42,37,33]⟩ b.toNat w).mono ?_;rintro e w' ⟨rfl,rfl⟩;refine ⟨?_,rfl⟩;rw [←zQY]
 congr 3
 simp
theorem zLi (S:List UInt8):zAy S=match zFk S with
 | some (f,b :: r)=>if zAD b=0 then none
  else if zAD b=4 then zDC ⟨4,f,none,[],false⟩ (zCx r)
  else if zAD b=3 then zOW f (zFs (r.length+1) [] r)
  else if zAD b=5 then (match zAQ r with | some (g,far,r2)=>zDC ⟨5,f,some ⟨g,0,far,0⟩,[],false⟩ (zCx r2) | none=>none)
  else if zAD b=6∨zAD b=7 then (match zFk r with | some (g,r2)=>zDC ⟨zAD b,f,some ⟨g,0,false,0⟩,[],false⟩ (zCx r2) | none=>none)
  else zQX ⟨zAD b,f,none,[],false⟩ r
 | _=>none:=by
 unfold zAy
 cases zFk S with
 | none=>rfl
 | some p =>
  obtain ⟨f,q⟩:=p
  cases q with
  | nil=>rfl
  | cons b r =>
   simp only;by_cases e0:zAD b=0
   ·rw [if_neg (by omega),if_neg (by omega),if_neg (by omega),if_neg (by omega),if_pos e0,if_pos e0]
   rw [if_neg e0,if_neg e0];by_cases e4:zAD b=4
   ·rw [if_pos e4,if_pos e4];unfold zQO zDC;split<;>simp_all
   rw [if_neg e4,if_neg e4];by_cases e3:zAD b=3
   ·rw [if_pos e3,if_pos e3];rfl
   rw [if_neg e3,if_neg e3];by_cases e5:zAD b=5
   ·rw [if_pos e5,if_pos e5];unfold zQP zDC;split
    ·rename_i g far r2 h;rw [h];split<;>simp_all
    ·rename_i h;rw [h]
   rw [if_neg e5,if_neg e5];by_cases e6:zAD b=6∨zAD b=7
   ·rw [if_pos e6,if_pos e6];unfold zQQ zDC;split
    ·rename_i g r2 h;rw [h];split<;>simp_all
    ·rename_i h;rw [h]
   rw [if_neg e6,if_neg e6];rfl
end Go.Proofs.YtlmdfmnbcndhoaaGreatDoor
