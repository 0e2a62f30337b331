/-
  Lemmas, part 20. Conditions: each theorem's own.
-/
import Derived.Test.YtlmdfmnbcndhoaaGreatDoorRc18
import Derived.Test.YtlmdfmnbcndhoaaGreatDoorRc19
import Derived.Test.YtlmdfmnbcndhoaaGreatDoorRc15
open Option renaming none→U,some→Z
open Go.Value renaming bool→G,int→D,slice→H,string→W
open Go.IntKind renaming i64→J
open Bool renaming false→E,true→Q
namespace Go.Proofs.YtlmdfmnbcndhoaaGreatDoor
open Go.RowKit
theorem zPH (rb:Nat) (F:Fm) (s:RS) (w:World) (h:RX w rb F s) (hT:s.T.length≤100000) :
  Calls Tryz.prog 98 #[.pointer (Z ⟨rb,0,U⟩)] w (zEP w rb F (opR F.L s).1 (opR F.L s).2):=by
 by_cases h3:zBP (xa s.T 0)=3
 ·exact zLR rb F s w h hT h3
 by_cases h6:zBP (xa s.T 0)=6∨zBP (xa s.T 0)=7
 ·exact zLT rb F s w h hT h6
 ·exact zLS rb F s w h hT ⟨h3,fun e=>h6 (.inl e),fun e=>h6 (.inr e)⟩
def zAw (L:List Fg) (re lo:Int) (S:List UInt8):Int:=if frB L re lo then (if 8000 < S.length then 7 else 0) else 2
theorem zDx (A:Option Addr) (n c:Nat) (L:List Fg) (re lo:Int) (S:List UInt8) (w:World) (hA:Fgs w A n L) (hc:n≤c) :
  Calls Tryz.prog 51 #[frV A n c re lo,W (bA S)] w fun e w'=>e=.returned (D J (zAw L re lo S))∧Below w.heap.size w w':=by
 obtain ⟨b,hb⟩:∃b,frB L re lo=b:=⟨_,rfl⟩
 have hs:=zCU S;obtain ⟨n1,lr⟩:∃n,S.length=n:=⟨_,rfl⟩
 have HR:=qH (show zAw L re lo S=if b then (if 8000 < n1 then 7 else 0) else 2 by unfold zAw;rw [hb,lr]);rw [lr] at hs;have aa:Below w.heap.size w (w.alloc (.cells #[H A n c,D J re,D J lo] 24)):=(Below.refl _ _).alloc (Nat.le_refl _) _;have HV:=qH (zFh hb A n c _ (hA.below aa) hc);have HB:=qH aa;clear hb lr aa;go_enter Tryz.func51,Tryz.ntmps51;go_wp2_with fail
 refine HV.out.mono ?_;rintro e w2 ⟨rfl,ab⟩;have lS:=qH (zAa HB.out ab HB.out.size);clear ab HV HB
 cases b with
 | false =>
  go_wp2_with fail
  go_ret;exact ⟨by rw [HR.out];rfl,lS.out⟩
 | true =>
  by_cases h8:8000 < n1
  ·have i0:(8000:Int) < (n1:Int):=by omega
   have jR:=qH (HR.out.trans (show _=(7:Int) by rw [if_pos rfl,if_pos h8]));clear h8 HR;go_wp2_with fail
   go_ret;exact ⟨by rw [jR.out];rfl,lS.out⟩
  ·have i0:¬(8000:Int) < (n1:Int):=by omega
   have jR:=qH (HR.out.trans (show _=(0:Int) by rw [if_pos rfl,if_neg h8]));clear h8 HR;go_wp2_with fail
   go_ret;exact ⟨by rw [jR.out];rfl,lS.out⟩
noncomputable def zRX (L:List Fg) (S:List UInt8):Bool:=(opR L ⟨zBD S,E,E⟩).2.bad||!(opR L ⟨zBD S,E,E⟩).2.T.isEmpty
noncomputable def zVK (L:List Fg) (S:List UInt8):Bool:=(opR L ⟨zBD S,E,E⟩).2.lost
noncomputable def zEQ (L:List Fg) (S:List UInt8):Int:=if zRX L S then 6 else if zVK L S then 8 else 0
def o0:Og:=⟨0,0,s0,[],E⟩
noncomputable def zHI (L:List Fg) (S:List UInt8):Og:=if zEQ L S=0 then (opR L ⟨zBD S,E,E⟩).1 else o0
def zWl (w0:World) (o:Og) (er:Int) (e:Ending) (w':World):Prop :=
 ∃B m d,e=.returned (.tuple #[opV o B m d,D J er])∧Row w' w0.heap.size 5 B m d (o.path.flatMap zIg)∧m=o.path.length∧Below w0.heap.size w0 w'
theorem zXh (A:Option Addr) (n c:Nat) (re lo:Int) (B:Option Addr) (m d:Nat) (w:World):(Instr.build 123 #[(0,.agg #[H A n c,D J re,D J lo]),(1,H B m d)]).run Tryz.prog w=.ok (.agg (rdC A n c re lo B m d E E)) w:=run_build w _ _ _ (by kernel_rfl)
theorem zAQ {a b:World} (h:Below a.heap.size a b) (o:Obj):Below a.heap.size a (b.alloc o):=h.alloc h.size o
set_option maxHeartbeats 6400000 in
theorem zHJ (F:Fm) (S:List UInt8) (w:World) (hA:Fgs w F.A F.n F.L) (hS:S.length≤20000) (ht:Tabs w) :
  Calls Tryz.prog 52 #[frV F.A F.n F.c F.re F.lo,W (bA S)] w (zWl w (zHI F.L S) (zEQ F.L S)):=by
 have aa:Below w.heap.size w ((w.alloc (.cells #[H F.A F.n F.c,D J F.re,D J F.lo] 24)).alloc (.cells #[D J 0,D J 0,D J 0,D J 0,G E,D J 0,H U 0 0,G E] 32)):=((Below.refl _ _).alloc (Nat.le_refl _) _).alloc (by simp) _;have hk0:Blk ((w.alloc (.cells #[H F.A F.n F.c,D J F.re,D J F.lo] 24)).alloc (.cells #[D J 0,D J 0,D J 0,D J 0,G E,D J 0,H U 0 0,G E] 32)) w.heap.size 24 #[H F.A F.n F.c,D J F.re,D J F.lo]:=(Blk.new w _ _).alloc _;have ag:Blk ((w.alloc (.cells #[H F.A F.n F.c,D J F.re,D J F.lo] 24)).alloc (.cells #[D J 0,D J 0,D J 0,D J 0,G E,D J 0,H U 0 0,G E] 32)) (w.heap.size+1) 32 #[D J 0,D J 0,D J 0,D J 0,G E,D J 0,H U 0 0,G E]:=by
  have:=Blk.new (w.alloc (.cells #[H F.A F.n F.c,D J F.re,D J F.lo] 24)) 32 #[D J 0,D J 0,D J 0,D J 0,G E,D J 0,H U 0 0,G E]
  rwa [World.size_alloc] at this
 have HA:=qH hA;have HT:=qH ht;have fS:=qH (fun wx (hx:Tabs wx)=>zLU S (by omega) wx hx);obtain ⟨a1,cd⟩:∃a,a=w.heap.size+1:=⟨_,rfl⟩
 have iO:=qH cd;clear hA ht;go_enter Tryz.func52,Tryz.ntmps52;go_wp2_with fail
 generalize (w.alloc (.cells #[H F.A F.n F.c,D J F.re,D J F.lo] 24)).alloc (.cells #[D J 0,D J 0,D J 0,D J 0,G E,D J 0,H U 0 0,G E] 32)=Y at aa hk0 ag ⊢;rw [←cd] at ag ⊢;clear cd
 have KP:=qH (show ∀wx,Below Y.heap.size Y wx→(Below Y.heap.size Y wx∧wx.cell? ⟨w.heap.size,0,U⟩=Z (H F.A F.n F.c)∧wx.cell? ⟨w.heap.size,1,U⟩=Z (D J F.re)∧wx.cell? ⟨w.heap.size,2,U⟩=Z (D J F.lo)) from
  fun wx h=>⟨h,((hk0.below h hk0.lt).cell 0).trans rfl,((hk0.below h hk0.lt).cell 1).trans rfl,((hk0.below h hk0.lt).cell 2).trans rfl⟩)
 have TB:=qH (fun wx (h:Below Y.heap.size Y wx)=>HT.out.below (zAa aa h aa.size));go_upto_region 1 with fail
 first
  | go_region_held3 (fun wx=>Below Y.heap.size Y wx∧wx.cell? ⟨w.heap.size,0,U⟩=Z (H F.A F.n F.c)∧wx.cell? ⟨w.heap.size,1,U⟩=Z (D J F.re)∧wx.cell? ⟨w.heap.size,2,U⟩=Z (D J F.lo)) (first | assumption | exact KP.out _ (Below.refl _ _).drew | exact KP.out _ (zAa (Below.refl Y.heap.size Y).drew (by assumption) (Nat.le_refl _)) | exact KP.out _ (zAQ (zAa (Below.refl Y.heap.size Y).drew (by assumption) (Nat.le_refl _)) _))
    (first
     | (go_at_call 97;refine (fS.out _ (TB.out _ (And.left (by assumption)))).mono ?_;rintro e wa ⟨B,m,d,rfl,nI,hma,hba⟩))
  | fail
 all_goals
  have hbx:Below Y.heap.size Y wa:=zAa (Below.refl Y.heap.size Y).drew hba (Nat.le_refl _);have hbz:Below Y.heap.size Y (wa.alloc (.cells (rdC F.A F.n F.c F.re F.lo B m d E E) 123)):=zAQ hbx _;have hwz:Below w.heap.size w (wa.alloc (.cells (rdC F.A F.n F.c F.re F.lo B m d E E) 123)):=zAa aa hbz aa.size;have hbl:=(Below.refl wa.heap.size wa).alloc (Nat.le_refl _) (.cells (rdC F.A F.n F.c F.re F.lo B m d E E) 123)
  have hrx:RX (wa.alloc (.cells (rdC F.A F.n F.c F.re F.lo B m d E E) 123)) wa.heap.size F ⟨zBD S,E,E⟩ :=
   ⟨⟨B,m,d,Blk.new _ _ _,Els.below (nI.txts (by omega)) hbl,nI.cap,fun k hk=>(nI.lt k hk).2⟩,HA.out.below hwz,fun h0 k hk=>by
    obtain ⟨g,o,e,hg,_⟩:=HA.out.1.2.2 h0
    rw [e] at hk
    injection hk with hk
    have fO:g=k:=hk
    have h1:=aa.size
    have h2:=hbx.size
    omega⟩
  have hkz:=ag.below hbz ag.lt;have sX:a1 < wa.heap.size:=Nat.lt_of_lt_of_le ag.lt hbx.size;have pd:(zBD S).length≤100000:=by have:=zGa S;omega
  clear hba nI hma hbl hbz hbx hk0 ag KP TB fS;generalize wa.alloc (.cells (rdC F.A F.n F.c F.re F.lo B m d E E) 123)=ZU at hrx hkz hwz ⊢;have yl:Hid (a1 < ZU.heap.size):=qH (Nat.lt_trans sX hrx.lt);generalize wa.heap.size=rb at hrx sX ⊢;have gn:=zPH rb F ⟨zBD S,E,E⟩ ZU hrx pd;obtain ⟨ov,eov⟩:∃x,(opR F.L ⟨zBD S,E,E⟩).1=x:=⟨_,rfl⟩
  obtain ⟨st,est⟩:∃x,(opR F.L ⟨zBD S,E,E⟩).2=x:=⟨_,rfl⟩
  rw [eov,est] at gn;have HOP:=qH gn;have EOV:=qH eov;have DP:=qH est;clear gn eov est pd;go_wp2_with fail
  refine HOP.out.mono ?_;rintro e Z2 ⟨B2,m2,d2,rfl,hrow,da,jp,bG⟩;have jT:=qH da;clear da;obtain ⟨kk,ff,⟨gf,gl,gfar,gpc⟩,path,vov⟩:=ov;obtain ⟨B3,m3,d3,be,uO,Bf,Bd⟩:=jp.rd.ex;have sF:Below w.heap.size w Z2:=zAa hwz (zBU bG (show w.heap.size≤rb by have:=iO.out;omega) hwz.size) (Nat.le_refl _);have tb:=hkz.grown bG (fun he=>by injection he with he;omega);have b3:Below Z2.heap.size Z2 (Z2.alloc (.cells #[D J kk,D J ff,D J gf,D J gl,G gfar,D J gpc,H B2 m2 d2,G vov] 32)):=(Below.refl _ _).alloc (Nat.le_refl _) _;have bU:=tb.below b3 tb.lt;have oS:=be.below b3 be.lt;have oT:Blk (Z2.alloc (.cells #[D J kk,D J ff,D J gf,D J gl,G gfar,D J gpc,H B2 m2 d2,G vov] 32)) Z2.heap.size 32 #[D J kk,D J ff,D J gf,D J gl,G gfar,D J gpc,H B2 m2 d2,G vov]:=Blk.new _ _ _;have oR:=zAa sF b3 sF.size;have nw:=hrow.below b3;have oW:st.T.length=m3:=uO.len;obtain ⟨b4,CU⟩:∃b,st.bad=b:=⟨_,rfl⟩
  obtain ⟨b5,CT⟩:∃b,st.lost=b:=⟨_,rfl⟩
  rw [CU,CT] at oS;have pE:=qH (show zRX F.L S=(b4||!decide (m3=0)) by unfold zRX;rw [DP.out,CU,←oW];cases st.T<;>simp);have cu:=qH (show zVK F.L S=b5 by unfold zVK;rw [DP.out,CT]);clear uO Bf Bd be b3 tb hkz hwz bG jp hrow sF oW CU CT DP sX;go_upto_region 3 with fail
  generalize Z2.alloc (.cells #[D J kk,D J ff,D J gf,D J gl,G gfar,D J gpc,H B2 m2 d2,G vov] 32)=Z3 at bU oS oT oR nw ⊢;generalize Z2.heap.size=a7 at oT ⊢;obtain ⟨-,-,-,c3,c4,c5⟩:=cQ6 oS;have y0:Z3.cell? ⟨a1,0,U⟩=Z (D J 0):=(bU.cell 0).trans rfl;have iU:=bU.frozen 0;have y1:Z3.cell? ⟨a1,1,U⟩=Z (D J 0):=(bU.cell 1).trans rfl;have iT:=bU.frozen 1;have y2:Z3.cell? ⟨a1,2,U⟩=Z (D J 0):=(bU.cell 2).trans rfl;have j9:=bU.frozen 2;have y3:Z3.cell? ⟨a1,3,U⟩=Z (D J 0):=(bU.cell 3).trans rfl;have j8:=bU.frozen 3;have y4:Z3.cell? ⟨a1,4,U⟩=Z (G E):=(bU.cell 4).trans rfl;have j7:=bU.frozen 4;have y5:Z3.cell? ⟨a1,5,U⟩=Z (D J 0):=(bU.cell 5).trans rfl;have j6:=bU.frozen 5;have y6:Z3.cell? ⟨a1,6,U⟩=Z (H U 0 0):=(bU.cell 6).trans rfl;have j5:=bU.frozen 6;have y7:Z3.cell? ⟨a1,7,U⟩=Z (G E):=(bU.cell 7).trans rfl;have jZ:=bU.frozen 7;obtain ⟨f0,f1,f2,f3,f4,f5,f6,f7⟩:=cQ8 oT;have hge:w.heap.size≤a1:=by have:=iO.out;omega
  have SZ:=qH (bU.store8 (D J 0) (D J 0) (D J 0) (D J 0) (G E) (D J 0) (H U 0 0) (G E));have BZ:=qH (zAh oR hge (D J 0) (D J 0) (D J 0) (D J 0) (G E) (D J 0) (H U 0 0) (G E));have SV:=qH (bU.store8 (D J kk) (D J ff) (D J gf) (D J gl) (G gfar) (D J gpc) (H B2 m2 d2) (G vov));have BV:=qH (zAh oR hge (D J kk) (D J ff) (D J gf) (D J gl) (G gfar) (D J gpc) (H B2 m2 d2) (G vov));have sW:a1 < ZU.heap.size:=yl.out;have RV:=qH ((nw.store8 sW (D J kk) (D J ff) (D J gf) (D J gl) (G gfar) (D J gpc) (H B2 m2 d2) (G vov)).mono (Nat.le_of_lt (Nat.lt_of_le_of_lt hge sW)));clear bU oS oT oR nw sW hge;by_cases hbd:b4=Q∨¬m3=0
  ·have HE:=qH (show zEQ F.L S=6 by unfold zEQ;rw [pE.out];rcases hbd with h | h<;>simp [h]);have HO:=qH (show zHI F.L S=o0 by unfold zHI;rw [HE.out];rfl)
   cases b4 with
   | true =>
    clear hbd c3 c5;go_wp2_with fail
    exact zBo rfl rfl rfl SZ.out Tryz.underlying32 rfl (by kernel_rfl) rfl (by rw [HE.out,HO.out];exact ⟨U,0,0,rfl,Row.none_ _ _ _,rfl,BZ.out⟩)
   | false =>
    have i1:0 < m3:=by have:=hbd.resolve_left (by simp);omega
    clear hbd c5;go_wp2_with fail
    exact zBo rfl rfl rfl SZ.out Tryz.underlying32 rfl (by kernel_rfl) rfl (by rw [HE.out,HO.out];exact ⟨U,0,0,rfl,Row.none_ _ _ _,rfl,BZ.out⟩)
  ·have aj:b4=E:=by cases b4<;>simp at hbd ⊢
   subst aj;have hm0:m3=0:=by simpa using hbd
   subst hm0;clear hbd
   cases b5 with
   | true =>
    have HE:=qH (show zEQ F.L S=8 by unfold zEQ;rw [pE.out,cu.out];rfl);have HO:=qH (show zHI F.L S=o0 by unfold zHI;rw [HE.out];rfl);go_wp2_with fail
    exact zBo rfl rfl rfl SZ.out Tryz.underlying32 rfl (by kernel_rfl) rfl (by rw [HE.out,HO.out];exact ⟨U,0,0,rfl,Row.none_ _ _ _,rfl,BZ.out⟩)
   | false =>
    have HE:=qH (show zEQ F.L S=0 by unfold zEQ;rw [pE.out,cu.out];rfl);have HO:=qH (show zHI F.L S=⟨kk,ff,⟨gf,gl,gfar,gpc⟩,path,vov⟩ by unfold zHI;rw [HE.out,if_pos rfl];exact EOV.out);go_wp2_with fail
    exact zBo rfl rfl rfl SV.out Tryz.underlying32 rfl (by kernel_rfl) rfl (by rw [HE.out,HO.out];exact ⟨B2,m2,d2,rfl,RV.out,jT.out,BV.out⟩)
noncomputable def rdE (L:List Fg) (re lo:Int) (S:List UInt8):Int:=if zAw L re lo S=0 then zEQ L S else zAw L re lo S
noncomputable def rdO (L:List Fg) (re lo:Int) (S:List UInt8):Og:=if zAw L re lo S=0 then zHI L S else o0
theorem zCh {L:List Fg} {re lo:Int} {S:List UInt8} (h:zAw L re lo S=0):S.length≤8000∧frB L re lo=Q:=by
 unfold zAw at h;split at h
 ·rename_i h1;split at h
  ·omega
  ·exact ⟨by omega,h1⟩
 ·omega
theorem zER (L:List Fg) (re lo:Int) (S:List UInt8):zAw L re lo S=0∨zAw L re lo S=2∨zAw L re lo S=7:=by
 unfold zAw;split
 ·split<;>omega
 ·omega
set_option maxHeartbeats 6400000 in
theorem zHK (F:Fm) (S:List UInt8) (w:World) (hA:Fgs w F.A F.n F.L) (hc:F.n≤F.c) (ht:Tabs w) :
  Calls Tryz.prog 17 #[frV F.A F.n F.c F.re F.lo,W (bA S)] w (zWl w (rdO F.L F.re F.lo S) (rdE F.L F.re F.lo S)):=by
 have aa:Below w.heap.size w ((w.alloc (.cells #[H F.A F.n F.c,D J F.re,D J F.lo] 24)).alloc (.cells #[D J 0,D J 0,D J 0,D J 0,G E,D J 0,H U 0 0,G E] 32)):=((Below.refl _ _).alloc (Nat.le_refl _) _).alloc (by simp) _;have hk0:Blk ((w.alloc (.cells #[H F.A F.n F.c,D J F.re,D J F.lo] 24)).alloc (.cells #[D J 0,D J 0,D J 0,D J 0,G E,D J 0,H U 0 0,G E] 32)) w.heap.size 24 #[H F.A F.n F.c,D J F.re,D J F.lo]:=(Blk.new w _ _).alloc _;have ag:Blk ((w.alloc (.cells #[H F.A F.n F.c,D J F.re,D J F.lo] 24)).alloc (.cells #[D J 0,D J 0,D J 0,D J 0,G E,D J 0,H U 0 0,G E] 32)) (w.heap.size+1) 32 #[D J 0,D J 0,D J 0,D J 0,G E,D J 0,H U 0 0,G E]:=by
  have:=Blk.new (w.alloc (.cells #[H F.A F.n F.c,D J F.re,D J F.lo] 24)) 32 #[D J 0,D J 0,D J 0,D J 0,G E,D J 0,H U 0 0,G E]
  rwa [World.size_alloc] at this
 have HA:=qH hA;have HT:=qH ht;obtain ⟨ZT,hE⟩:∃ZT,zAw F.L F.re F.lo S=ZT:=⟨_,rfl⟩
 have hcs:=zER F.L F.re F.lo S;rw [hE] at hcs;have fz:=qH (fun wx (hx:Fgs wx F.A F.n F.L)=>zDx F.A F.n F.c F.L F.re F.lo S wx hx hc);simp only [hE] at fz;have HE:=qH hE;obtain ⟨a1,cd⟩:∃a,a=w.heap.size+1:=⟨_,rfl⟩
 have hge:w.heap.size≤a1:=by omega
 have DC:=qH hge;clear hA ht hE hge;go_enter Tryz.func17,Tryz.ntmps17;go_wp2_with fail
 generalize ((w.alloc (.cells #[H F.A F.n F.c,D J F.re,D J F.lo] 24)).alloc (.cells #[D J 0,D J 0,D J 0,D J 0,G E,D J 0,H U 0 0,G E] 32))=Y at aa hk0 ag ⊢;rw [←cd] at ag ⊢;clear cd;refine (fz.out Y (HA.out.below aa)).mono ?_;rintro e Y2 ⟨rfl,ab⟩;have hk2:=ag.below ab ag.lt;have aP:=hk0.below ab hk0.lt;have ac:=zAa aa ab aa.size;clear ag hk0 aa ab fz;by_cases h0:ZT=0
 ·subst h0;have hS:=(zCh HE.out).1;have HR:=qH (show rdE F.L F.re F.lo S=zEQ F.L S∧rdO F.L F.re F.lo S=zHI F.L S by unfold rdE rdO;rw [HE.out];exact ⟨rfl,rfl⟩);have iw:=qH (zHJ F S Y2 (HA.out.below ac) (by omega) (HT.out.below ac));obtain ⟨v0,v1,v2⟩:=cQ3 aP;clear hcs hS aP;go_wp2_with fail
  refine iw.out.mono ?_;rintro e Y3 ⟨B2,m2,d2,rfl,hrow,da,aj⟩;have jT:=qH da;have be:=hk2.below aj hk2.lt;have hlt2:a1 < Y2.heap.size:=hk2.lt;have ai:=zAa ac aj ac.size;have HO:=qH HR.out.2;obtain ⟨ov,eov⟩:∃x,zHI F.L S=x:=⟨_,rfl⟩
  rw [eov] at hrow jT HO ⊢;clear eov da;obtain ⟨kk,ff,⟨gf,gl,gfar,gpc⟩,path,vov⟩:=ov;have y0:Y3.cell? ⟨a1,0,U⟩=Z (D J 0):=(be.cell 0).trans rfl;have iU:=be.frozen 0;have y1:Y3.cell? ⟨a1,1,U⟩=Z (D J 0):=(be.cell 1).trans rfl;have iT:=be.frozen 1;have y2:Y3.cell? ⟨a1,2,U⟩=Z (D J 0):=(be.cell 2).trans rfl;have j9:=be.frozen 2;have y3:Y3.cell? ⟨a1,3,U⟩=Z (D J 0):=(be.cell 3).trans rfl;have j8:=be.frozen 3;have y4:Y3.cell? ⟨a1,4,U⟩=Z (G E):=(be.cell 4).trans rfl;have j7:=be.frozen 4;have y5:Y3.cell? ⟨a1,5,U⟩=Z (D J 0):=(be.cell 5).trans rfl;have j6:=be.frozen 5;have y6:Y3.cell? ⟨a1,6,U⟩=Z (H U 0 0):=(be.cell 6).trans rfl;have j5:=be.frozen 6;have y7:Y3.cell? ⟨a1,7,U⟩=Z (G E):=(be.cell 7).trans rfl;have jZ:=be.frozen 7;have SV:=qH (be.store8 (D J kk) (D J ff) (D J gf) (D J gl) (G gfar) (D J gpc) (H B2 m2 d2) (G vov));have BV:=qH (zAh ai DC.out (D J kk) (D J ff) (D J gf) (D J gl) (G gfar) (D J gpc) (H B2 m2 d2) (G vov));have RV:=qH ((hrow.store8 hlt2 (D J kk) (D J ff) (D J gf) (D J gl) (G gfar) (D J gpc) (H B2 m2 d2) (G vov)).mono (Nat.le_trans DC.out (Nat.le_of_lt hlt2)));have Fj:=HR.out.1;have HER:=qH Fj;clear hk2 ac aj ai be hrow v0 v1 v2 iw Fj HR hlt2;go_wp2_with fail
  exact zBo rfl rfl rfl SV.out Tryz.underlying32 rfl (by kernel_rfl) rfl (by rw [HER.out,HO.out];exact ⟨B2,m2,d2,rfl,RV.out,jT.out,BV.out⟩)
 ·have HR:=qH (show rdE F.L F.re F.lo S=ZT∧rdO F.L F.re F.lo S=o0 by unfold rdE rdO;rw [HE.out,if_neg h0,if_neg h0];exact ⟨rfl,rfl⟩);have SZ:=qH (hk2.store8 (D J 0) (D J 0) (D J 0) (D J 0) (G E) (D J 0) (H U 0 0) (G E));have BZ:=qH (zAh ac DC.out (D J 0) (D J 0) (D J 0) (D J 0) (G E) (D J 0) (H U 0 0) (G E));have y0:Y2.cell? ⟨a1,0,U⟩=Z (D J 0):=(hk2.cell 0).trans rfl;have iU:=hk2.frozen 0;have y1:Y2.cell? ⟨a1,1,U⟩=Z (D J 0):=(hk2.cell 1).trans rfl;have iT:=hk2.frozen 1;have y2:Y2.cell? ⟨a1,2,U⟩=Z (D J 0):=(hk2.cell 2).trans rfl;have j9:=hk2.frozen 2;have y3:Y2.cell? ⟨a1,3,U⟩=Z (D J 0):=(hk2.cell 3).trans rfl;have j8:=hk2.frozen 3;have y4:Y2.cell? ⟨a1,4,U⟩=Z (G E):=(hk2.cell 4).trans rfl;have j7:=hk2.frozen 4;have y5:Y2.cell? ⟨a1,5,U⟩=Z (D J 0):=(hk2.cell 5).trans rfl;have j6:=hk2.frozen 5;have y6:Y2.cell? ⟨a1,6,U⟩=Z (H U 0 0):=(hk2.cell 6).trans rfl;have j5:=hk2.frozen 6;have y7:Y2.cell? ⟨a1,7,U⟩=Z (G E):=(hk2.cell 7).trans rfl;have jZ:=hk2.frozen 7;rcases hcs.resolve_left h0 with rfl | rfl
  all_goals clear hk2 ac aP h0 hcs
  all_goals go_wp2_with fail
  all_goals exact zBo rfl rfl rfl SZ.out Tryz.underlying32 rfl (by kernel_rfl) rfl (by rw [HR.out.1,HR.out.2];exact ⟨U,0,0,rfl,Row.none_ _ _ _,rfl,BZ.out⟩)
theorem zTw {L:List Fg} (hL:L.length≤17592186043904) {n:Nop} (h:okN n):OgOk (oOf L n)∧∀x∈(oOf L n).path,SgOk x.s:=by
 have hx:∀f:Fg,(zAM L f:Int)≤17592186043904:=fun f=>by have:=zDo (f:=f) (L:=L);omega
 have hs:∀x:Nst,zCV x→SgOk (sOf L x):=fun x np=>by
  obtain ⟨_,h1,h2,h3,h4⟩:=np;have:=hx x.f;exact ⟨⟨by simp only [sOf];omega,by simp only [sOf];omega⟩,⟨by simp only [sOf];omega,by simp only [sOf];omega⟩,⟨by simp only [sOf];omega,by simp only [sOf];omega⟩⟩
 have lq:SgOk s0:=⟨⟨by simp [s0],by simp [s0]⟩,⟨by simp [s0],by simp [s0]⟩,⟨by simp [s0],by simp [s0]⟩⟩;obtain ⟨h1,h2⟩:=h;obtain ⟨k,f,fr,path,over⟩:=n;have hf:=hx f;unfold zKA at h2;simp only at h1 h2;have yT:∀x∈(List.map (pOf L) ([]:List (Nst×Bool))),SgOk x.s:=fun x hx=>by simp at hx
 rcases h2 with ⟨e,rfl,rfl,rfl⟩ | ⟨e,rfl,rfl⟩ | ⟨e,⟨x,rfl,np⟩,hp,rfl⟩ | ⟨e,⟨x,rfl,np⟩,rfl⟩ | ⟨e,⟨g,rfl,hg⟩,rfl⟩
 ·exact ⟨⟨⟨by simp only [oOf];omega,by simp only [oOf];omega⟩,⟨by simp only [oOf];omega,by simp only [oOf];omega⟩,lq⟩,yT⟩
 ·exact ⟨⟨⟨by simp only [oOf];omega,by simp only [oOf];omega⟩,⟨by simp only [oOf];omega,by simp only [oOf];omega⟩,lq⟩,yT⟩
 ·refine ⟨⟨⟨by simp only [oOf];omega,by simp only [oOf];omega⟩,⟨by simp only [oOf];omega,by simp only [oOf];omega⟩,hs x np⟩,fun y hy=>?_⟩;obtain ⟨z,hz,rfl⟩:=List.mem_map.1 hy;exact hs z.1 (hp z hz)
 ·exact ⟨⟨⟨by simp only [oOf];omega,by simp only [oOf];omega⟩,⟨by simp only [oOf];omega,by simp only [oOf];omega⟩,hs x np⟩,yT⟩
 ·have hgo:zCV ⟨g,0,E,0⟩:=⟨hg,by simp,by simp,by simp,by simp⟩;exact ⟨⟨⟨by simp only [oOf];omega,by simp only [oOf];omega⟩,⟨by simp only [oOf];omega,by simp only [oOf];omega⟩,hs _ hgo⟩,yT⟩
theorem zUB:OgOk o0∧∀x∈o0.path,SgOk x.s :=
 ⟨⟨⟨by simp [o0],by simp [o0]⟩,⟨by simp [o0],by simp [o0]⟩,⟨⟨by simp [o0,s0],by simp [o0,s0]⟩,⟨by simp [o0,s0],by simp [o0,s0]⟩,⟨by simp [o0,s0],by simp [o0,s0]⟩⟩⟩,fun x hx=>by simp [o0] at hx⟩
theorem zPI {L:List Fg} {S:List UInt8} (h:zRX L S=E):∃n,okN n∧S=zDH n∧(opR L ⟨zBD S,E,E⟩).1=oOf L n∧zVK L S=zAE L n:=by
 unfold zRX at h;simp only [Bool.or_eq_false_iff,Bool.not_eq_false',List.isEmpty_iff] at h;obtain ⟨n,h1,h2,h3,h4⟩:=zRP h.1 h.2;exact ⟨n,h1,zJt h2,h3,h4⟩
theorem zWm (L:List Fg) {n:Nop} (h:okN n):zRX L (zDH n)=E∧(opR L ⟨zBD (zDH n),E,E⟩).1=oOf L n∧zVK L (zDH n)=zAE L n:=by
 unfold zRX zVK;rw [zEm,zXA L h];exact ⟨rfl,rfl,rfl⟩
theorem zGS (L:List Fg) {n:Nop} (h:okN n):zEQ L (zDH n)=(if zAE L n then 8 else 0)∧zHI L (zDH n)=(if zAE L n then o0 else oOf L n):=by
 obtain ⟨h1,h2,h3⟩:=zWm L h;have he:zEQ L (zDH n)=(if zAE L n then 8 else 0):=by unfold zEQ;rw [h1,h3];rfl
 refine ⟨he,?_⟩;unfold zHI;rw [he,h2]
 cases zAE L n<;>rfl
theorem zML (L:List Fg) {S:List UInt8} (h:∀n,okN n→S≠zDH n):zEQ L S=6∧zHI L S=o0:=by
 have hb:zRX L S=Q:=by
  cases e:zRX L S with
  | true=>rfl
  | false =>
   obtain ⟨n,h1,h2,_⟩:=zPI e;exact absurd h2 (h n h1)
 have he:zEQ L S=6:=by unfold zEQ;rw [hb];rfl
 exact ⟨he,by unfold zHI;rw [he];rfl⟩
theorem zUC {L:List Fg} (hL:L.length≤17592186043904) (S:List UInt8):OgOk (zHI L S)∧∀x∈(zHI L S).path,SgOk x.s:=by
 by_cases h:∃n,okN n∧S=zDH n
 ·obtain ⟨n,h1,rfl⟩:=h;rw [(zGS L h1).2]
  cases zAE L n with
  | true=>exact zUB
  | false=>exact zTw hL h1
 ·rw [(zML L fun n h1 h2=>h ⟨n,h1,h2⟩).2];exact zUB
noncomputable def zBX (L:List Fg):List (List UInt8)→List Og→List Og×Nat×Int
 | [],O=>(O,O.length,0)
 | [p],O=>if p=[] then (O,O.length,0) else ([],O.length,6)
 | p :: q :: r,O=>if zEQ L p=0 then zBX L (q :: r) (O++[zHI L p]) else ([],O.length,zEQ L p)
theorem zJD {c:UInt8}:∀{R:List UInt8},c∈R→∃h r,R=h++c :: r∧c ∉ h
 | [],hc=>by simp at hc
 | x :: R,hc=>by
  by_cases e:x=c
  ·exact ⟨[],R,by rw [e];rfl,by simp⟩
  ·have hR:c∈R:=by
    rcases List.mem_cons.1 hc with h | h
    ·exact absurd h.symm e
    ·exact h
   obtain ⟨h,r,rfl,hh⟩:=zJD hR
   exact ⟨x :: h,r,rfl,fun hm=>by
    rcases List.mem_cons.1 hm with h1 | h1
    ·exact e h1.symm
    ·exact hh h1⟩
theorem zPJ (L:List Fg) (O:List Og):zBX L (zAN 10 []) O=(O,O.length,0):=rfl
theorem zNM (L:List Fg) {R:List UInt8} (h:(10:UInt8) ∉ R) (h0:R≠[]) (O:List Og):zBX L (zAN 10 R) O=([],O.length,6):=by
 rw [zEl h,zBX,if_neg h0]
theorem zNN (L:List Fg) {h r:List UInt8} (hc:(10:UInt8) ∉ h) (O:List Og):zBX L (zAN 10 (h++10 :: r)) O=if zEQ L h=0 then zBX L (zAN 10 r) (O++[zHI L h]) else ([],O.length,zEQ L h):=by
 rw [zCv hc]
 cases e:zAN 10 r with
 | nil=>exact absurd e (zFV 10 r)
 | cons q s=>rw [zBX]
structure OpsOwn (w:World) (base:Nat) (A:Option Addr) (n c:Nat) (Es:List Oe):Prop where
 row:Row w base 8 A n c (Es.flatMap zUb)
 ok:∀e∈Es,OgOk e.o∧Stps w e.A e.n e.o.path∧e.n≤e.c∧∀k,blk e.A=Z k→k < w.heap.size∧blk A≠Z k
section
variable {w w':World} {base:Nat} {A:Option Addr} {n c:Nat} {Es:List Oe}
theorem OpsOwn.none_ (w:World) (base:Nat):OpsOwn w base U 0 0 []:=⟨Row.none_ _ _ _,by simp⟩
theorem OpsOwn.below (h:OpsOwn w base A n c Es) (hb:Below w.heap.size w w'):OpsOwn w' base A n c Es :=
 ⟨h.row.below hb,fun e he=>by obtain ⟨h1,h2,h3,h4⟩:=h.ok e he;exact ⟨h1,h2.below hb,h3,fun k hk=>⟨Nat.lt_of_lt_of_le (h4 k hk).1 hb.size,(h4 k hk).2⟩⟩⟩
theorem OpsOwn.mono {base':Nat} (h:OpsOwn w base A n c Es) (hb:base'≤base):OpsOwn w base' A n c Es:=⟨h.row.mono hb,h.ok⟩
theorem Stps.kept {B:Option Addr} {m:Nat} {P:List Sp} {row:Option Nat} (h:Stps w B m P) (hg:w.grownBy w' row) (hne:∀k,blk B=Z k→row≠Z k):Stps w' B m P:=by
 refine ⟨⟨h.1.1,h.1.2.1,fun h0=>?_⟩,h.2⟩;obtain ⟨g,o,e,hb,hc⟩:=h.1.2.2 h0;subst e;refine ⟨g,o,rfl,Nat.lt_of_lt_of_le hb hg.size,fun j x hx q v hv=>?_⟩;rw [World.cell?_of_block (w:=w) (w':=w') (hg.block g hb (fun e=>hne g rfl e.symm))];exact hc j x hx q v hv
theorem OpsOwn.push {A':Option Addr} {N c':Nat} (h:OpsOwn w base A n c Es) (e:Oe) (he:OgOk e.o∧Stps w e.A e.n e.o.path∧e.n≤e.c∧∀k,blk e.A=Z k→k < w.heap.size∧blk A≠Z k)
  (hr:Row w' base 8 A' N c' ((Es++[e]).flatMap zUb)) (hg:w.grownBy w' (blk A)) (hl:∀k,blk A'=Z k→blk A=Z k∨w.heap.size≤k):OpsOwn w' base A' N c' (Es++[e]):=by
 refine ⟨hr,fun x hx=>?_⟩;have jp:OgOk x.o∧Stps w x.A x.n x.o.path∧x.n≤x.c∧∀k,blk x.A=Z k→k < w.heap.size∧blk A≠Z k:=by
  rcases List.mem_append.1 hx with h1 | h1
  ·exact h.ok x h1
  ·rw [List.mem_singleton.1 h1];exact he
 obtain ⟨h1,h2,h3,h4⟩:=jp;refine ⟨h1,h2.kept hg (fun k hk=>(h4 k hk).2),h3,fun k hk=>⟨Nat.lt_of_lt_of_le (h4 k hk).1 hg.size,fun e2=>?_⟩⟩;rcases hl k e2 with h5 | h5
 ·exact (h4 k hk).2 h5
 ·have:=(h4 k hk).1;omega
theorem OpsOwn.oprs (h:OpsOwn w base A n c Es) (hn:n≤1000000):Oprs w A n Es :=
 ⟨h.row.els (fun _=>rfl) (by omega) (by omega),fun e he=>by obtain ⟨h1,h2,h3,_⟩:=h.ok e he;exact ⟨h1,h2,h3⟩⟩
end
theorem zWn {w:World} {ops:Array Oper} {rest:List Oper} {o:Oper} {a:Act} {ZS:Exit→Act→World→Prop} (hgd:o.guard=U) (s x:Operand)
  (ho:o.op=.call { callee:=.builtin .append,args:=#[s,x],argTypes:=#[38,38] })
  {base:Nat} {A:Option Addr} {n c:Nat} {Es:List Oe} (hst:Row w base 8 A n c (Es.flatMap zUb)) (y:Oe)
  (hs:a.eval s=H A n c) (hx:a.eval x=H (Z ⟨w.heap.size,0,U⟩) 1 1) (N:Nat) (hN:n+1=N) (hn:N≤1000000) (hbase:base≤w.heap.size)
  (h:∀A' c' w',Row w' base 8 A' N c' ((Es++[y]).flatMap zUb)→w.grownBy w' (blk A)→(∀k,blk A'=Z k→blk A=Z k∨w.heap.size≤k)→wpList Tryz.prog ops ZS rest (a.put o.dst (H A' N c')) w') :
  wpList Tryz.prog ops ZS (o :: rest) a (w.alloc (.cells #[D J y.o.kind,D J y.o.f,D J y.o.fr.f,D J y.o.fr.l,G y.o.fr.far,D J y.o.fr.pc,H y.A y.n y.c,G y.o.over] 32)):=by
 obtain ⟨i0,hi,aT,az,bt⟩:=info_parts zWi;have hbl:=(Below.refl w.heap.size w).alloc (Nat.le_refl _) (.cells #[D J y.o.kind,D J y.o.f,D J y.o.fr.f,D J y.o.fr.l,G y.o.fr.far,D J y.o.fr.pc,H y.A y.n y.c,G y.o.over] 32);have bO:=hst.below hbl
 refine zOy hgd s x 38 ho 32 i0 _ 8 80 Tryz.underlying38 hi aT az bt rfl (by decide) bO (Src.new (m:=1) (cs:=zUb y) rfl)
  (by intro u hu;simp [zUb] at hu;rcases hu with rfl | rfl | rfl | rfl | rfl | rfl | rfl | rfl<;>rfl) hs hx N hN (by unfold maxLen;omega) (by omega) (by simp;omega) ?_
 intro A' c' w' h1 h2 h3 _;refine h A' c' w' (by rw [List.flatMap_append];simpa using h1) ?_ (fun k hk=>?_)
 ·exact zAb (zAv hbl) h2
 ·rcases h3 k hk with e | e
  ·exact .inl e
  ·exact .inr (by simp at e;omega)
theorem zRY (s:List UInt8) (hs:s.length≤100000) (w:World) (ht:Tabs w) :
  Calls Tryz.prog 62 #[W (bA s),W ⟨#[10]⟩] w fun e w'=>e=.returned (.tuple #[W (bA (Lib.cut s [10]).1),W (bA (Lib.cut s [10]).2.1),G (Lib.cut s [10]).2.2])∧Below w.heap.size w w':=by
 obtain ⟨m,hm⟩:=ht.most;have h:=Tryz.strings_Cut (bA s) (bA [10]) m w (by rw [zAP];omega) hm;rw [zDM,zDM] at h;refine h.mono ?_;rintro e w' ⟨rfl,n,rfl⟩;exact ⟨rfl,zAe (Below.refl _ _) n⟩
def zPK (w0:World) (O:List Og) (n er:Int) (e:Ending) (w':World):Prop :=
 ∃B m d Es,e=.returned (.tuple #[H B m d,D J n,D J er])∧List.map (fun x:Oe=>x.o) Es=O∧m≤1000000∧OpsOwn w' w0.heap.size B m d Es∧Below w0.heap.size w0 w'
def AL:List Fg:=(List.range 9).flatMap fun p:Nat=>(List.range 7).flatMap fun d:Nat=>[⟨(p:Int)+1,E,(d:Int)⟩,⟨(p:Int)+1,Q,(d:Int)⟩]
theorem zPL:AL.length=126:=by decide +kernel
theorem zWo {f:Fg} (h:zAo f=Q):f∈AL:=by
 obtain ⟨h1,h2,h3,h4⟩:=zAs.1 h;obtain ⟨p,r,d⟩:=f;simp only at h1 h2 h3 h4;unfold AL;refine List.mem_flatMap.2 ⟨(p-1).toNat,List.mem_range.2 (by omega),List.mem_flatMap.2 ⟨d.toNat,List.mem_range.2 (by omega),?_⟩⟩;rw [show (((p-1).toNat:Nat):Int)+1=p by omega,show ((d.toNat:Nat):Int)=d by omega]
 cases r<;>simp
theorem zMM {f:Fg} (h:zAo f=Q):zAM AL f≠0:=fun e=>by
 obtain ⟨j,hj⟩:=List.getElem?_of_mem (zWo h);exact zKb e j hj
noncomputable abbrev fnA (S:List UInt8):Nat:=zDE AL S
def zIc (S:List UInt8):Int:=(zAr S).1
theorem zUD {f:Fg} (h:zAo f=Q):fnA (zAl f)=zAM AL f:=by unfold fnA zDE;rw [zCD h rfl]
theorem zRZ {n:Int} (h0:n≠0) (h1:0≤n) (h2:n≤999999999):zIc (Lib.itoa n)=n:=by unfold zIc;rw [zEn (by omega) h2]
end Go.Proofs.YtlmdfmnbcndhoaaGreatDoor
