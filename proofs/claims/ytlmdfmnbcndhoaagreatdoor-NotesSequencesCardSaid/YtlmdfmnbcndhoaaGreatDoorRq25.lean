/-
  Lemmas, part 25. Conditions: each theorem's own.
-/
import Derived.Test.YtlmdfmnbcndhoaaGreatDoorRq23
import Derived.Test.YtlmdfmnbcndhoaaGreatDoorRq24
import Derived.Test.YtlmdfmnbcndhoaaGreatDoorRq18
open Go.Value renaming bool→G,int→D,slice→H,string→W
open Go.IntKind renaming i64→J
open Option renaming none→U,some→Z
open Bool renaming false→E,true→Q
namespace Go.Proofs.YtlmdfmnbcndhoaaGreatDoor
open Go.RowKit
theorem zQd (rb:Nat) (F:Fm) (s:RS) (w:World) (h:RX w rb F s) (hT:s.T.length≤100000) :
  Calls Tryz.prog 98 #[.pointer (Z ⟨rb,0,U⟩)] w (zET w rb F (opR F.L s).1 (opR F.L s).2):=by
 by_cases h3:zBQ (xa s.T 0)=3
 ·exact zLY rb F s w h hT h3
 by_cases h6:zBQ (xa s.T 0)=6∨zBQ (xa s.T 0)=7
 ·exact zMc rb F s w h hT h6
 ·exact zMb rb F s w h hT ⟨h3,fun e=>h6 (.inl e),fun e=>h6 (.inr e)⟩
def zAS (L:List Fg) (re lo:Int) (S:List UInt8):Int:=if frB L re lo then (if 8000 < S.length then 7 else 0) else 2
theorem zDv (A:Option Addr) (n c:Nat) (L:List Fg) (re lo:Int) (S:List UInt8) (w:World) (hA:Fgs w A n L) (hc:n≤c) :
  Calls Tryz.prog 51 #[frV A n c re lo,W (bA S)] w fun e w'=>e=.returned (D J (zAS L re lo S))∧Below w.heap.size w w':=by
 obtain ⟨b,hb⟩:∃b,frB L re lo=b:=⟨_,rfl⟩
 have hs:=zJs S;obtain ⟨n1,nU⟩:∃n,S.length=n:=⟨_,rfl⟩
 have HR:=qH (show zAS L re lo S=if b then (if 8000 < n1 then 7 else 0) else 2 by unfold zAS;rw [hb,nU]);rw [nU] at hs;have aa:Below w.heap.size w (w.alloc (.cells #[H A n c,D J re,D J lo] 24)):=(Below.refl _ _).alloc (Nat.le_refl _) _;have HV:=qH (zFo hb A n c _ (hA.below aa) hc);have HB:=qH aa;clear hb nU aa;go_enter Tryz.func51,Tryz.ntmps51;go_wp2_with fail
 refine HV.out.mono ?_;rintro e w2 ⟨rfl,ab⟩;have iz:=qH (zAa HB.out ab HB.out.size);clear ab HV HB
 cases b with
 | false =>
  go_wp2_with fail
  go_ret;exact ⟨by rw [HR.out];rfl,iz.out⟩
 | true =>
  by_cases h8:8000 < n1
  ·have i0:(8000:Int) < (n1:Int):=by omega
   have fz:=qH (HR.out.trans (show _=(7:Int) by rw [if_pos rfl,if_pos h8]));clear h8 HR;go_wp2_with fail
   go_ret;exact ⟨by rw [fz.out];rfl,iz.out⟩
  ·have i0:¬(8000:Int) < (n1:Int):=by omega
   have fz:=qH (HR.out.trans (show _=(0:Int) by rw [if_pos rfl,if_neg h8]));clear h8 HR;go_wp2_with fail
   go_ret;exact ⟨by rw [fz.out];rfl,iz.out⟩
noncomputable def zSb (L:List Fg) (S:List UInt8):Bool:=(opR L ⟨zBE S,E,E⟩).2.bad||!(opR L ⟨zBE S,E,E⟩).2.T.isEmpty
noncomputable def zVL (L:List Fg) (S:List UInt8):Bool:=(opR L ⟨zBE S,E,E⟩).2.lost
noncomputable def zEU (L:List Fg) (S:List UInt8):Int:=if zSb L S then 6 else if zVL L S then 8 else 0
def o0:Og:=⟨0,0,s0,[],E⟩
noncomputable def zHX (L:List Fg) (S:List UInt8):Og:=if zEU L S=0 then (opR L ⟨zBE S,E,E⟩).1 else o0
def zWo (w0:World) (o:Og) (er:Int) (e:Ending) (w':World):Prop :=
 ∃B m d,e=.returned (.tuple #[opV o B m d,D J er])∧Row w' w0.heap.size 5 B m d (o.path.flatMap zIo)∧m=o.path.length∧Below w0.heap.size w0 w'
theorem zXh (A:Option Addr) (n c:Nat) (re lo:Int) (B:Option Addr) (m d:Nat) (w:World):(Instr.build 123 #[(0,.agg #[H A n c,D J re,D J lo]),(1,H B m d)]).run Tryz.prog w=.ok (.agg (rdC A n c re lo B m d E E)) w:=run_build w _ _ _ (by kernel_rfl)
theorem zEg {a b:World} (h:Below a.heap.size a b) (o:Obj):Below a.heap.size a (b.alloc o):=h.alloc h.size o
set_option maxHeartbeats 6400000 in
theorem zHY (F:Fm) (S:List UInt8) (w:World) (hA:Fgs w F.A F.n F.L) (hS:S.length≤20000) (ht:Tabs w) :
  Calls Tryz.prog 52 #[frV F.A F.n F.c F.re F.lo,W (bA S)] w (zWo w (zHX F.L S) (zEU F.L S)):=by
 have aa:Below w.heap.size w ((w.alloc (.cells #[H F.A F.n F.c,D J F.re,D J F.lo] 24)).alloc (.cells #[D J 0,D J 0,D J 0,D J 0,G E,D J 0,H U 0 0,G E] 32)):=((Below.refl _ _).alloc (Nat.le_refl _) _).alloc (by simp) _;have hk0:Blk ((w.alloc (.cells #[H F.A F.n F.c,D J F.re,D J F.lo] 24)).alloc (.cells #[D J 0,D J 0,D J 0,D J 0,G E,D J 0,H U 0 0,G E] 32)) w.heap.size 24 #[H F.A F.n F.c,D J F.re,D J F.lo]:=(Blk.new w _ _).alloc _;have ag:Blk ((w.alloc (.cells #[H F.A F.n F.c,D J F.re,D J F.lo] 24)).alloc (.cells #[D J 0,D J 0,D J 0,D J 0,G E,D J 0,H U 0 0,G E] 32)) (w.heap.size+1) 32 #[D J 0,D J 0,D J 0,D J 0,G E,D J 0,H U 0 0,G E]:=by
  have:=Blk.new (w.alloc (.cells #[H F.A F.n F.c,D J F.re,D J F.lo] 24)) 32 #[D J 0,D J 0,D J 0,D J 0,G E,D J 0,H U 0 0,G E]
  rwa [World.size_alloc] at this
 have HA:=qH hA;have HT:=qH ht;have hG:=qH (fun wx (hx:Tabs wx)=>zMd S (by omega) wx hx);obtain ⟨a1,bB⟩:∃a,a=w.heap.size+1:=⟨_,rfl⟩
 have iA:=qH bB;clear hA ht;go_enter Tryz.func52,Tryz.ntmps52;go_wp2_with fail
 generalize (w.alloc (.cells #[H F.A F.n F.c,D J F.re,D J F.lo] 24)).alloc (.cells #[D J 0,D J 0,D J 0,D J 0,G E,D J 0,H U 0 0,G E] 32)=Y at aa hk0 ag ⊢;rw [←bB] at ag ⊢;clear bB
 have KP:=qH (show ∀wx,Below Y.heap.size Y wx→(Below Y.heap.size Y wx∧wx.cell? ⟨w.heap.size,0,U⟩=Z (H F.A F.n F.c)∧wx.cell? ⟨w.heap.size,1,U⟩=Z (D J F.re)∧wx.cell? ⟨w.heap.size,2,U⟩=Z (D J F.lo)) from
  fun wx h=>⟨h,((hk0.below h hk0.lt).cell 0).trans rfl,((hk0.below h hk0.lt).cell 1).trans rfl,((hk0.below h hk0.lt).cell 2).trans rfl⟩)
 have TB:=qH (fun wx (h:Below Y.heap.size Y wx)=>HT.out.below (zAa aa h aa.size));go_upto_region 1 with fail
 first
  | go_region_held3 (fun wx=>Below Y.heap.size Y wx∧wx.cell? ⟨w.heap.size,0,U⟩=Z (H F.A F.n F.c)∧wx.cell? ⟨w.heap.size,1,U⟩=Z (D J F.re)∧wx.cell? ⟨w.heap.size,2,U⟩=Z (D J F.lo)) (first | assumption | exact KP.out _ (Below.refl _ _).drew | exact KP.out _ (zAa (Below.refl Y.heap.size Y).drew (by assumption) (Nat.le_refl _)) | exact KP.out _ (zEg (zAa (Below.refl Y.heap.size Y).drew (by assumption) (Nat.le_refl _)) _))
    (first
     | (go_at_call 97;refine (hG.out _ (TB.out _ (And.left (by assumption)))).mono ?_;rintro e wa ⟨B,m,d,rfl,tH,hma,hba⟩))
  | fail
 all_goals
  have hbx:Below Y.heap.size Y wa:=zAa (Below.refl Y.heap.size Y).drew hba (Nat.le_refl _);have hbz:Below Y.heap.size Y (wa.alloc (.cells (rdC F.A F.n F.c F.re F.lo B m d E E) 123)):=zEg hbx _;have hwz:Below w.heap.size w (wa.alloc (.cells (rdC F.A F.n F.c F.re F.lo B m d E E) 123)):=zAa aa hbz aa.size;have hbl:=(Below.refl wa.heap.size wa).alloc (Nat.le_refl _) (.cells (rdC F.A F.n F.c F.re F.lo B m d E E) 123)
  have hrx:RX (wa.alloc (.cells (rdC F.A F.n F.c F.re F.lo B m d E E) 123)) wa.heap.size F ⟨zBE S,E,E⟩ :=
   ⟨⟨B,m,d,Blk.new _ _ _,Els.below (tH.txts (by omega)) hbl,tH.cap,fun k hk=>(tH.lt k hk).2⟩,HA.out.below hwz,fun h0 k hk=>by
    obtain ⟨g,o,e,hg,_⟩:=HA.out.1.2.2 h0
    rw [e] at hk
    injection hk with hk
    have eD:g=k:=hk
    have h1:=aa.size
    have h2:=hbx.size
    omega⟩
  have hkz:=ag.below hbz ag.lt;have rJ:a1 < wa.heap.size:=Nat.lt_of_lt_of_le ag.lt hbx.size;have tD:(zBE S).length≤100000:=by have:=zGp S;omega
  clear hba tH hma hbl hbz hbx hk0 ag KP TB hG;generalize wa.alloc (.cells (rdC F.A F.n F.c F.re F.lo B m d E E) 123)=ZU at hrx hkz hwz ⊢;have wP:Hid (a1 < ZU.heap.size):=qH (Nat.lt_trans rJ hrx.lt);generalize wa.heap.size=rb at hrx rJ ⊢;have fO:=zQd rb F ⟨zBE S,E,E⟩ ZU hrx tD;obtain ⟨ov,eov⟩:∃x,(opR F.L ⟨zBE S,E,E⟩).1=x:=⟨_,rfl⟩
  obtain ⟨st,est⟩:∃x,(opR F.L ⟨zBE S,E,E⟩).2=x:=⟨_,rfl⟩
  rw [eov,est] at fO;have HOP:=qH fO;have EOV:=qH eov;have CJ:=qH est;clear fO eov est tD;go_wp2_with fail
  refine HOP.out.mono ?_;rintro e Z2 ⟨B2,m2,d2,rfl,hrow,da,iX,bn⟩;have jt:=qH da;clear da;obtain ⟨kk,ff,⟨gf,gl,gfar,gpc⟩,path,vov⟩:=ov;obtain ⟨B3,m3,d3,bj,mO,zQ,zO⟩:=iX.rd.ex;have ru:Below w.heap.size w Z2:=zAa hwz (zBT bn (show w.heap.size≤rb by have:=iA.out;omega) hwz.size) (Nat.le_refl _);have rO:=hkz.grown bn (fun he=>by injection he with he;omega);have b3:Below Z2.heap.size Z2 (Z2.alloc (.cells #[D J kk,D J ff,D J gf,D J gl,G gfar,D J gpc,H B2 m2 d2,G vov] 32)):=(Below.refl _ _).alloc (Nat.le_refl _) _;have bH:=rO.below b3 rO.lt;have nO:=bj.below b3 bj.lt;have nP:Blk (Z2.alloc (.cells #[D J kk,D J ff,D J gf,D J gl,G gfar,D J gpc,H B2 m2 d2,G vov] 32)) Z2.heap.size 32 #[D J kk,D J ff,D J gf,D J gl,G gfar,D J gpc,H B2 m2 d2,G vov]:=Blk.new _ _ _;have nN:=zAa ru b3 ru.size;have mD:=hrow.below b3;have rH:st.T.length=m3:=mO.len;obtain ⟨b4,BF⟩:∃b,st.bad=b:=⟨_,rfl⟩
  obtain ⟨b5,BE⟩:∃b,st.lost=b:=⟨_,rfl⟩
  rw [BF,BE] at nO;have sW:=qH (show zSb F.L S=(b4||!decide (m3=0)) by unfold zSb;rw [CJ.out,BF,←rH];cases st.T<;>simp);have bY:=qH (show zVL F.L S=b5 by unfold zVL;rw [CJ.out,BE]);clear mO zQ zO bj b3 rO hkz hwz bn iX hrow ru rH BF BE CJ rJ;go_upto_region 3 with fail
  generalize Z2.alloc (.cells #[D J kk,D J ff,D J gf,D J gl,G gfar,D J gpc,H B2 m2 d2,G vov] 32)=Z3 at bH nO nP nN mD ⊢;generalize Z2.heap.size=a7 at nP ⊢;obtain ⟨-,-,-,c3,c4,c5⟩:=cQ6 nO;have y0:Z3.cell? ⟨a1,0,U⟩=Z (D J 0):=(bH.cell 0).trans rfl;have iC:=bH.frozen 0;have y1:Z3.cell? ⟨a1,1,U⟩=Z (D J 0):=(bH.cell 1).trans rfl;have iB:=bH.frozen 1;have y2:Z3.cell? ⟨a1,2,U⟩=Z (D J 0):=(bH.cell 2).trans rfl;have jF:=bH.frozen 2;have y3:Z3.cell? ⟨a1,3,U⟩=Z (D J 0):=(bH.cell 3).trans rfl;have jE:=bH.frozen 3;have y4:Z3.cell? ⟨a1,4,U⟩=Z (G E):=(bH.cell 4).trans rfl;have jD:=bH.frozen 4;have y5:Z3.cell? ⟨a1,5,U⟩=Z (D J 0):=(bH.cell 5).trans rfl;have jC:=bH.frozen 5;have y6:Z3.cell? ⟨a1,6,U⟩=Z (H U 0 0):=(bH.cell 6).trans rfl;have jB:=bH.frozen 6;have y7:Z3.cell? ⟨a1,7,U⟩=Z (G E):=(bH.cell 7).trans rfl;have jA:=bH.frozen 7;obtain ⟨f0,f1,f2,f3,f4,f5,f6,f7⟩:=cQ8 nP;have hge:w.heap.size≤a1:=by have:=iA.out;omega
  have SZ:=qH (bH.store8 (D J 0) (D J 0) (D J 0) (D J 0) (G E) (D J 0) (H U 0 0) (G E));have BZ:=qH (zAg nN hge (D J 0) (D J 0) (D J 0) (D J 0) (G E) (D J 0) (H U 0 0) (G E));have SV:=qH (bH.store8 (D J kk) (D J ff) (D J gf) (D J gl) (G gfar) (D J gpc) (H B2 m2 d2) (G vov));have BV:=qH (zAg nN hge (D J kk) (D J ff) (D J gf) (D J gl) (G gfar) (D J gpc) (H B2 m2 d2) (G vov));have rI:a1 < ZU.heap.size:=wP.out;have RV:=qH ((mD.store8 rI (D J kk) (D J ff) (D J gf) (D J gl) (G gfar) (D J gpc) (H B2 m2 d2) (G vov)).mono (Nat.le_of_lt (Nat.lt_of_le_of_lt hge rI)));clear bH nO nP nN mD rI hge;by_cases hbd:b4=Q∨¬m3=0
  ·have HE:=qH (show zEU F.L S=6 by unfold zEU;rw [sW.out];rcases hbd with h | h<;>simp [h]);have HO:=qH (show zHX F.L S=o0 by unfold zHX;rw [HE.out];rfl)
   cases b4 with
   | true =>
    clear hbd c3 c5;go_wp2_with fail
    exact zCk rfl rfl rfl SZ.out Tryz.underlying32 rfl (by kernel_rfl) rfl (by rw [HE.out,HO.out];exact ⟨U,0,0,rfl,Row.none_ _ _ _,rfl,BZ.out⟩)
   | false =>
    have i1:0 < m3:=by have:=hbd.resolve_left (by simp);omega
    clear hbd c5;go_wp2_with fail
    exact zCk rfl rfl rfl SZ.out Tryz.underlying32 rfl (by kernel_rfl) rfl (by rw [HE.out,HO.out];exact ⟨U,0,0,rfl,Row.none_ _ _ _,rfl,BZ.out⟩)
  ·have ah:b4=E:=by cases b4<;>simp at hbd ⊢
   subst ah;have hm0:m3=0:=by simpa using hbd
   subst hm0;clear hbd
   cases b5 with
   | true =>
    have HE:=qH (show zEU F.L S=8 by unfold zEU;rw [sW.out,bY.out];rfl);have HO:=qH (show zHX F.L S=o0 by unfold zHX;rw [HE.out];rfl);go_wp2_with fail
    exact zCk rfl rfl rfl SZ.out Tryz.underlying32 rfl (by kernel_rfl) rfl (by rw [HE.out,HO.out];exact ⟨U,0,0,rfl,Row.none_ _ _ _,rfl,BZ.out⟩)
   | false =>
    have HE:=qH (show zEU F.L S=0 by unfold zEU;rw [sW.out,bY.out];rfl);have HO:=qH (show zHX F.L S=⟨kk,ff,⟨gf,gl,gfar,gpc⟩,path,vov⟩ by unfold zHX;rw [HE.out,if_pos rfl];exact EOV.out);go_wp2_with fail
    exact zCk rfl rfl rfl SV.out Tryz.underlying32 rfl (by kernel_rfl) rfl (by rw [HE.out,HO.out];exact ⟨B2,m2,d2,rfl,RV.out,jt.out,BV.out⟩)
noncomputable def rdE (L:List Fg) (re lo:Int) (S:List UInt8):Int:=if zAS L re lo S=0 then zEU L S else zAS L re lo S
noncomputable def rdO (L:List Fg) (re lo:Int) (S:List UInt8):Og:=if zAS L re lo S=0 then zHX L S else o0
theorem zCe {L:List Fg} {re lo:Int} {S:List UInt8} (h:zAS L re lo S=0):S.length≤8000∧frB L re lo=Q:=by
 unfold zAS at h;split at h
 ·rename_i h1;split at h
  ·omega
  ·exact ⟨by omega,h1⟩
 ·omega
theorem zEV (L:List Fg) (re lo:Int) (S:List UInt8):zAS L re lo S=0∨zAS L re lo S=2∨zAS L re lo S=7:=by
 unfold zAS;split
 ·split<;>omega
 ·omega
set_option maxHeartbeats 6400000 in
theorem zHZ (F:Fm) (S:List UInt8) (w:World) (hA:Fgs w F.A F.n F.L) (hc:F.n≤F.c) (ht:Tabs w) :
  Calls Tryz.prog 17 #[frV F.A F.n F.c F.re F.lo,W (bA S)] w (zWo w (rdO F.L F.re F.lo S) (rdE F.L F.re F.lo S)):=by
 have aa:Below w.heap.size w ((w.alloc (.cells #[H F.A F.n F.c,D J F.re,D J F.lo] 24)).alloc (.cells #[D J 0,D J 0,D J 0,D J 0,G E,D J 0,H U 0 0,G E] 32)):=((Below.refl _ _).alloc (Nat.le_refl _) _).alloc (by simp) _;have hk0:Blk ((w.alloc (.cells #[H F.A F.n F.c,D J F.re,D J F.lo] 24)).alloc (.cells #[D J 0,D J 0,D J 0,D J 0,G E,D J 0,H U 0 0,G E] 32)) w.heap.size 24 #[H F.A F.n F.c,D J F.re,D J F.lo]:=(Blk.new w _ _).alloc _;have ag:Blk ((w.alloc (.cells #[H F.A F.n F.c,D J F.re,D J F.lo] 24)).alloc (.cells #[D J 0,D J 0,D J 0,D J 0,G E,D J 0,H U 0 0,G E] 32)) (w.heap.size+1) 32 #[D J 0,D J 0,D J 0,D J 0,G E,D J 0,H U 0 0,G E]:=by
  have:=Blk.new (w.alloc (.cells #[H F.A F.n F.c,D J F.re,D J F.lo] 24)) 32 #[D J 0,D J 0,D J 0,D J 0,G E,D J 0,H U 0 0,G E]
  rwa [World.size_alloc] at this
 have HA:=qH hA;have HT:=qH ht;obtain ⟨ZT,hE⟩:∃ZT,zAS F.L F.re F.lo S=ZT:=⟨_,rfl⟩
 have hcs:=zEV F.L F.re F.lo S;rw [hE] at hcs;have jv:=qH (fun wx (hx:Fgs wx F.A F.n F.L)=>zDv F.A F.n F.c F.L F.re F.lo S wx hx hc);simp only [hE] at jv;have HE:=qH hE;obtain ⟨a1,bB⟩:∃a,a=w.heap.size+1:=⟨_,rfl⟩
 have hge:w.heap.size≤a1:=by omega
 have Cz:=qH hge;clear hA ht hE hge;go_enter Tryz.func17,Tryz.ntmps17;go_wp2_with fail
 generalize ((w.alloc (.cells #[H F.A F.n F.c,D J F.re,D J F.lo] 24)).alloc (.cells #[D J 0,D J 0,D J 0,D J 0,G E,D J 0,H U 0 0,G E] 32))=Y at aa hk0 ag ⊢;rw [←bB] at ag ⊢;clear bB;refine (jv.out Y (HA.out.below aa)).mono ?_;rintro e Y2 ⟨rfl,ab⟩;have hk2:=ag.below ab ag.lt;have aC:=hk0.below ab hk0.lt;have ac:=zAa aa ab aa.size;clear ag hk0 aa ab jv;by_cases h0:ZT=0
 ·subst h0;have hS:=(zCe HE.out).1;have HR:=qH (show rdE F.L F.re F.lo S=zEU F.L S∧rdO F.L F.re F.lo S=zHX F.L S by unfold rdE rdO;rw [HE.out];exact ⟨rfl,rfl⟩);have ic:=qH (zHY F S Y2 (HA.out.below ac) (by omega) (HT.out.below ac));obtain ⟨v0,v1,v2⟩:=cQ3 aC;clear hcs hS aC;go_wp2_with fail
  refine ic.out.mono ?_;rintro e Y3 ⟨B2,m2,d2,rfl,hrow,da,ah⟩;have jt:=qH da;have bj:=hk2.below ah hk2.lt;have hlt2:a1 < Y2.heap.size:=hk2.lt;have ai:=zAa ac ah ac.size;have HO:=qH HR.out.2;obtain ⟨ov,eov⟩:∃x,zHX F.L S=x:=⟨_,rfl⟩
  rw [eov] at hrow jt HO ⊢;clear eov da;obtain ⟨kk,ff,⟨gf,gl,gfar,gpc⟩,path,vov⟩:=ov;have y0:Y3.cell? ⟨a1,0,U⟩=Z (D J 0):=(bj.cell 0).trans rfl;have iC:=bj.frozen 0;have y1:Y3.cell? ⟨a1,1,U⟩=Z (D J 0):=(bj.cell 1).trans rfl;have iB:=bj.frozen 1;have y2:Y3.cell? ⟨a1,2,U⟩=Z (D J 0):=(bj.cell 2).trans rfl;have jF:=bj.frozen 2;have y3:Y3.cell? ⟨a1,3,U⟩=Z (D J 0):=(bj.cell 3).trans rfl;have jE:=bj.frozen 3;have y4:Y3.cell? ⟨a1,4,U⟩=Z (G E):=(bj.cell 4).trans rfl;have jD:=bj.frozen 4;have y5:Y3.cell? ⟨a1,5,U⟩=Z (D J 0):=(bj.cell 5).trans rfl;have jC:=bj.frozen 5;have y6:Y3.cell? ⟨a1,6,U⟩=Z (H U 0 0):=(bj.cell 6).trans rfl;have jB:=bj.frozen 6;have y7:Y3.cell? ⟨a1,7,U⟩=Z (G E):=(bj.cell 7).trans rfl;have jA:=bj.frozen 7;have SV:=qH (bj.store8 (D J kk) (D J ff) (D J gf) (D J gl) (G gfar) (D J gpc) (H B2 m2 d2) (G vov));have BV:=qH (zAg ai Cz.out (D J kk) (D J ff) (D J gf) (D J gl) (G gfar) (D J gpc) (H B2 m2 d2) (G vov));have RV:=qH ((hrow.store8 hlt2 (D J kk) (D J ff) (D J gf) (D J gl) (G gfar) (D J gpc) (H B2 m2 d2) (G vov)).mono (Nat.le_trans Cz.out (Nat.le_of_lt hlt2)));have DZ:=HR.out.1;have HER:=qH DZ;clear hk2 ac ah ai bj hrow v0 v1 v2 ic DZ HR hlt2;go_wp2_with fail
  exact zCk rfl rfl rfl SV.out Tryz.underlying32 rfl (by kernel_rfl) rfl (by rw [HER.out,HO.out];exact ⟨B2,m2,d2,rfl,RV.out,jt.out,BV.out⟩)
 ·have HR:=qH (show rdE F.L F.re F.lo S=ZT∧rdO F.L F.re F.lo S=o0 by unfold rdE rdO;rw [HE.out,if_neg h0,if_neg h0];exact ⟨rfl,rfl⟩);have SZ:=qH (hk2.store8 (D J 0) (D J 0) (D J 0) (D J 0) (G E) (D J 0) (H U 0 0) (G E));have BZ:=qH (zAg ac Cz.out (D J 0) (D J 0) (D J 0) (D J 0) (G E) (D J 0) (H U 0 0) (G E));have y0:Y2.cell? ⟨a1,0,U⟩=Z (D J 0):=(hk2.cell 0).trans rfl;have iC:=hk2.frozen 0;have y1:Y2.cell? ⟨a1,1,U⟩=Z (D J 0):=(hk2.cell 1).trans rfl;have iB:=hk2.frozen 1;have y2:Y2.cell? ⟨a1,2,U⟩=Z (D J 0):=(hk2.cell 2).trans rfl;have jF:=hk2.frozen 2;have y3:Y2.cell? ⟨a1,3,U⟩=Z (D J 0):=(hk2.cell 3).trans rfl;have jE:=hk2.frozen 3;have y4:Y2.cell? ⟨a1,4,U⟩=Z (G E):=(hk2.cell 4).trans rfl;have jD:=hk2.frozen 4;have y5:Y2.cell? ⟨a1,5,U⟩=Z (D J 0):=(hk2.cell 5).trans rfl;have jC:=hk2.frozen 5;have y6:Y2.cell? ⟨a1,6,U⟩=Z (H U 0 0):=(hk2.cell 6).trans rfl;have jB:=hk2.frozen 6;have y7:Y2.cell? ⟨a1,7,U⟩=Z (G E):=(hk2.cell 7).trans rfl;have jA:=hk2.frozen 7;rcases hcs.resolve_left h0 with rfl | rfl
  all_goals clear hk2 ac aC h0 hcs
  all_goals go_wp2_with fail
  all_goals exact zCk rfl rfl rfl SZ.out Tryz.underlying32 rfl (by kernel_rfl) rfl (by rw [HR.out.1,HR.out.2];exact ⟨U,0,0,rfl,Row.none_ _ _ _,rfl,BZ.out⟩)
def zXi (L:List Fg) (s:Sg):Nst:=⟨fa L (s.f-1).toNat,s.l,s.far,s.pc⟩
def zXE (L:List Fg) (x:Sp):Nst×Bool:=(zXi L x.s,x.over)
def nOf (L:List Fg) (o:Og):Nop:=⟨o.kind,fa L (o.f-1).toNat,if o.fr.f=0 then U else Z (zXi L o.fr),o.path.map (zXE L),o.over⟩
section
variable {L:List Fg} {re lo:Int}
theorem zIL {f:Fg} (h:zBa L f≠0):fa L ((zBa L f:Int)-1).toNat=f:=by
 obtain ⟨i,hi⟩:∃i,zBa L f=i+1:=⟨zBa L f-1,by omega⟩
 have h2:=(zJc hi).1;rw [show ((zBa L f:Int)-1).toNat=i by omega];exact zXq h2
theorem zFB {k:Nat} {o:Og} (h1:1≤o.f) (h2:o.f≤(k:Int)) (hp:∀x∈o.path,zAR k x.s=Q)
  (h:(o.kind=1∨o.kind=2∨o.kind=8)∧o.fr=s0∧o.path=[]∧o.over=E
   ∨ o.kind=4∧o.fr=s0∧o.path=[]
   ∨ o.kind=3∧zAR k o.fr=Q∧o.over=E
   ∨ o.kind=5∧zAR k o.fr=Q∧o.path=[]
   ∨ (o.kind=6∨o.kind=7)∧zAR k o.fr=Q∧o.fr=⟨o.fr.f,0,E,0⟩∧o.path=[]):zAr k o=Q:=by
 have h3:o.kind=3∨o.path=[]:=by
  rcases h with h | h | h | h | h
  ·exact .inr h.2.2.1
  ·exact .inr h.2.2
  ·exact .inl h.1
  ·exact .inr h.2.2
  ·exact .inr h.2.2.2
 have hr:zDP k o=Q:=by
  unfold zDP;rcases h with ⟨e,h,_,h'⟩ | ⟨e,h,_⟩ | ⟨e,h,h'⟩ | ⟨e,h,_⟩ | ⟨e,h,h',_⟩
  ·rw [if_pos e,h,h'];rfl
  ·rw [if_neg (by omega),if_pos e,h];rfl
  ·rw [if_neg (by omega),if_neg (by omega),if_pos e,h,h'];rfl
  ·rw [if_neg (by omega),if_neg (by omega),if_neg (by omega),if_pos e,h]
  ·rw [if_neg (by omega),if_neg (by omega),if_neg (by omega),if_neg (by omega),if_pos e,h,←h',zLE.2 rfl];rfl
 unfold zAr;rw [hr];simp only [Bool.and_eq_true,decide_eq_true_eq,Bool.or_eq_true,List.all_eq_true,and_true];exact ⟨⟨⟨h1,h2⟩,h3⟩,hp⟩
theorem zWp {x:Nst} (h:zCR x) (hg:zBF L x.f=E):zAR L.length (sOf L x)=Q∧zXi L (sOf L x)=x∧¬(sOf L x).f=0:=by
 have h0:zBa L x.f≠0:=by simpa [zBF] using hg
 have hl:=zEL (f:=x.f) (L:=L);refine ⟨zAD.2 ⟨by simp only [sOf];omega,by simp only [sOf];omega,h.2.1,h.2.2.1,h.2.2.2.1,h.2.2.2.2⟩,?_,by simp only [sOf];omega⟩;unfold zXi sOf;simp only;rw [zIL h0]
theorem o_ok {n:Nop} (h:okN n) (hl:zAG L n=E):zAr L.length (oOf L n)=Q∧nOf L (oOf L n)=n:=by
 obtain ⟨h1,h2⟩:=h;unfold zAG at hl;simp only [Bool.or_eq_false_iff] at hl;obtain ⟨⟨l1,l2⟩,l3⟩:=hl;have h0:zBa L n.f≠0:=by simpa [zBF] using l1
 have hle:=zEL (f:=n.f) (L:=L);have hpath:∀y∈n.path,zBF L y.1.f=E:=fun y hy=>by
  have:=(List.any_eq_false.1 l2) y hy;simpa using this
 obtain ⟨kind,f,fr,path,over⟩:=n;unfold zKF at h2;simp only at h1 h2 l1 l3 h0 hle hpath;have hpm:(∀y∈path,zCR y.1)→(path.map (pOf L)).map (zXE L)=path:=fun hp=>by
  rw [List.map_map]
  conv=>rhs;rw [←List.map_id path]
  refine List.map_congr_left fun x hx=>?_
  simp only [Function.comp,zXE,pOf,id];rw [(zWp (hp x hx) (hpath x hx)).2.1]
 have hpn:(∀y∈path,zCR y.1)→∀x∈path.map (pOf L),zAR L.length x.s=Q:=fun hp x hx=>by
  obtain ⟨y,hy,rfl⟩:=List.mem_map.1 hx;exact (zWp (hp y hy) (hpath y hy)).1
 rcases h2 with ⟨e,rfl,rfl,rfl⟩ | ⟨e,rfl,rfl⟩ | ⟨e,⟨x,rfl,hx⟩,hp,rfl⟩ | ⟨e,⟨x,rfl,hx⟩,rfl⟩ | ⟨e,⟨g,rfl,hx⟩,rfl⟩
 ·refine ⟨zFB (by simp only [oOf];omega) (by simp only [oOf];omega) (by simp [oOf]) (.inl ⟨e,rfl,rfl,rfl⟩),?_⟩;unfold nOf oOf;simp only [zIL h0];rfl
 ·refine ⟨zFB (by simp only [oOf];omega) (by simp only [oOf];omega) (by simp [oOf]) (.inr (.inl ⟨e,rfl,rfl⟩)),?_⟩;unfold nOf oOf;simp only [zIL h0];rfl
 ·obtain ⟨a1,a2,a3⟩:=zWp hx l3;refine ⟨zFB (by simp only [oOf];omega) (by simp only [oOf];omega) (hpn hp) (.inr (.inr (.inl ⟨e,a1,rfl⟩))),?_⟩;unfold nOf oOf;simp only [zIL h0,Option.map_some,Option.getD_some,if_neg a3,a2,hpm hp]
 ·obtain ⟨a1,a2,a3⟩:=zWp hx l3;refine ⟨zFB (by simp only [oOf];omega) (by simp only [oOf];omega) (by simp [oOf]) (.inr (.inr (.inr (.inl ⟨e,a1,rfl⟩)))),?_⟩;unfold nOf oOf;simp only [zIL h0,Option.map_some,Option.getD_some,if_neg a3,a2];rfl
 ·have hxo:zCR ⟨g,0,E,0⟩:=⟨hx,by simp,by simp,by simp,by simp⟩;obtain ⟨a1,a2,a3⟩:=zWp (L:=L) hxo l3;refine ⟨zFB (by simp only [oOf];omega) (by simp only [oOf];omega) (by simp [oOf]) (.inr (.inr (.inr (.inr ⟨e,a1,rfl,rfl⟩)))),?_⟩;unfold nOf oOf;simp only [zIL h0,Option.map_some,Option.getD_some,if_neg a3,a2];rfl
end
theorem zTs {L:List Fg} (hL:L.length≤17592186043904) {n:Nop} (h:okN n):OgOk (oOf L n)∧∀x∈(oOf L n).path,SgOk x.s:=by
 have hx:∀f:Fg,(zBa L f:Int)≤17592186043904:=fun f=>by have:=zEL (f:=f) (L:=L);omega
 have hs:∀x:Nst,zCR x→SgOk (sOf L x):=fun x mA=>by
  obtain ⟨_,h1,h2,h3,h4⟩:=mA;have:=hx x.f;exact ⟨⟨by simp only [sOf];omega,by simp only [sOf];omega⟩,⟨by simp only [sOf];omega,by simp only [sOf];omega⟩,⟨by simp only [sOf];omega,by simp only [sOf];omega⟩⟩
 have ny:SgOk s0:=⟨⟨by simp [s0],by simp [s0]⟩,⟨by simp [s0],by simp [s0]⟩,⟨by simp [s0],by simp [s0]⟩⟩;obtain ⟨h1,h2⟩:=h;obtain ⟨k,f,fr,path,over⟩:=n;have hf:=hx f;unfold zKF at h2;simp only at h1 h2;have xB:∀x∈(List.map (pOf L) ([]:List (Nst×Bool))),SgOk x.s:=fun x hx=>by simp at hx
 rcases h2 with ⟨e,rfl,rfl,rfl⟩ | ⟨e,rfl,rfl⟩ | ⟨e,⟨x,rfl,mA⟩,hp,rfl⟩ | ⟨e,⟨x,rfl,mA⟩,rfl⟩ | ⟨e,⟨g,rfl,hg⟩,rfl⟩
 ·exact ⟨⟨⟨by simp only [oOf];omega,by simp only [oOf];omega⟩,⟨by simp only [oOf];omega,by simp only [oOf];omega⟩,ny⟩,xB⟩
 ·exact ⟨⟨⟨by simp only [oOf];omega,by simp only [oOf];omega⟩,⟨by simp only [oOf];omega,by simp only [oOf];omega⟩,ny⟩,xB⟩
 ·refine ⟨⟨⟨by simp only [oOf];omega,by simp only [oOf];omega⟩,⟨by simp only [oOf];omega,by simp only [oOf];omega⟩,hs x mA⟩,fun y hy=>?_⟩;obtain ⟨z,hz,rfl⟩:=List.mem_map.1 hy;exact hs z.1 (hp z hz)
 ·exact ⟨⟨⟨by simp only [oOf];omega,by simp only [oOf];omega⟩,⟨by simp only [oOf];omega,by simp only [oOf];omega⟩,hs x mA⟩,xB⟩
 ·have hgo:zCR ⟨g,0,E,0⟩:=⟨hg,by simp,by simp,by simp,by simp⟩;exact ⟨⟨⟨by simp only [oOf];omega,by simp only [oOf];omega⟩,⟨by simp only [oOf];omega,by simp only [oOf];omega⟩,hs _ hgo⟩,xB⟩
theorem zUy:OgOk o0∧∀x∈o0.path,SgOk x.s :=
 ⟨⟨⟨by simp [o0],by simp [o0]⟩,⟨by simp [o0],by simp [o0]⟩,⟨⟨by simp [o0,s0],by simp [o0,s0]⟩,⟨by simp [o0,s0],by simp [o0,s0]⟩,⟨by simp [o0,s0],by simp [o0,s0]⟩⟩⟩,fun x hx=>by simp [o0] at hx⟩
theorem zQe {L:List Fg} {S:List UInt8} (h:zSb L S=E):∃n,okN n∧S=zDG n∧(opR L ⟨zBE S,E,E⟩).1=oOf L n∧zVL L S=zAG L n:=by
 unfold zSb at h;simp only [Bool.or_eq_false_iff,Bool.not_eq_false',List.isEmpty_iff] at h;obtain ⟨n,h1,h2,h3,h4⟩:=zRP h.1 h.2;exact ⟨n,h1,zJy h2,h3,h4⟩
theorem zWq (L:List Fg) {n:Nop} (h:okN n):zSb L (zDG n)=E∧(opR L ⟨zBE (zDG n),E,E⟩).1=oOf L n∧zVL L (zDG n)=zAG L n:=by
 unfold zSb zVL;rw [zEq,zXB L h];exact ⟨rfl,rfl,rfl⟩
theorem zHi (L:List Fg) {n:Nop} (h:okN n):zEU L (zDG n)=(if zAG L n then 8 else 0)∧zHX L (zDG n)=(if zAG L n then o0 else oOf L n):=by
 obtain ⟨h1,h2,h3⟩:=zWq L h;have he:zEU L (zDG n)=(if zAG L n then 8 else 0):=by unfold zEU;rw [h1,h3];rfl
 refine ⟨he,?_⟩;unfold zHX;rw [he,h2]
 cases zAG L n<;>rfl
theorem zNg (L:List Fg) {S:List UInt8} (h:∀n,okN n→S≠zDG n):zEU L S=6∧zHX L S=o0:=by
 have hb:zSb L S=Q:=by
  cases e:zSb L S with
  | true=>rfl
  | false =>
   obtain ⟨n,h1,h2,_⟩:=zQe e;exact absurd h2 (h n h1)
 have he:zEU L S=6:=by unfold zEU;rw [hb];rfl
 exact ⟨he,by unfold zHX;rw [he];rfl⟩
theorem zUz {L:List Fg} (hL:L.length≤17592186043904) (S:List UInt8):OgOk (zHX L S)∧∀x∈(zHX L S).path,SgOk x.s:=by
 by_cases h:∃n,okN n∧S=zDG n
 ·obtain ⟨n,h1,rfl⟩:=h;rw [(zHi L h1).2]
  cases zAG L n with
  | true=>exact zUy
  | false=>exact zTs hL h1
 ·rw [(zNg L fun n h1 h2=>h ⟨n,h1,h2⟩).2];exact zUy
noncomputable def zBW (L:List Fg):List (List UInt8)→List Og→List Og×Nat×Int
 | [],O=>(O,O.length,0)
 | [p],O=>if p=[] then (O,O.length,0) else ([],O.length,6)
 | p :: q :: r,O=>if zEU L p=0 then zBW L (q :: r) (O++[zHX L p]) else ([],O.length,zEU L p)
theorem zJJ {c:UInt8}:∀{R:List UInt8},c∈R→∃h r,R=h++c :: r∧c ∉ h
 | [],hc=>by simp at hc
 | x :: R,hc=>by
  by_cases e:x=c
  ·exact ⟨[],R,by rw [e];rfl,by simp⟩
  ·have hR:c∈R:=by
    rcases List.mem_cons.1 hc with h | h
    ·exact absurd h.symm e
    ·exact h
   obtain ⟨h,r,rfl,hh⟩:=zJJ hR
   exact ⟨x :: h,r,rfl,fun hm=>by
    rcases List.mem_cons.1 hm with h1 | h1
    ·exact e h1.symm
    ·exact hh h1⟩
theorem zQf (L:List Fg) (O:List Og):zBW L (zBx 10 []) O=(O,O.length,0):=rfl
theorem zOj (L:List Fg) {R:List UInt8} (h:(10:UInt8) ∉ R) (h0:R≠[]) (O:List Og):zBW L (zBx 10 R) O=([],O.length,6):=by
 rw [zHa h,zBW,if_neg h0]
theorem zOk (L:List Fg) {h r:List UInt8} (hc:(10:UInt8) ∉ h) (O:List Og):zBW L (zBx 10 (h++10 :: r)) O=if zEU L h=0 then zBW L (zBx 10 r) (O++[zHX L h]) else ([],O.length,zEU L h):=by
 rw [zEp hc]
 cases e:zBx 10 r with
 | nil=>exact absurd e (zHG 10 r)
 | cons q s=>rw [zBW]
structure OpsOwn (w:World) (base:Nat) (A:Option Addr) (n c:Nat) (Es:List Oe):Prop where
 row:Row w base 8 A n c (Es.flatMap zTX)
 ok:∀e∈Es,OgOk e.o∧Stps w e.A e.n e.o.path∧e.n≤e.c∧∀k,blk e.A=Z k→k < w.heap.size∧blk A≠Z k
section
variable {w w':World} {base:Nat} {A:Option Addr} {n c:Nat} {Es:List Oe}
theorem OpsOwn.none_ (w:World) (base:Nat):OpsOwn w base U 0 0 []:=⟨Row.none_ _ _ _,by simp⟩
theorem OpsOwn.below (h:OpsOwn w base A n c Es) (hb:Below w.heap.size w w'):OpsOwn w' base A n c Es :=
 ⟨h.row.below hb,fun e he=>by obtain ⟨h1,h2,h3,h4⟩:=h.ok e he;exact ⟨h1,h2.below hb,h3,fun k hk=>⟨Nat.lt_of_lt_of_le (h4 k hk).1 hb.size,(h4 k hk).2⟩⟩⟩
theorem OpsOwn.mono {base':Nat} (h:OpsOwn w base A n c Es) (hb:base'≤base):OpsOwn w base' A n c Es:=⟨h.row.mono hb,h.ok⟩
theorem Stps.kept {B:Option Addr} {m:Nat} {P:List Sp} {row:Option Nat} (h:Stps w B m P) (hg:w.grownBy w' row) (hne:∀k,blk B=Z k→row≠Z k):Stps w' B m P:=by
 refine ⟨⟨h.1.1,h.1.2.1,fun h0=>?_⟩,h.2⟩;obtain ⟨g,o,e,hb,hc⟩:=h.1.2.2 h0;subst e;refine ⟨g,o,rfl,Nat.lt_of_lt_of_le hb hg.size,fun j x hx q v hv=>?_⟩;rw [World.cell?_of_block (w:=w) (w':=w') (hg.block g hb (fun e=>hne g rfl e.symm))];exact hc j x hx q v hv
theorem OpsOwn.push {A':Option Addr} {N c':Nat} (h:OpsOwn w base A n c Es) (e:Oe) (he:OgOk e.o∧Stps w e.A e.n e.o.path∧e.n≤e.c∧∀k,blk e.A=Z k→k < w.heap.size∧blk A≠Z k)
  (hr:Row w' base 8 A' N c' ((Es++[e]).flatMap zTX)) (hg:w.grownBy w' (blk A)) (hl:∀k,blk A'=Z k→blk A=Z k∨w.heap.size≤k):OpsOwn w' base A' N c' (Es++[e]):=by
 refine ⟨hr,fun x hx=>?_⟩;have iX:OgOk x.o∧Stps w x.A x.n x.o.path∧x.n≤x.c∧∀k,blk x.A=Z k→k < w.heap.size∧blk A≠Z k:=by
  rcases List.mem_append.1 hx with h1 | h1
  ·exact h.ok x h1
  ·rw [List.mem_singleton.1 h1];exact he
 obtain ⟨h1,h2,h3,h4⟩:=iX;refine ⟨h1,h2.kept hg (fun k hk=>(h4 k hk).2),h3,fun k hk=>⟨Nat.lt_of_lt_of_le (h4 k hk).1 hg.size,fun e2=>?_⟩⟩;rcases hl k e2 with h5 | h5
 ·exact (h4 k hk).2 h5
 ·have:=(h4 k hk).1;omega
theorem OpsOwn.oprs (h:OpsOwn w base A n c Es) (hn:n≤1000000):Oprs w A n Es :=
 ⟨h.row.els (fun _=>rfl) (by omega) (by omega),fun e he=>by obtain ⟨h1,h2,h3,_⟩:=h.ok e he;exact ⟨h1,h2,h3⟩⟩
end
theorem zWr {w:World} {ops:Array Oper} {rest:List Oper} {o:Oper} {a:Act} {ZS:Exit→Act→World→Prop} (hgd:o.guard=U) (s x:Operand)
  (ho:o.op=.call { callee:=.builtin .append,args:=#[s,x],argTypes:=#[38,38] })
  {base:Nat} {A:Option Addr} {n c:Nat} {Es:List Oe} (hst:Row w base 8 A n c (Es.flatMap zTX)) (y:Oe)
  (hs:a.eval s=H A n c) (hx:a.eval x=H (Z ⟨w.heap.size,0,U⟩) 1 1) (N:Nat) (hN:n+1=N) (hn:N≤1000000) (hbase:base≤w.heap.size)
  (h:∀A' c' w',Row w' base 8 A' N c' ((Es++[y]).flatMap zTX)→w.grownBy w' (blk A)→(∀k,blk A'=Z k→blk A=Z k∨w.heap.size≤k)→wpList Tryz.prog ops ZS rest (a.put o.dst (H A' N c')) w') :
  wpList Tryz.prog ops ZS (o :: rest) a (w.alloc (.cells #[D J y.o.kind,D J y.o.f,D J y.o.fr.f,D J y.o.fr.l,G y.o.fr.far,D J y.o.fr.pc,H y.A y.n y.c,G y.o.over] 32)):=by
 obtain ⟨i0,hi,aQ,az,bi⟩:=info_parts zWj;have hbl:=(Below.refl w.heap.size w).alloc (Nat.le_refl _) (.cells #[D J y.o.kind,D J y.o.f,D J y.o.fr.f,D J y.o.fr.l,G y.o.fr.far,D J y.o.fr.pc,H y.A y.n y.c,G y.o.over] 32);have bE:=hst.below hbl
 refine zPn hgd s x 38 ho 32 i0 _ 8 80 Tryz.underlying38 hi aQ az bi rfl (by decide) bE (Src.new (m:=1) (cs:=zTX y) rfl)
  (by intro u hu;simp [zTX] at hu;rcases hu with rfl | rfl | rfl | rfl | rfl | rfl | rfl | rfl<;>rfl) hs hx N hN (by unfold maxLen;omega) (by omega) (by simp;omega) ?_
 intro A' c' w' h1 h2 h3 _;refine h A' c' w' (by rw [List.flatMap_append];simpa using h1) ?_ (fun k hk=>?_)
 ·exact zAb (zAt hbl) h2
 ·rcases h3 k hk with e | e
  ·exact .inl e
  ·exact .inr (by simp at e;omega)
theorem zSc (s:List UInt8) (hs:s.length≤100000) (w:World) (ht:Tabs w) :
  Calls Tryz.prog 62 #[W (bA s),W ⟨#[10]⟩] w fun e w'=>e=.returned (.tuple #[W (bA (Lib.cut s [10]).1),W (bA (Lib.cut s [10]).2.1),G (Lib.cut s [10]).2.2])∧Below w.heap.size w w':=by
 obtain ⟨m,hm⟩:=ht.most;have h:=Tryz.strings_Cut (bA s) (bA [10]) m w (by rw [zAZ];omega) hm;rw [zDO,zDO] at h;refine h.mono ?_;rintro e w' ⟨rfl,n,rfl⟩;exact ⟨rfl,zAf (Below.refl _ _) n⟩
def zQg (w0:World) (O:List Og) (n er:Int) (e:Ending) (w':World):Prop :=
 ∃B m d Es,e=.returned (.tuple #[H B m d,D J n,D J er])∧List.map (fun x:Oe=>x.o) Es=O∧m≤1000000∧OpsOwn w' w0.heap.size B m d Es∧Below w0.heap.size w0 w'
end Go.Proofs.YtlmdfmnbcndhoaaGreatDoor
