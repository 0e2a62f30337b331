/-
  Lemmas, part 20. Conditions: each theorem's own.
-/
import Derived.Test.YtlmdfmnbcndhoaaGreatDoorRl18
import Derived.Test.YtlmdfmnbcndhoaaGreatDoorRl19
import Derived.Test.YtlmdfmnbcndhoaaGreatDoorRl15
namespace Go.Proofs.YtlmdfmnbcndhoaaGreatDoor
open Go.RowKit
theorem zPs (rb:Nat) (F:Fm) (s:RS) (w:World) (h:RX w rb F s) (hT:s.T.length≤100000) :
  Calls Tryz.prog 98 #[.pointer (some ⟨rb,0,none⟩)] w (zEn w rb F (opR F.L s).1 (opR F.L s).2):=by
 by_cases h3:zBy (xa s.T 0)=3
 ·exact zLA rb F s w h hT h3
 by_cases h6:zBy (xa s.T 0)=6∨zBy (xa s.T 0)=7
 ·exact zLC rb F s w h hT h6
 ·exact zLB rb F s w h hT ⟨h3,fun e=>h6 (.inl e),fun e=>h6 (.inr e)⟩
def zAy (L:List Fg) (re lo:Int) (S:List UInt8):Int:=if frB L re lo then (if 8000 < S.length then 7 else 0) else 2
theorem zDd (A:Option Addr) (n c:Nat) (L:List Fg) (re lo:Int) (S:List UInt8) (w:World) (hA:Fgs w A n L) (hc:n≤c) :
  Calls Tryz.prog 51 #[frV A n c re lo,.string (bA S)] w fun e w'=>e=.returned (.int .i64 (zAy L re lo S))∧Below w.heap.size w w':=by
 obtain ⟨b,hb⟩:∃b,frB L re lo=b:=⟨_,rfl⟩
 have hs:=zCD S;obtain ⟨n1,mt⟩:∃n,S.length=n:=⟨_,rfl⟩
 have HR:=qH (show zAy L re lo S=if b then (if 8000 < n1 then 7 else 0) else 2 by unfold zAy;rw [hb,mt]);rw [mt] at hs;have ah:Below w.heap.size w (w.alloc (.cells #[.slice A n c,.int .i64 re,.int .i64 lo] 24)):=(Below.refl _ _).alloc (Nat.le_refl _) _;have HV:=qH (zEB hb A n c _ (hA.below ah) hc);have HB:=qH ah;clear hb mt ah;go_enter Tryz.func51,Tryz.ntmps51;go_wp2_with fail
 refine HV.out.mono ?_;rintro e w2 ⟨rfl,ai⟩;have gY:=qH (zAa HB.out ai HB.out.size);clear ai HV HB
 cases b with
 | false =>
  go_wp2_with fail
  go_ret;exact ⟨by rw [HR.out];rfl,gY.out⟩
 | true =>
  by_cases h8:8000 < n1
  ·have i0:(8000:Int) < (n1:Int):=by omega
   have kV:=qH (HR.out.trans (show _=(7:Int) by rw [if_pos rfl,if_pos h8]));clear h8 HR;go_wp2_with fail
   go_ret;exact ⟨by rw [kV.out];rfl,gY.out⟩
  ·have i0:¬(8000:Int) < (n1:Int):=by omega
   have kV:=qH (HR.out.trans (show _=(0:Int) by rw [if_pos rfl,if_neg h8]));clear h8 HR;go_wp2_with fail
   go_ret;exact ⟨by rw [kV.out];rfl,gY.out⟩
noncomputable def zRw (L:List Fg) (S:List UInt8):Bool:=(opR L ⟨zBp S,false,false⟩).2.bad||!(opR L ⟨zBp S,false,false⟩).2.T.isEmpty
noncomputable def zVr (L:List Fg) (S:List UInt8):Bool:=(opR L ⟨zBp S,false,false⟩).2.lost
noncomputable def zDe (L:List Fg) (S:List UInt8):Int:=if zRw L S then 6 else if zVr L S then 8 else 0
def o0:Og:=⟨0,0,s0,[],false⟩
noncomputable def zEt (L:List Fg) (S:List UInt8):Og:=if zDe L S=0 then (opR L ⟨zBp S,false,false⟩).1 else o0
def OpErr (w0:World) (o:Og) (er:Int) (e:Ending) (w':World):Prop :=
 ∃B m d,e=.returned (.tuple #[opV o B m d,.int .i64 er])∧Row w' w0.heap.size 5 B m d (o.path.flatMap zCa)∧m=o.path.length∧Below w0.heap.size w0 w'
theorem zWO (A:Option Addr) (n c:Nat) (re lo:Int) (B:Option Addr) (m d:Nat) (w:World):(Instr.build 123 #[(0,.agg #[.slice A n c,.int .i64 re,.int .i64 lo]),(1,.slice B m d)]).run Tryz.prog w=.ok (.agg (rdC A n c re lo B m d false false)) w:=run_build w _ _ _ (by kernel_rfl)
theorem zDD {a b:World} (h:Below a.heap.size a b) (o:Obj):Below a.heap.size a (b.alloc o):=h.alloc h.size o
set_option maxHeartbeats 6400000 in
theorem zHm (F:Fm) (S:List UInt8) (w:World) (hA:Fgs w F.A F.n F.L) (hS:S.length≤20000) (ht:Tabs w) :
  Calls Tryz.prog 52 #[frV F.A F.n F.c F.re F.lo,.string (bA S)] w (OpErr w (zEt F.L S) (zDe F.L S)):=by
 have ah:Below w.heap.size w ((w.alloc (.cells #[.slice F.A F.n F.c,.int .i64 F.re,.int .i64 F.lo] 24)).alloc (.cells #[.int .i64 0,.int .i64 0,.int .i64 0,.int .i64 0,.bool false,.int .i64 0,.slice none 0 0,.bool false] 32)):=((Below.refl _ _).alloc (Nat.le_refl _) _).alloc (by simp) _;have hk0:Blk ((w.alloc (.cells #[.slice F.A F.n F.c,.int .i64 F.re,.int .i64 F.lo] 24)).alloc (.cells #[.int .i64 0,.int .i64 0,.int .i64 0,.int .i64 0,.bool false,.int .i64 0,.slice none 0 0,.bool false] 32)) w.heap.size 24 #[.slice F.A F.n F.c,.int .i64 F.re,.int .i64 F.lo]:=(Blk.new w _ _).alloc _;have aq:Blk ((w.alloc (.cells #[.slice F.A F.n F.c,.int .i64 F.re,.int .i64 F.lo] 24)).alloc (.cells #[.int .i64 0,.int .i64 0,.int .i64 0,.int .i64 0,.bool false,.int .i64 0,.slice none 0 0,.bool false] 32)) (w.heap.size+1) 32 #[.int .i64 0,.int .i64 0,.int .i64 0,.int .i64 0,.bool false,.int .i64 0,.slice none 0 0,.bool false]:=by
  have:=Blk.new (w.alloc (.cells #[.slice F.A F.n F.c,.int .i64 F.re,.int .i64 F.lo] 24)) 32 #[.int .i64 0,.int .i64 0,.int .i64 0,.int .i64 0,.bool false,.int .i64 0,.slice none 0 0,.bool false]
  rwa [World.size_alloc] at this
 have HA:=qH hA;have HT:=qH ht;have gK:=qH (fun wx (hx:Tabs wx)=>zLD S (by omega) wx hx);obtain ⟨a1,cM⟩:∃a,a=w.heap.size+1:=⟨_,rfl⟩
 have gL:=qH cM;clear hA ht;go_enter Tryz.func52,Tryz.ntmps52;go_wp2_with fail
 generalize (w.alloc (.cells #[.slice F.A F.n F.c,.int .i64 F.re,.int .i64 F.lo] 24)).alloc (.cells #[.int .i64 0,.int .i64 0,.int .i64 0,.int .i64 0,.bool false,.int .i64 0,.slice none 0 0,.bool false] 32)=Y at ah hk0 aq ⊢;rw [←cM] at aq ⊢;clear cM
 have KP:=qH (show ∀wx,Below Y.heap.size Y wx→(Below Y.heap.size Y wx∧wx.cell? ⟨w.heap.size,0,none⟩=some (.slice F.A F.n F.c)∧wx.cell? ⟨w.heap.size,1,none⟩=some (.int .i64 F.re)∧wx.cell? ⟨w.heap.size,2,none⟩=some (.int .i64 F.lo)) from
  fun wx h=>⟨h,((hk0.below h hk0.lt).cell 0).trans rfl,((hk0.below h hk0.lt).cell 1).trans rfl,((hk0.below h hk0.lt).cell 2).trans rfl⟩)
 have TB:=qH (fun wx (h:Below Y.heap.size Y wx)=>HT.out.below (zAa ah h ah.size));go_upto_region 1 with fail
 first
  | go_region_held3 (fun wx=>Below Y.heap.size Y wx∧wx.cell? ⟨w.heap.size,0,none⟩=some (.slice F.A F.n F.c)∧wx.cell? ⟨w.heap.size,1,none⟩=some (.int .i64 F.re)∧wx.cell? ⟨w.heap.size,2,none⟩=some (.int .i64 F.lo)) (first | assumption | exact KP.out _ (Below.refl _ _).drew | exact KP.out _ (zAa (Below.refl Y.heap.size Y).drew (by assumption) (Nat.le_refl _)) | exact KP.out _ (zDD (zAa (Below.refl Y.heap.size Y).drew (by assumption) (Nat.le_refl _)) _))
    (first
     | (go_at_call 97;refine (gK.out _ (TB.out _ (And.left (by assumption)))).mono ?_;rintro e wa ⟨B,m,d,rfl,nh,hma,hba⟩))
  | fail
 all_goals
  have hbx:Below Y.heap.size Y wa:=zAa (Below.refl Y.heap.size Y).drew hba (Nat.le_refl _);have hbz:Below Y.heap.size Y (wa.alloc (.cells (rdC F.A F.n F.c F.re F.lo B m d false false) 123)):=zDD hbx _;have hwz:Below w.heap.size w (wa.alloc (.cells (rdC F.A F.n F.c F.re F.lo B m d false false) 123)):=zAa ah hbz ah.size;have hbl:=(Below.refl wa.heap.size wa).alloc (Nat.le_refl _) (.cells (rdC F.A F.n F.c F.re F.lo B m d false false) 123)
  have hrx:RX (wa.alloc (.cells (rdC F.A F.n F.c F.re F.lo B m d false false) 123)) wa.heap.size F ⟨zBp S,false,false⟩ :=
   ⟨⟨B,m,d,Blk.new _ _ _,Els.below (nh.txts (by omega)) hbl,nh.cap,fun k hk=>(nh.lt k hk).2⟩,HA.out.below hwz,fun h0 k hk=>by
    obtain ⟨g,o,e,hg,_⟩:=HA.out.1.2.2 h0
    rw [e] at hk
    injection hk with hk
    have iE:g=k:=hk
    have h1:=ah.size
    have h2:=hbx.size
    omega⟩
  have hkz:=aq.below hbz aq.lt;have tY:a1 < wa.heap.size:=Nat.lt_of_lt_of_le aq.lt hbx.size;have nf:(zBp S).length≤100000:=by have:=zFG S;omega
  clear hba nh hma hbl hbz hbx hk0 aq KP TB gK;generalize wa.alloc (.cells (rdC F.A F.n F.c F.re F.lo B m d false false) 123)=Z at hrx hkz hwz ⊢;have eZ:Hid (a1 < Z.heap.size):=qH (Nat.lt_trans tY hrx.lt);generalize wa.heap.size=rb at hrx tY ⊢;have it:=zPs rb F ⟨zBp S,false,false⟩ Z hrx nf;obtain ⟨ov,eov⟩:∃x,(opR F.L ⟨zBp S,false,false⟩).1=x:=⟨_,rfl⟩
  obtain ⟨st,est⟩:∃x,(opR F.L ⟨zBp S,false,false⟩).2=x:=⟨_,rfl⟩
  rw [eov,est] at it;have pJ:=qH it;have EOV:=qH eov;have DQ:=qH est;clear it eov est nf;go_wp2_with fail
  refine pJ.out.mono ?_;rintro e Z2 ⟨B2,m2,d2,rfl,hrow,db,oE,eh⟩;have gE:=qH db;clear db;obtain ⟨kk,ff,⟨gf,gl,gfar,gpc⟩,path,vov⟩:=ov;obtain ⟨B3,m3,d3,cc,pD,BL,BK⟩:=oE.rd.ex;have tH:Below w.heap.size w Z2:=zAa hwz (zBB eh (show w.heap.size≤rb by have:=gL.out;omega) hwz.size) (Nat.le_refl _);have ud:=hkz.grown eh (fun he=>by injection he with he;omega);have b3:Below Z2.heap.size Z2 (Z2.alloc (.cells #[.int .i64 kk,.int .i64 ff,.int .i64 gf,.int .i64 gl,.bool gfar,.int .i64 gpc,.slice B2 m2 d2,.bool vov] 32)):=(Below.refl _ _).alloc (Nat.le_refl _) _;have cP:=ud.below b3 ud.lt;have pQ:=cc.below b3 cc.lt;have pR:Blk (Z2.alloc (.cells #[.int .i64 kk,.int .i64 ff,.int .i64 gf,.int .i64 gl,.bool gfar,.int .i64 gpc,.slice B2 m2 d2,.bool vov] 32)) Z2.heap.size 32 #[.int .i64 kk,.int .i64 ff,.int .i64 gf,.int .i64 gl,.bool gfar,.int .i64 gpc,.slice B2 m2 d2,.bool vov]:=Blk.new _ _ _;have pP:=zAa tH b3 tH.size;have oG:=hrow.below b3;have tU:st.T.length=m3:=pD.len;obtain ⟨b4,CY⟩:∃b,st.bad=b:=⟨_,rfl⟩
  obtain ⟨b5,CX⟩:∃b,st.lost=b:=⟨_,rfl⟩
  rw [CY,CX] at pQ;have qu:=qH (show zRw F.L S=(b4||!decide (m3=0)) by unfold zRw;rw [DQ.out,CY,←tU];cases st.T<;>simp);have cB:=qH (show zVr F.L S=b5 by unfold zVr;rw [DQ.out,CX]);clear pD BL BK cc b3 ud hkz hwz eh oE hrow tH tU CY CX DQ tY;go_upto_region 3 with fail
  generalize Z2.alloc (.cells #[.int .i64 kk,.int .i64 ff,.int .i64 gf,.int .i64 gl,.bool gfar,.int .i64 gpc,.slice B2 m2 d2,.bool vov] 32)=Z3 at cP pQ pR pP oG ⊢;generalize Z2.heap.size=a7 at pR ⊢;obtain ⟨-,-,-,c3,c4,c5⟩:=cQ6 pQ;have y0:Z3.cell? ⟨a1,0,none⟩=some (.int .i64 0):=(cP.cell 0).trans rfl;have jR:=cP.frozen 0;have y1:Z3.cell? ⟨a1,1,none⟩=some (.int .i64 0):=(cP.cell 1).trans rfl;have jQ:=cP.frozen 1;have y2:Z3.cell? ⟨a1,2,none⟩=some (.int .i64 0):=(cP.cell 2).trans rfl;have ln:=cP.frozen 2;have y3:Z3.cell? ⟨a1,3,none⟩=some (.int .i64 0):=(cP.cell 3).trans rfl;have ll:=cP.frozen 3;have y4:Z3.cell? ⟨a1,4,none⟩=some (.bool false):=(cP.cell 4).trans rfl;have lk:=cP.frozen 4;have y5:Z3.cell? ⟨a1,5,none⟩=some (.int .i64 0):=(cP.cell 5).trans rfl;have lj:=cP.frozen 5;have y6:Z3.cell? ⟨a1,6,none⟩=some (.slice none 0 0):=(cP.cell 6).trans rfl;have li:=cP.frozen 6;have y7:Z3.cell? ⟨a1,7,none⟩=some (.bool false):=(cP.cell 7).trans rfl;have lh:=cP.frozen 7;obtain ⟨f0,f1,f2,f3,f4,f5,f6,f7⟩:=cQ8 pR;have hge:w.heap.size≤a1:=by have:=gL.out;omega
  have SZ:=qH (cP.store8 (.int .i64 0) (.int .i64 0) (.int .i64 0) (.int .i64 0) (.bool false) (.int .i64 0) (.slice none 0 0) (.bool false));have BZ:=qH (zAd pP hge (.int .i64 0) (.int .i64 0) (.int .i64 0) (.int .i64 0) (.bool false) (.int .i64 0) (.slice none 0 0) (.bool false));have SV:=qH (cP.store8 (.int .i64 kk) (.int .i64 ff) (.int .i64 gf) (.int .i64 gl) (.bool gfar) (.int .i64 gpc) (.slice B2 m2 d2) (.bool vov));have BV:=qH (zAd pP hge (.int .i64 kk) (.int .i64 ff) (.int .i64 gf) (.int .i64 gl) (.bool gfar) (.int .i64 gpc) (.slice B2 m2 d2) (.bool vov));have tX:a1 < Z.heap.size:=eZ.out;have RV:=qH ((oG.store8 tX (.int .i64 kk) (.int .i64 ff) (.int .i64 gf) (.int .i64 gl) (.bool gfar) (.int .i64 gpc) (.slice B2 m2 d2) (.bool vov)).mono (Nat.le_of_lt (Nat.lt_of_le_of_lt hge tX)));clear cP pQ pR pP oG tX hge;by_cases hbd:b4=true∨¬m3=0
  ·have HE:=qH (show zDe F.L S=6 by unfold zDe;rw [qu.out];rcases hbd with h | h<;>simp [h]);have HO:=qH (show zEt F.L S=o0 by unfold zEt;rw [HE.out];rfl)
   cases b4 with
   | true =>
    clear hbd c3 c5;go_wp2_with fail
    exact zAD rfl rfl rfl SZ.out Tryz.underlying32 rfl (by kernel_rfl) rfl (by rw [HE.out,HO.out];exact ⟨none,0,0,rfl,Row.none_ _ _ _,rfl,BZ.out⟩)
   | false =>
    have i1:0 < m3:=by have:=hbd.resolve_left (by simp);omega
    clear hbd c5;go_wp2_with fail
    exact zAD rfl rfl rfl SZ.out Tryz.underlying32 rfl (by kernel_rfl) rfl (by rw [HE.out,HO.out];exact ⟨none,0,0,rfl,Row.none_ _ _ _,rfl,BZ.out⟩)
  ·have aI:b4=false:=by cases b4<;>simp at hbd ⊢
   subst aI;have hm0:m3=0:=by simpa using hbd
   subst hm0;clear hbd
   cases b5 with
   | true =>
    have HE:=qH (show zDe F.L S=8 by unfold zDe;rw [qu.out,cB.out];rfl);have HO:=qH (show zEt F.L S=o0 by unfold zEt;rw [HE.out];rfl);go_wp2_with fail
    exact zAD rfl rfl rfl SZ.out Tryz.underlying32 rfl (by kernel_rfl) rfl (by rw [HE.out,HO.out];exact ⟨none,0,0,rfl,Row.none_ _ _ _,rfl,BZ.out⟩)
   | false =>
    have HE:=qH (show zDe F.L S=0 by unfold zDe;rw [qu.out,cB.out];rfl);have HO:=qH (show zEt F.L S=⟨kk,ff,⟨gf,gl,gfar,gpc⟩,path,vov⟩ by unfold zEt;rw [HE.out,if_pos rfl];exact EOV.out);go_wp2_with fail
    exact zAD rfl rfl rfl SV.out Tryz.underlying32 rfl (by kernel_rfl) rfl (by rw [HE.out,HO.out];exact ⟨B2,m2,d2,rfl,RV.out,gE.out,BV.out⟩)
noncomputable def rdE (L:List Fg) (re lo:Int) (S:List UInt8):Int:=if zAy L re lo S=0 then zDe L S else zAy L re lo S
noncomputable def rdO (L:List Fg) (re lo:Int) (S:List UInt8):Og:=if zAy L re lo S=0 then zEt L S else o0
theorem zBP {L:List Fg} {re lo:Int} {S:List UInt8} (h:zAy L re lo S=0):S.length≤8000∧frB L re lo=true:=by
 unfold zAy at h;split at h
 ·rename_i h1;split at h
  ·omega
  ·exact ⟨by omega,h1⟩
 ·omega
theorem zEo (L:List Fg) (re lo:Int) (S:List UInt8):zAy L re lo S=0∨zAy L re lo S=2∨zAy L re lo S=7:=by
 unfold zAy;split
 ·split<;>omega
 ·omega
set_option maxHeartbeats 6400000 in
theorem zHn (F:Fm) (S:List UInt8) (w:World) (hA:Fgs w F.A F.n F.L) (hc:F.n≤F.c) (ht:Tabs w) :
  Calls Tryz.prog 17 #[frV F.A F.n F.c F.re F.lo,.string (bA S)] w (OpErr w (rdO F.L F.re F.lo S) (rdE F.L F.re F.lo S)):=by
 have ah:Below w.heap.size w ((w.alloc (.cells #[.slice F.A F.n F.c,.int .i64 F.re,.int .i64 F.lo] 24)).alloc (.cells #[.int .i64 0,.int .i64 0,.int .i64 0,.int .i64 0,.bool false,.int .i64 0,.slice none 0 0,.bool false] 32)):=((Below.refl _ _).alloc (Nat.le_refl _) _).alloc (by simp) _;have hk0:Blk ((w.alloc (.cells #[.slice F.A F.n F.c,.int .i64 F.re,.int .i64 F.lo] 24)).alloc (.cells #[.int .i64 0,.int .i64 0,.int .i64 0,.int .i64 0,.bool false,.int .i64 0,.slice none 0 0,.bool false] 32)) w.heap.size 24 #[.slice F.A F.n F.c,.int .i64 F.re,.int .i64 F.lo]:=(Blk.new w _ _).alloc _;have aq:Blk ((w.alloc (.cells #[.slice F.A F.n F.c,.int .i64 F.re,.int .i64 F.lo] 24)).alloc (.cells #[.int .i64 0,.int .i64 0,.int .i64 0,.int .i64 0,.bool false,.int .i64 0,.slice none 0 0,.bool false] 32)) (w.heap.size+1) 32 #[.int .i64 0,.int .i64 0,.int .i64 0,.int .i64 0,.bool false,.int .i64 0,.slice none 0 0,.bool false]:=by
  have:=Blk.new (w.alloc (.cells #[.slice F.A F.n F.c,.int .i64 F.re,.int .i64 F.lo] 24)) 32 #[.int .i64 0,.int .i64 0,.int .i64 0,.int .i64 0,.bool false,.int .i64 0,.slice none 0 0,.bool false]
  rwa [World.size_alloc] at this
 have HA:=qH hA;have HT:=qH ht;obtain ⟨E,hE⟩:∃E,zAy F.L F.re F.lo S=E:=⟨_,rfl⟩
 have hcs:=zEo F.L F.re F.lo S;rw [hE] at hcs;have kY:=qH (fun wx (hx:Fgs wx F.A F.n F.L)=>zDd F.A F.n F.c F.L F.re F.lo S wx hx hc);simp only [hE] at kY;have HE:=qH hE;obtain ⟨a1,cM⟩:∃a,a=w.heap.size+1:=⟨_,rfl⟩
 have hge:w.heap.size≤a1:=by omega
 have dy:=qH hge;clear hA ht hE hge;go_enter Tryz.func17,Tryz.ntmps17;go_wp2_with fail
 generalize ((w.alloc (.cells #[.slice F.A F.n F.c,.int .i64 F.re,.int .i64 F.lo] 24)).alloc (.cells #[.int .i64 0,.int .i64 0,.int .i64 0,.int .i64 0,.bool false,.int .i64 0,.slice none 0 0,.bool false] 32))=Y at ah hk0 aq ⊢;rw [←cM] at aq ⊢;clear cM;refine (kY.out Y (HA.out.below ah)).mono ?_;rintro e Y2 ⟨rfl,ai⟩;have hk2:=aq.below ai aq.lt;have bt:=hk0.below ai hk0.lt;have al:=zAa ah ai ah.size;clear aq hk0 ah ai kY;by_cases h0:E=0
 ·subst h0;have hS:=(zBP HE.out).1;have HR:=qH (show rdE F.L F.re F.lo S=zDe F.L S∧rdO F.L F.re F.lo S=zEt F.L S by unfold rdE rdO;rw [HE.out];exact ⟨rfl,rfl⟩);have jy:=qH (zHm F S Y2 (HA.out.below al) (by omega) (HT.out.below al));obtain ⟨v0,v1,v2⟩:=cQ3 bt;clear hcs hS bt;go_wp2_with fail
  refine jy.out.mono ?_;rintro e Y3 ⟨B2,m2,d2,rfl,hrow,db,aI⟩;have gE:=qH db;have cc:=hk2.below aI hk2.lt;have hlt2:a1 < Y2.heap.size:=hk2.lt;have aw:=zAa al aI al.size;have HO:=qH HR.out.2;obtain ⟨ov,eov⟩:∃x,zEt F.L S=x:=⟨_,rfl⟩
  rw [eov] at hrow gE HO ⊢;clear eov db;obtain ⟨kk,ff,⟨gf,gl,gfar,gpc⟩,path,vov⟩:=ov;have y0:Y3.cell? ⟨a1,0,none⟩=some (.int .i64 0):=(cc.cell 0).trans rfl;have jR:=cc.frozen 0;have y1:Y3.cell? ⟨a1,1,none⟩=some (.int .i64 0):=(cc.cell 1).trans rfl;have jQ:=cc.frozen 1;have y2:Y3.cell? ⟨a1,2,none⟩=some (.int .i64 0):=(cc.cell 2).trans rfl;have ln:=cc.frozen 2;have y3:Y3.cell? ⟨a1,3,none⟩=some (.int .i64 0):=(cc.cell 3).trans rfl;have ll:=cc.frozen 3;have y4:Y3.cell? ⟨a1,4,none⟩=some (.bool false):=(cc.cell 4).trans rfl;have lk:=cc.frozen 4;have y5:Y3.cell? ⟨a1,5,none⟩=some (.int .i64 0):=(cc.cell 5).trans rfl;have lj:=cc.frozen 5;have y6:Y3.cell? ⟨a1,6,none⟩=some (.slice none 0 0):=(cc.cell 6).trans rfl;have li:=cc.frozen 6;have y7:Y3.cell? ⟨a1,7,none⟩=some (.bool false):=(cc.cell 7).trans rfl;have lh:=cc.frozen 7;have SV:=qH (cc.store8 (.int .i64 kk) (.int .i64 ff) (.int .i64 gf) (.int .i64 gl) (.bool gfar) (.int .i64 gpc) (.slice B2 m2 d2) (.bool vov));have BV:=qH (zAd aw dy.out (.int .i64 kk) (.int .i64 ff) (.int .i64 gf) (.int .i64 gl) (.bool gfar) (.int .i64 gpc) (.slice B2 m2 d2) (.bool vov));have RV:=qH ((hrow.store8 hlt2 (.int .i64 kk) (.int .i64 ff) (.int .i64 gf) (.int .i64 gl) (.bool gfar) (.int .i64 gpc) (.slice B2 m2 d2) (.bool vov)).mono (Nat.le_trans dy.out (Nat.le_of_lt hlt2)));have Fs:=HR.out.1;have HER:=qH Fs;clear hk2 al aI aw cc hrow v0 v1 v2 jy Fs HR hlt2;go_wp2_with fail
  exact zAD rfl rfl rfl SV.out Tryz.underlying32 rfl (by kernel_rfl) rfl (by rw [HER.out,HO.out];exact ⟨B2,m2,d2,rfl,RV.out,gE.out,BV.out⟩)
 ·have HR:=qH (show rdE F.L F.re F.lo S=E∧rdO F.L F.re F.lo S=o0 by unfold rdE rdO;rw [HE.out,if_neg h0,if_neg h0];exact ⟨rfl,rfl⟩);have SZ:=qH (hk2.store8 (.int .i64 0) (.int .i64 0) (.int .i64 0) (.int .i64 0) (.bool false) (.int .i64 0) (.slice none 0 0) (.bool false));have BZ:=qH (zAd al dy.out (.int .i64 0) (.int .i64 0) (.int .i64 0) (.int .i64 0) (.bool false) (.int .i64 0) (.slice none 0 0) (.bool false));have y0:Y2.cell? ⟨a1,0,none⟩=some (.int .i64 0):=(hk2.cell 0).trans rfl;have jR:=hk2.frozen 0;have y1:Y2.cell? ⟨a1,1,none⟩=some (.int .i64 0):=(hk2.cell 1).trans rfl;have jQ:=hk2.frozen 1;have y2:Y2.cell? ⟨a1,2,none⟩=some (.int .i64 0):=(hk2.cell 2).trans rfl;have ln:=hk2.frozen 2;have y3:Y2.cell? ⟨a1,3,none⟩=some (.int .i64 0):=(hk2.cell 3).trans rfl;have ll:=hk2.frozen 3;have y4:Y2.cell? ⟨a1,4,none⟩=some (.bool false):=(hk2.cell 4).trans rfl;have lk:=hk2.frozen 4;have y5:Y2.cell? ⟨a1,5,none⟩=some (.int .i64 0):=(hk2.cell 5).trans rfl;have lj:=hk2.frozen 5;have y6:Y2.cell? ⟨a1,6,none⟩=some (.slice none 0 0):=(hk2.cell 6).trans rfl;have li:=hk2.frozen 6;have y7:Y2.cell? ⟨a1,7,none⟩=some (.bool false):=(hk2.cell 7).trans rfl;have lh:=hk2.frozen 7;rcases hcs.resolve_left h0 with rfl | rfl
  all_goals clear hk2 al bt h0 hcs
  all_goals go_wp2_with fail
  all_goals exact zAD rfl rfl rfl SZ.out Tryz.underlying32 rfl (by kernel_rfl) rfl (by rw [HR.out.1,HR.out.2];exact ⟨none,0,0,rfl,Row.none_ _ _ _,rfl,BZ.out⟩)
theorem zSY {L:List Fg} (hL:L.length≤17592186043904) {n:Nop} (h:okN n):OgOk (oOf L n)∧∀x∈(oOf L n).path,SgOk x.s:=by
 have hx:∀f:Fg,(zAK L f:Int)≤17592186043904:=fun f=>by have:=zDp (f:=f) (L:=L);omega
 have hs:∀x:Nst,zBX x→SgOk (sOf L x):=fun x sE=>by
  obtain ⟨_,h1,h2,h3,h4⟩:=sE;have:=hx x.f;exact ⟨⟨by simp only [sOf];omega,by simp only [sOf];omega⟩,⟨by simp only [sOf];omega,by simp only [sOf];omega⟩,⟨by simp only [sOf];omega,by simp only [sOf];omega⟩⟩
 have tM:SgOk s0:=⟨⟨by simp [s0],by simp [s0]⟩,⟨by simp [s0],by simp [s0]⟩,⟨by simp [s0],by simp [s0]⟩⟩;obtain ⟨h1,h2⟩:=h;obtain ⟨k,f,fr,path,over⟩:=n;have hf:=hx f;unfold zGX at h2;simp only at h1 h2;have vH:∀x∈(List.map (pOf L) ([]:List (Nst×Bool))),SgOk x.s:=fun x hx=>by simp at hx
 rcases h2 with ⟨e,rfl,rfl,rfl⟩ | ⟨e,rfl,rfl⟩ | ⟨e,⟨x,rfl,sE⟩,hp,rfl⟩ | ⟨e,⟨x,rfl,sE⟩,rfl⟩ | ⟨e,⟨g,rfl,hg⟩,rfl⟩
 ·exact ⟨⟨⟨by simp only [oOf];omega,by simp only [oOf];omega⟩,⟨by simp only [oOf];omega,by simp only [oOf];omega⟩,tM⟩,vH⟩
 ·exact ⟨⟨⟨by simp only [oOf];omega,by simp only [oOf];omega⟩,⟨by simp only [oOf];omega,by simp only [oOf];omega⟩,tM⟩,vH⟩
 ·refine ⟨⟨⟨by simp only [oOf];omega,by simp only [oOf];omega⟩,⟨by simp only [oOf];omega,by simp only [oOf];omega⟩,hs x sE⟩,fun y hy=>?_⟩;obtain ⟨z,hz,rfl⟩:=List.mem_map.1 hy;exact hs z.1 (hp z hz)
 ·exact ⟨⟨⟨by simp only [oOf];omega,by simp only [oOf];omega⟩,⟨by simp only [oOf];omega,by simp only [oOf];omega⟩,hs x sE⟩,vH⟩
 ·have hgo:zBX ⟨g,0,false,0⟩:=⟨hg,by simp,by simp,by simp,by simp⟩;exact ⟨⟨⟨by simp only [oOf];omega,by simp only [oOf];omega⟩,⟨by simp only [oOf];omega,by simp only [oOf];omega⟩,hs _ hgo⟩,vH⟩
theorem zPt:OgOk o0∧∀x∈o0.path,SgOk x.s :=
 ⟨⟨⟨by simp [o0],by simp [o0]⟩,⟨by simp [o0],by simp [o0]⟩,⟨⟨by simp [o0,s0],by simp [o0,s0]⟩,⟨by simp [o0,s0],by simp [o0,s0]⟩,⟨by simp [o0,s0],by simp [o0,s0]⟩⟩⟩,fun x hx=>by simp [o0] at hx⟩
theorem zPu {L:List Fg} {S:List UInt8} (h:zRw L S=false):∃n,okN n∧S=zCb n∧(opR L ⟨zBp S,false,false⟩).1=oOf L n∧zVr L S=zAB L n:=by
 unfold zRw at h;simp only [Bool.or_eq_false_iff,Bool.not_eq_false',List.isEmpty_iff] at h;obtain ⟨n,h1,h2,h3,h4⟩:=zRo h.1 h.2;exact ⟨n,h1,zIT h2,h3,h4⟩
theorem zVM (L:List Fg) {n:Nop} (h:okN n):zRw L (zCb n)=false∧(opR L ⟨zBp (zCb n),false,false⟩).1=oOf L n∧zVr L (zCb n)=zAB L n:=by
 unfold zRw zVr;rw [zDR,zXc L h];exact ⟨rfl,rfl,rfl⟩
theorem zEW (L:List Fg) {n:Nop} (h:okN n):zDe L (zCb n)=(if zAB L n then 8 else 0)∧zEt L (zCb n)=(if zAB L n then o0 else oOf L n):=by
 obtain ⟨h1,h2,h3⟩:=zVM L h;have he:zDe L (zCb n)=(if zAB L n then 8 else 0):=by unfold zDe;rw [h1,h3];rfl
 refine ⟨he,?_⟩;unfold zEt;rw [he,h2]
 cases zAB L n<;>rfl
theorem zKn (L:List Fg) {S:List UInt8} (h:∀n,okN n→S≠zCb n):zDe L S=6∧zEt L S=o0:=by
 have hb:zRw L S=true:=by
  cases e:zRw L S with
  | true=>rfl
  | false =>
   obtain ⟨n,h1,h2,_⟩:=zPu e;exact absurd h2 (h n h1)
 have he:zDe L S=6:=by unfold zDe;rw [hb];rfl
 exact ⟨he,by unfold zEt;rw [he];rfl⟩
theorem zPv {L:List Fg} (hL:L.length≤17592186043904) (S:List UInt8):OgOk (zEt L S)∧∀x∈(zEt L S).path,SgOk x.s:=by
 by_cases h:∃n,okN n∧S=zCb n
 ·obtain ⟨n,h1,rfl⟩:=h;rw [(zEW L h1).2]
  cases zAB L n with
  | true=>exact zPt
  | false=>exact zSY hL h1
 ·rw [(zKn L fun n h1 h2=>h ⟨n,h1,h2⟩).2];exact zPt
noncomputable def zAQ (L:List Fg):List (List UInt8)→List Og→List Og×Nat×Int
 | [],O=>(O,O.length,0)
 | [p],O=>if p=[] then (O,O.length,0) else ([],O.length,6)
 | p :: q :: r,O=>if zDe L p=0 then zAQ L (q :: r) (O++[zEt L p]) else ([],O.length,zDe L p)
theorem zJe {c:UInt8}:∀{R:List UInt8},c∈R→∃h r,R=h++c :: r∧c ∉ h
 | [],hc=>by simp at hc
 | x :: R,hc=>by
  by_cases e:x=c
  ·exact ⟨[],R,by rw [e];rfl,by simp⟩
  ·have hR:c∈R:=by
    rcases List.mem_cons.1 hc with h | h
    ·exact absurd h.symm e
    ·exact h
   obtain ⟨h,r,rfl,hh⟩:=zJe hR
   exact ⟨x :: h,r,rfl,fun hm=>by
    rcases List.mem_cons.1 hm with h1 | h1
    ·exact e h1.symm
    ·exact hh h1⟩
theorem zPw (L:List Fg) (O:List Og):zAQ L (zAR 10 []) O=(O,O.length,0):=rfl
theorem zNA (L:List Fg) {R:List UInt8} (h:(10:UInt8) ∉ R) (h0:R≠[]) (O:List Og):zAQ L (zAR 10 R) O=([],O.length,6):=by
 rw [zEI h,zAQ,if_neg h0]
theorem zNB (L:List Fg) {h r:List UInt8} (hc:(10:UInt8) ∉ h) (O:List Og):zAQ L (zAR 10 (h++10 :: r)) O=if zDe L h=0 then zAQ L (zAR 10 r) (O++[zEt L h]) else ([],O.length,zDe L h):=by
 rw [zCL hc]
 cases e:zAR 10 r with
 | nil=>exact absurd e (zFA 10 r)
 | cons q s=>rw [zAQ]
structure OpsOwn (w:World) (base:Nat) (A:Option Addr) (n c:Nat) (Es:List Oe):Prop where
 row:Row w base 8 A n c (Es.flatMap zSQ)
 ok:∀e∈Es,OgOk e.o∧Stps w e.A e.n e.o.path∧e.n≤e.c∧∀k,blk e.A=some k→k < w.heap.size∧blk A≠some k
section
variable {w w':World} {base:Nat} {A:Option Addr} {n c:Nat} {Es:List Oe}
theorem OpsOwn.none_ (w:World) (base:Nat):OpsOwn w base none 0 0 []:=⟨Row.none_ _ _ _,by simp⟩
theorem OpsOwn.below (h:OpsOwn w base A n c Es) (hb:Below w.heap.size w w'):OpsOwn w' base A n c Es :=
 ⟨h.row.below hb,fun e he=>by obtain ⟨h1,h2,h3,h4⟩:=h.ok e he;exact ⟨h1,h2.below hb,h3,fun k hk=>⟨Nat.lt_of_lt_of_le (h4 k hk).1 hb.size,(h4 k hk).2⟩⟩⟩
theorem OpsOwn.mono {base':Nat} (h:OpsOwn w base A n c Es) (hb:base'≤base):OpsOwn w base' A n c Es:=⟨h.row.mono hb,h.ok⟩
theorem Stps.kept {B:Option Addr} {m:Nat} {P:List Sp} {row:Option Nat} (h:Stps w B m P) (hg:w.grownBy w' row) (hne:∀k,blk B=some k→row≠some k):Stps w' B m P:=by
 refine ⟨⟨h.1.1,h.1.2.1,fun h0=>?_⟩,h.2⟩;obtain ⟨g,o,e,hb,hc⟩:=h.1.2.2 h0;subst e;refine ⟨g,o,rfl,Nat.lt_of_lt_of_le hb hg.size,fun j x hx q v hv=>?_⟩;rw [World.cell?_of_block (w:=w) (w':=w') (hg.block g hb (fun e=>hne g rfl e.symm))];exact hc j x hx q v hv
theorem OpsOwn.push {A':Option Addr} {N c':Nat} (h:OpsOwn w base A n c Es) (e:Oe) (he:OgOk e.o∧Stps w e.A e.n e.o.path∧e.n≤e.c∧∀k,blk e.A=some k→k < w.heap.size∧blk A≠some k)
  (hr:Row w' base 8 A' N c' ((Es++[e]).flatMap zSQ)) (hg:w.grownBy w' (blk A)) (hl:∀k,blk A'=some k→blk A=some k∨w.heap.size≤k):OpsOwn w' base A' N c' (Es++[e]):=by
 refine ⟨hr,fun x hx=>?_⟩;have oE:OgOk x.o∧Stps w x.A x.n x.o.path∧x.n≤x.c∧∀k,blk x.A=some k→k < w.heap.size∧blk A≠some k:=by
  rcases List.mem_append.1 hx with h1 | h1
  ·exact h.ok x h1
  ·rw [List.mem_singleton.1 h1];exact he
 obtain ⟨h1,h2,h3,h4⟩:=oE;refine ⟨h1,h2.kept hg (fun k hk=>(h4 k hk).2),h3,fun k hk=>⟨Nat.lt_of_lt_of_le (h4 k hk).1 hg.size,fun e2=>?_⟩⟩;rcases hl k e2 with h5 | h5
 ·exact (h4 k hk).2 h5
 ·have:=(h4 k hk).1;omega
theorem OpsOwn.oprs (h:OpsOwn w base A n c Es) (hn:n≤1000000):Oprs w A n Es :=
 ⟨h.row.els (fun _=>rfl) (by omega) (by omega),fun e he=>by obtain ⟨h1,h2,h3,_⟩:=h.ok e he;exact ⟨h1,h2,h3⟩⟩
end
theorem zUj {w:World} {ops:Array Oper} {rest:List Oper} {o:Oper} {a:Act} {Q:Exit→Act→World→Prop} (hgd:o.guard=none) (s x:Operand)
  (ho:o.op=.call { callee:=.builtin .append,args:=#[s,x],argTypes:=#[38,38] })
  {base:Nat} {A:Option Addr} {n c:Nat} {Es:List Oe} (hst:Row w base 8 A n c (Es.flatMap zSQ)) (y:Oe)
  (hs:a.eval s=.slice A n c) (hx:a.eval x=.slice (some ⟨w.heap.size,0,none⟩) 1 1) (N:Nat) (hN:n+1=N) (hn:N≤1000000) (hbase:base≤w.heap.size)
  (h:∀A' c' w',Row w' base 8 A' N c' ((Es++[y]).flatMap zSQ)→w.grownBy w' (blk A)→(∀k,blk A'=some k→blk A=some k∨w.heap.size≤k)→wpList Tryz.prog ops Q rest (a.put o.dst (.slice A' N c')) w') :
  wpList Tryz.prog ops Q (o :: rest) a (w.alloc (.cells #[.int .i64 y.o.kind,.int .i64 y.o.f,.int .i64 y.o.fr.f,.int .i64 y.o.fr.l,.bool y.o.fr.far,.int .i64 y.o.fr.pc,.slice y.A y.n y.c,.bool y.o.over] 32)):=by
 obtain ⟨i0,hi,ci,be,cH⟩:=info_parts zVJ;have hbl:=(Below.refl w.heap.size w).alloc (Nat.le_refl _) (.cells #[.int .i64 y.o.kind,.int .i64 y.o.f,.int .i64 y.o.fr.f,.int .i64 y.o.fr.l,.bool y.o.fr.far,.int .i64 y.o.fr.pc,.slice y.A y.n y.c,.bool y.o.over] 32);have cE:=hst.below hbl
 refine zQL hgd s x 38 ho 32 i0 _ 8 80 Tryz.underlying38 hi ci be cH rfl (by decide) cE (Src.new (m:=1) (cs:=zSQ y) rfl)
  (by intro u hu;simp [zSQ] at hu;rcases hu with rfl | rfl | rfl | rfl | rfl | rfl | rfl | rfl<;>rfl) hs hx N hN (by unfold maxLen;omega) (by omega) (by simp;omega) ?_
 intro A' c' w' h1 h2 h3 _;refine h A' c' w' (by rw [List.flatMap_append];simpa using h1) ?_ (fun k hk=>?_)
 ·exact zAb (zAz hbl) h2
 ·rcases h3 k hk with e | e
  ·exact .inl e
  ·exact .inr (by simp at e;omega)
theorem zRx (s:List UInt8) (hs:s.length≤100000) (w:World) (ht:Tabs w) :
  Calls Tryz.prog 62 #[.string (bA s),.string ⟨#[10]⟩] w fun e w'=>e=.returned (.tuple #[.string (bA (Lib.cut s [10]).1),.string (bA (Lib.cut s [10]).2.1),.bool (Lib.cut s [10]).2.2])∧Below w.heap.size w w':=by
 obtain ⟨m,hm⟩:=ht.most;have h:=Tryz.strings_Cut (bA s) (bA [10]) m w (by rw [zAL];omega) hm;rw [zDq,zDq] at h;refine h.mono ?_;rintro e w' ⟨rfl,n,rfl⟩;exact ⟨rfl,zAf (Below.refl _ _) n⟩
def zGc (w0:World) (O:List Og) (n er:Int) (e:Ending) (w':World):Prop :=
 ∃B m d Es,e=.returned (.tuple #[.slice B m d,.int .i64 n,.int .i64 er])∧List.map (fun x:Oe=>x.o) Es=O∧m≤1000000∧OpsOwn w' w0.heap.size B m d Es∧Below w0.heap.size w0 w'
end Go.Proofs.YtlmdfmnbcndhoaaGreatDoor
