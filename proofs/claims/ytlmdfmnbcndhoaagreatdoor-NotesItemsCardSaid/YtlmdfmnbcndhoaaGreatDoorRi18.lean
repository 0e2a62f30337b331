/-
  Lemmas, part 18. Conditions: each theorem's own.
-/
import Derived.Test.YtlmdfmnbcndhoaaGreatDoorRi16
import Derived.Test.YtlmdfmnbcndhoaaGreatDoorRi17
import Derived.Test.YtlmdfmnbcndhoaaGreatDoorRi13
namespace Go.Proofs.YtlmdfmnbcndhoaaGreatDoor
open Go.RowKit
theorem zON (rb:Nat) (F:Fm) (s:RS) (w:World) (h:RX w rb F s) (hT:s.T.length≤100000) :
  Calls Tryz.prog 98 #[.pointer (some ⟨rb,0,none⟩)] w (zEk w rb F (opR F.L s).1 (opR F.L s).2):=by
 by_cases h3:zBx (xa s.T 0)=3
 ·exact zLc rb F s w h hT h3
 by_cases h6:zBx (xa s.T 0)=6∨zBx (xa s.T 0)=7
 ·exact zLe rb F s w h hT h6
 ·exact zLd rb F s w h hT ⟨h3,fun e=>h6 (.inl e),fun e=>h6 (.inr e)⟩
def zAA (L:List Fg) (re lo:Int) (S:List UInt8):Int:=if frB L re lo then (if 8000 < S.length then 7 else 0) else 2
theorem zDb (A:Option Addr) (n c:Nat) (L:List Fg) (re lo:Int) (S:List UInt8) (w:World) (hA:Fgs w A n L) (hc:n≤c) :
  Calls Tryz.prog 51 #[frV A n c re lo,.string (bA S)] w fun e w'=>e=.returned (.int .i64 (zAA L re lo S))∧Below w.heap.size w w':=by
 obtain ⟨b,hb⟩:∃b,frB L re lo=b:=⟨_,rfl⟩
 have hs:=zCo S;obtain ⟨n1,hn1⟩:∃n,S.length=n:=⟨_,rfl⟩
 have HR:=qH (show zAA L re lo S=if b then (if 8000 < n1 then 7 else 0) else 2 by unfold zAA;rw [hb,hn1]);rw [hn1] at hs;have hb0:Below w.heap.size w (w.alloc (.cells #[.slice A n c,.int .i64 re,.int .i64 lo] 24)):=(Below.refl _ _).alloc (Nat.le_refl _) _;have HV:=qH (zEx hb A n c _ (hA.below hb0) hc);have HB:=qH hb0;clear hb hn1 hb0;go_enter Tryz.func51,Tryz.ntmps51;go_wp2_with fail
 refine HV.out.mono ?_;rintro e w2 ⟨rfl,hb2⟩;have HB2:=qH (zAa HB.out hb2 HB.out.size);clear hb2 HV HB
 cases b with
 | false =>
  go_wp2_with fail
  go_ret;exact ⟨by rw [HR.out];rfl,HB2.out⟩
 | true =>
  by_cases h8:8000 < n1
  ·have i0:(8000:Int) < (n1:Int):=by omega
   have HR2:=qH (HR.out.trans (show _=(7:Int) by rw [if_pos rfl,if_pos h8]));clear h8 HR;go_wp2_with fail
   go_ret;exact ⟨by rw [HR2.out];rfl,HB2.out⟩
  ·have i0:¬(8000:Int) < (n1:Int):=by omega
   have HR2:=qH (HR.out.trans (show _=(0:Int) by rw [if_pos rfl,if_neg h8]));clear h8 HR;go_wp2_with fail
   go_ret;exact ⟨by rw [HR2.out];rfl,HB2.out⟩
noncomputable def zQV (L:List Fg) (S:List UInt8):Bool:=(opR L ⟨zBo S,false,false⟩).2.bad||!(opR L ⟨zBo S,false,false⟩).2.T.isEmpty
noncomputable def zUF (L:List Fg) (S:List UInt8):Bool:=(opR L ⟨zBo S,false,false⟩).2.lost
noncomputable def zEl (L:List Fg) (S:List UInt8):Int:=if zQV L S then 6 else if zUF L S then 8 else 0
def o0:Og:=⟨0,0,s0,[],false⟩
noncomputable def zGX (L:List Fg) (S:List UInt8):Og:=if zEl L S=0 then (opR L ⟨zBo S,false,false⟩).1 else o0
def zVe (w0:World) (o:Og) (er:Int) (e:Ending) (w':World):Prop :=
 ∃B m d,e=.returned (.tuple #[opV o B m d,.int .i64 er])∧Row w' w0.heap.size 5 B m d (o.path.flatMap zCj)∧m=o.path.length∧Below w0.heap.size w0 w'
theorem zVX (A:Option Addr) (n c:Nat) (re lo:Int) (B:Option Addr) (m d:Nat) (w:World):(Instr.build 123 #[(0,.agg #[.slice A n c,.int .i64 re,.int .i64 lo]),(1,.slice B m d)]).run Tryz.prog w=.ok (.agg (rdC A n c re lo B m d false false)) w:=run_build w _ _ _ (by kernel_rfl)
theorem zDA {a b:World} (h:Below a.heap.size a b) (o:Obj):Below a.heap.size a (b.alloc o):=h.alloc h.size o
set_option maxHeartbeats 6400000 in
theorem zGY (F:Fm) (S:List UInt8) (w:World) (hA:Fgs w F.A F.n F.L) (hS:S.length≤20000) (ht:Tabs w) :
  Calls Tryz.prog 52 #[frV F.A F.n F.c F.re F.lo,.string (bA S)] w (zVe w (zGX F.L S) (zEl F.L S)):=by
 have hb0:Below w.heap.size w ((w.alloc (.cells #[.slice F.A F.n F.c,.int .i64 F.re,.int .i64 F.lo] 24)).alloc (.cells #[.int .i64 0,.int .i64 0,.int .i64 0,.int .i64 0,.bool false,.int .i64 0,.slice none 0 0,.bool false] 32)):=((Below.refl _ _).alloc (Nat.le_refl _) _).alloc (by simp) _;have hk0:Blk ((w.alloc (.cells #[.slice F.A F.n F.c,.int .i64 F.re,.int .i64 F.lo] 24)).alloc (.cells #[.int .i64 0,.int .i64 0,.int .i64 0,.int .i64 0,.bool false,.int .i64 0,.slice none 0 0,.bool false] 32)) w.heap.size 24 #[.slice F.A F.n F.c,.int .i64 F.re,.int .i64 F.lo]:=(Blk.new w _ _).alloc _;have hk1:Blk ((w.alloc (.cells #[.slice F.A F.n F.c,.int .i64 F.re,.int .i64 F.lo] 24)).alloc (.cells #[.int .i64 0,.int .i64 0,.int .i64 0,.int .i64 0,.bool false,.int .i64 0,.slice none 0 0,.bool false] 32)) (w.heap.size+1) 32 #[.int .i64 0,.int .i64 0,.int .i64 0,.int .i64 0,.bool false,.int .i64 0,.slice none 0 0,.bool false]:=by
  have:=Blk.new (w.alloc (.cells #[.slice F.A F.n F.c,.int .i64 F.re,.int .i64 F.lo] 24)) 32 #[.int .i64 0,.int .i64 0,.int .i64 0,.int .i64 0,.bool false,.int .i64 0,.slice none 0 0,.bool false]
  rwa [World.size_alloc] at this
 have HA:=qH hA;have HT:=qH ht;have HSP:=qH (fun wx (hx:Tabs wx)=>zLf S (by omega) wx hx);obtain ⟨a1,ha1⟩:∃a,a=w.heap.size+1:=⟨_,rfl⟩
 have HA1:=qH ha1;clear hA ht;go_enter Tryz.func52,Tryz.ntmps52;go_wp2_with fail
 generalize (w.alloc (.cells #[.slice F.A F.n F.c,.int .i64 F.re,.int .i64 F.lo] 24)).alloc (.cells #[.int .i64 0,.int .i64 0,.int .i64 0,.int .i64 0,.bool false,.int .i64 0,.slice none 0 0,.bool false] 32)=Y at hb0 hk0 hk1 ⊢;rw [←ha1] at hk1 ⊢;clear ha1
 have KP:=qH (show ∀wx,Below Y.heap.size Y wx→(Below Y.heap.size Y wx∧wx.cell? ⟨w.heap.size,0,none⟩=some (.slice F.A F.n F.c)∧wx.cell? ⟨w.heap.size,1,none⟩=some (.int .i64 F.re)∧wx.cell? ⟨w.heap.size,2,none⟩=some (.int .i64 F.lo)) from
  fun wx h=>⟨h,((hk0.below h hk0.lt).cell 0).trans rfl,((hk0.below h hk0.lt).cell 1).trans rfl,((hk0.below h hk0.lt).cell 2).trans rfl⟩)
 have TB:=qH (fun wx (h:Below Y.heap.size Y wx)=>HT.out.below (zAa hb0 h hb0.size));go_upto_region 1 with fail
 first
  | go_region_held3 (fun wx=>Below Y.heap.size Y wx∧wx.cell? ⟨w.heap.size,0,none⟩=some (.slice F.A F.n F.c)∧wx.cell? ⟨w.heap.size,1,none⟩=some (.int .i64 F.re)∧wx.cell? ⟨w.heap.size,2,none⟩=some (.int .i64 F.lo)) (first | assumption | exact KP.out _ (Below.refl _ _).drew | exact KP.out _ (zAa (Below.refl Y.heap.size Y).drew (by assumption) (Nat.le_refl _)) | exact KP.out _ (zDA (zAa (Below.refl Y.heap.size Y).drew (by assumption) (Nat.le_refl _)) _))
    (first
     | (go_at_call 97;refine (HSP.out _ (TB.out _ (And.left (by assumption)))).mono ?_;rintro e wa ⟨B,m,d,rfl,hRa,hma,hba⟩))
  | fail
 all_goals
  have hbx:Below Y.heap.size Y wa:=zAa (Below.refl Y.heap.size Y).drew hba (Nat.le_refl _);have hbz:Below Y.heap.size Y (wa.alloc (.cells (rdC F.A F.n F.c F.re F.lo B m d false false) 123)):=zDA hbx _;have hwz:Below w.heap.size w (wa.alloc (.cells (rdC F.A F.n F.c F.re F.lo B m d false false) 123)):=zAa hb0 hbz hb0.size;have hbl:=(Below.refl wa.heap.size wa).alloc (Nat.le_refl _) (.cells (rdC F.A F.n F.c F.re F.lo B m d false false) 123)
  have hrx:RX (wa.alloc (.cells (rdC F.A F.n F.c F.re F.lo B m d false false) 123)) wa.heap.size F ⟨zBo S,false,false⟩ :=
   ⟨⟨B,m,d,Blk.new _ _ _,Els.below (hRa.txts (by omega)) hbl,hRa.cap,fun k hk=>(hRa.lt k hk).2⟩,HA.out.below hwz,fun h0 k hk=>by
    obtain ⟨g,o,e,hg,_⟩:=HA.out.1.2.2 h0
    rw [e] at hk
    injection hk with hk
    have hk':g=k:=hk
    have h1:=hb0.size
    have h2:=hbx.size
    omega⟩
  have hkz:=hk1.below hbz hk1.lt;have hlt1:a1 < wa.heap.size:=Nat.lt_of_lt_of_le hk1.lt hbx.size;have hTl:(zBo S).length≤100000:=by have:=zFv S;omega
  clear hba hRa hma hbl hbz hbx hk0 hk1 KP TB HSP;generalize wa.alloc (.cells (rdC F.A F.n F.c F.re F.lo B m d false false) 123)=Z at hrx hkz hwz ⊢;have HLT:Hid (a1 < Z.heap.size):=qH (Nat.lt_trans hlt1 hrx.lt);generalize wa.heap.size=rb at hrx hlt1 ⊢;have hOP:=zON rb F ⟨zBo S,false,false⟩ Z hrx hTl;obtain ⟨ov,eov⟩:∃x,(opR F.L ⟨zBo S,false,false⟩).1=x:=⟨_,rfl⟩
  obtain ⟨st,est⟩:∃x,(opR F.L ⟨zBo S,false,false⟩).2=x:=⟨_,rfl⟩
  rw [eov,est] at hOP;have HOP:=qH hOP;have EOV:=qH eov;have EST:=qH est;clear hOP eov est hTl;go_wp2_with fail
  refine HOP.out.mono ?_;rintro e Z2 ⟨B2,m2,d2,rfl,hrow,hm2,hx2,hg2⟩;have HM2:=qH hm2;clear hm2;obtain ⟨kk,ff,⟨gf,gl,gfar,gpc⟩,path,vov⟩:=ov;obtain ⟨B3,m3,d3,hk3,hT3,hmd3,hne3⟩:=hx2.rd.ex;have hwz2:Below w.heap.size w Z2:=zAa hwz (zBC hg2 (show w.heap.size≤rb by have:=HA1.out;omega) hwz.size) (Nat.le_refl _);have hkr2:=hkz.grown hg2 (fun he=>by injection he with he;omega);have b3:Below Z2.heap.size Z2 (Z2.alloc (.cells #[.int .i64 kk,.int .i64 ff,.int .i64 gf,.int .i64 gl,.bool gfar,.int .i64 gpc,.slice B2 m2 d2,.bool vov] 32)):=(Below.refl _ _).alloc (Nat.le_refl _) _;have hkr3:=hkr2.below b3 hkr2.lt;have hrd3:=hk3.below b3 hk3.lt;have hop3:Blk (Z2.alloc (.cells #[.int .i64 kk,.int .i64 ff,.int .i64 gf,.int .i64 gl,.bool gfar,.int .i64 gpc,.slice B2 m2 d2,.bool vov] 32)) Z2.heap.size 32 #[.int .i64 kk,.int .i64 ff,.int .i64 gf,.int .i64 gl,.bool gfar,.int .i64 gpc,.slice B2 m2 d2,.bool vov]:=Blk.new _ _ _;have hw3:=zAa hwz2 b3 hwz2.size;have hrow3:=hrow.below b3;have hm3:st.T.length=m3:=hT3.len;obtain ⟨b4,eb4⟩:∃b,st.bad=b:=⟨_,rfl⟩
  obtain ⟨b5,eb5⟩:∃b,st.lost=b:=⟨_,rfl⟩
  rw [eb4,eb5] at hrd3;have HPB:=qH (show zQV F.L S=(b4||!decide (m3=0)) by unfold zQV;rw [EST.out,eb4,←hm3];cases st.T<;>simp);have HPL:=qH (show zUF F.L S=b5 by unfold zUF;rw [EST.out,eb5]);clear hT3 hmd3 hne3 hk3 b3 hkr2 hkz hwz hg2 hx2 hrow hwz2 hm3 eb4 eb5 EST hlt1;go_upto_region 3 with fail
  generalize Z2.alloc (.cells #[.int .i64 kk,.int .i64 ff,.int .i64 gf,.int .i64 gl,.bool gfar,.int .i64 gpc,.slice B2 m2 d2,.bool vov] 32)=Z3 at hkr3 hrd3 hop3 hw3 hrow3 ⊢;generalize Z2.heap.size=a7 at hop3 ⊢;obtain ⟨-,-,-,c3,c4,c5⟩:=cQ6 hrd3;have y0:Z3.cell? ⟨a1,0,none⟩=some (.int .i64 0):=(hkr3.cell 0).trans rfl;have yz0:=hkr3.frozen 0;have y1:Z3.cell? ⟨a1,1,none⟩=some (.int .i64 0):=(hkr3.cell 1).trans rfl;have yz1:=hkr3.frozen 1;have y2:Z3.cell? ⟨a1,2,none⟩=some (.int .i64 0):=(hkr3.cell 2).trans rfl;have yz2:=hkr3.frozen 2;have y3:Z3.cell? ⟨a1,3,none⟩=some (.int .i64 0):=(hkr3.cell 3).trans rfl;have yz3:=hkr3.frozen 3;have y4:Z3.cell? ⟨a1,4,none⟩=some (.bool false):=(hkr3.cell 4).trans rfl;have yz4:=hkr3.frozen 4;have y5:Z3.cell? ⟨a1,5,none⟩=some (.int .i64 0):=(hkr3.cell 5).trans rfl;have yz5:=hkr3.frozen 5;have y6:Z3.cell? ⟨a1,6,none⟩=some (.slice none 0 0):=(hkr3.cell 6).trans rfl;have yz6:=hkr3.frozen 6;have y7:Z3.cell? ⟨a1,7,none⟩=some (.bool false):=(hkr3.cell 7).trans rfl;have yz7:=hkr3.frozen 7;obtain ⟨f0,f1,f2,f3,f4,f5,f6,f7⟩:=cQ8 hop3;have hge:w.heap.size≤a1:=by have:=HA1.out;omega
  have SZ:=qH (hkr3.store8 (.int .i64 0) (.int .i64 0) (.int .i64 0) (.int .i64 0) (.bool false) (.int .i64 0) (.slice none 0 0) (.bool false));have BZ:=qH (zAd hw3 hge (.int .i64 0) (.int .i64 0) (.int .i64 0) (.int .i64 0) (.bool false) (.int .i64 0) (.slice none 0 0) (.bool false));have SV:=qH (hkr3.store8 (.int .i64 kk) (.int .i64 ff) (.int .i64 gf) (.int .i64 gl) (.bool gfar) (.int .i64 gpc) (.slice B2 m2 d2) (.bool vov));have BV:=qH (zAd hw3 hge (.int .i64 kk) (.int .i64 ff) (.int .i64 gf) (.int .i64 gl) (.bool gfar) (.int .i64 gpc) (.slice B2 m2 d2) (.bool vov));have hlt9:a1 < Z.heap.size:=HLT.out;have RV:=qH ((hrow3.store8 hlt9 (.int .i64 kk) (.int .i64 ff) (.int .i64 gf) (.int .i64 gl) (.bool gfar) (.int .i64 gpc) (.slice B2 m2 d2) (.bool vov)).mono (Nat.le_of_lt (Nat.lt_of_le_of_lt hge hlt9)));clear hkr3 hrd3 hop3 hw3 hrow3 hlt9 hge;by_cases hbd:b4=true∨¬m3=0
  ·have HE:=qH (show zEl F.L S=6 by unfold zEl;rw [HPB.out];rcases hbd with h | h<;>simp [h]);have HO:=qH (show zGX F.L S=o0 by unfold zGX;rw [HE.out];rfl)
   cases b4 with
   | true =>
    clear hbd c3 c5;go_wp2_with fail
    exact zAV rfl rfl rfl SZ.out Tryz.underlying32 rfl (by kernel_rfl) rfl (by rw [HE.out,HO.out];exact ⟨none,0,0,rfl,Row.none_ _ _ _,rfl,BZ.out⟩)
   | false =>
    have i1:0 < m3:=by have:=hbd.resolve_left (by simp);omega
    clear hbd c5;go_wp2_with fail
    exact zAV rfl rfl rfl SZ.out Tryz.underlying32 rfl (by kernel_rfl) rfl (by rw [HE.out,HO.out];exact ⟨none,0,0,rfl,Row.none_ _ _ _,rfl,BZ.out⟩)
  ·have hb4:b4=false:=by cases b4<;>simp at hbd ⊢
   subst hb4;have hm0:m3=0:=by simpa using hbd
   subst hm0;clear hbd
   cases b5 with
   | true =>
    have HE:=qH (show zEl F.L S=8 by unfold zEl;rw [HPB.out,HPL.out];rfl);have HO:=qH (show zGX F.L S=o0 by unfold zGX;rw [HE.out];rfl);go_wp2_with fail
    exact zAV rfl rfl rfl SZ.out Tryz.underlying32 rfl (by kernel_rfl) rfl (by rw [HE.out,HO.out];exact ⟨none,0,0,rfl,Row.none_ _ _ _,rfl,BZ.out⟩)
   | false =>
    have HE:=qH (show zEl F.L S=0 by unfold zEl;rw [HPB.out,HPL.out];rfl);have HO:=qH (show zGX F.L S=⟨kk,ff,⟨gf,gl,gfar,gpc⟩,path,vov⟩ by unfold zGX;rw [HE.out,if_pos rfl];exact EOV.out);go_wp2_with fail
    exact zAV rfl rfl rfl SV.out Tryz.underlying32 rfl (by kernel_rfl) rfl (by rw [HE.out,HO.out];exact ⟨B2,m2,d2,rfl,RV.out,HM2.out,BV.out⟩)
noncomputable def rdE (L:List Fg) (re lo:Int) (S:List UInt8):Int:=if zAA L re lo S=0 then zEl L S else zAA L re lo S
noncomputable def rdO (L:List Fg) (re lo:Int) (S:List UInt8):Og:=if zAA L re lo S=0 then zGX L S else o0
theorem zBO {L:List Fg} {re lo:Int} {S:List UInt8} (h:zAA L re lo S=0):S.length≤8000∧frB L re lo=true:=by
 unfold zAA at h;split at h
 ·rename_i h1;split at h
  ·omega
  ·exact ⟨by omega,h1⟩
 ·omega
theorem zEm (L:List Fg) (re lo:Int) (S:List UInt8):zAA L re lo S=0∨zAA L re lo S=2∨zAA L re lo S=7:=by
 unfold zAA;split
 ·split<;>omega
 ·omega
set_option maxHeartbeats 6400000 in
theorem zGZ (F:Fm) (S:List UInt8) (w:World) (hA:Fgs w F.A F.n F.L) (hc:F.n≤F.c) (ht:Tabs w) :
  Calls Tryz.prog 17 #[frV F.A F.n F.c F.re F.lo,.string (bA S)] w (zVe w (rdO F.L F.re F.lo S) (rdE F.L F.re F.lo S)):=by
 have hb0:Below w.heap.size w ((w.alloc (.cells #[.slice F.A F.n F.c,.int .i64 F.re,.int .i64 F.lo] 24)).alloc (.cells #[.int .i64 0,.int .i64 0,.int .i64 0,.int .i64 0,.bool false,.int .i64 0,.slice none 0 0,.bool false] 32)):=((Below.refl _ _).alloc (Nat.le_refl _) _).alloc (by simp) _;have hk0:Blk ((w.alloc (.cells #[.slice F.A F.n F.c,.int .i64 F.re,.int .i64 F.lo] 24)).alloc (.cells #[.int .i64 0,.int .i64 0,.int .i64 0,.int .i64 0,.bool false,.int .i64 0,.slice none 0 0,.bool false] 32)) w.heap.size 24 #[.slice F.A F.n F.c,.int .i64 F.re,.int .i64 F.lo]:=(Blk.new w _ _).alloc _;have hk1:Blk ((w.alloc (.cells #[.slice F.A F.n F.c,.int .i64 F.re,.int .i64 F.lo] 24)).alloc (.cells #[.int .i64 0,.int .i64 0,.int .i64 0,.int .i64 0,.bool false,.int .i64 0,.slice none 0 0,.bool false] 32)) (w.heap.size+1) 32 #[.int .i64 0,.int .i64 0,.int .i64 0,.int .i64 0,.bool false,.int .i64 0,.slice none 0 0,.bool false]:=by
  have:=Blk.new (w.alloc (.cells #[.slice F.A F.n F.c,.int .i64 F.re,.int .i64 F.lo] 24)) 32 #[.int .i64 0,.int .i64 0,.int .i64 0,.int .i64 0,.bool false,.int .i64 0,.slice none 0 0,.bool false]
  rwa [World.size_alloc] at this
 have HA:=qH hA;have HT:=qH ht;obtain ⟨E,hE⟩:∃E,zAA F.L F.re F.lo S=E:=⟨_,rfl⟩
 have hcs:=zEm F.L F.re F.lo S;rw [hE] at hcs;have HBG:=qH (fun wx (hx:Fgs wx F.A F.n F.L)=>zDb F.A F.n F.c F.L F.re F.lo S wx hx hc);simp only [hE] at HBG;have HE:=qH hE;obtain ⟨a1,ha1⟩:∃a,a=w.heap.size+1:=⟨_,rfl⟩
 have hge:w.heap.size≤a1:=by omega
 have HGE:=qH hge;clear hA ht hE hge;go_enter Tryz.func17,Tryz.ntmps17;go_wp2_with fail
 generalize ((w.alloc (.cells #[.slice F.A F.n F.c,.int .i64 F.re,.int .i64 F.lo] 24)).alloc (.cells #[.int .i64 0,.int .i64 0,.int .i64 0,.int .i64 0,.bool false,.int .i64 0,.slice none 0 0,.bool false] 32))=Y at hb0 hk0 hk1 ⊢;rw [←ha1] at hk1 ⊢;clear ha1;refine (HBG.out Y (HA.out.below hb0)).mono ?_;rintro e Y2 ⟨rfl,hb2⟩;have hk2:=hk1.below hb2 hk1.lt;have hf2:=hk0.below hb2 hk0.lt;have hb3:=zAa hb0 hb2 hb0.size;clear hk1 hk0 hb0 hb2 HBG;by_cases h0:E=0
 ·subst h0;have hS:=(zBO HE.out).1;have HR:=qH (show rdE F.L F.re F.lo S=zEl F.L S∧rdO F.L F.re F.lo S=zGX F.L S by unfold rdE rdO;rw [HE.out];exact ⟨rfl,rfl⟩);have HPA:=qH (zGY F S Y2 (HA.out.below hb3) (by omega) (HT.out.below hb3));obtain ⟨v0,v1,v2⟩:=cQ3 hf2;clear hcs hS hf2;go_wp2_with fail
  refine HPA.out.mono ?_;rintro e Y3 ⟨B2,m2,d2,rfl,hrow,hm2,hb4⟩;have HM2:=qH hm2;have hk3:=hk2.below hb4 hk2.lt;have hlt2:a1 < Y2.heap.size:=hk2.lt;have hb5:=zAa hb3 hb4 hb3.size;have HO:=qH HR.out.2;obtain ⟨ov,eov⟩:∃x,zGX F.L S=x:=⟨_,rfl⟩
  rw [eov] at hrow HM2 HO ⊢;clear eov hm2;obtain ⟨kk,ff,⟨gf,gl,gfar,gpc⟩,path,vov⟩:=ov;have y0:Y3.cell? ⟨a1,0,none⟩=some (.int .i64 0):=(hk3.cell 0).trans rfl;have yz0:=hk3.frozen 0;have y1:Y3.cell? ⟨a1,1,none⟩=some (.int .i64 0):=(hk3.cell 1).trans rfl;have yz1:=hk3.frozen 1;have y2:Y3.cell? ⟨a1,2,none⟩=some (.int .i64 0):=(hk3.cell 2).trans rfl;have yz2:=hk3.frozen 2;have y3:Y3.cell? ⟨a1,3,none⟩=some (.int .i64 0):=(hk3.cell 3).trans rfl;have yz3:=hk3.frozen 3;have y4:Y3.cell? ⟨a1,4,none⟩=some (.bool false):=(hk3.cell 4).trans rfl;have yz4:=hk3.frozen 4;have y5:Y3.cell? ⟨a1,5,none⟩=some (.int .i64 0):=(hk3.cell 5).trans rfl;have yz5:=hk3.frozen 5;have y6:Y3.cell? ⟨a1,6,none⟩=some (.slice none 0 0):=(hk3.cell 6).trans rfl;have yz6:=hk3.frozen 6;have y7:Y3.cell? ⟨a1,7,none⟩=some (.bool false):=(hk3.cell 7).trans rfl;have yz7:=hk3.frozen 7;have SV:=qH (hk3.store8 (.int .i64 kk) (.int .i64 ff) (.int .i64 gf) (.int .i64 gl) (.bool gfar) (.int .i64 gpc) (.slice B2 m2 d2) (.bool vov));have BV:=qH (zAd hb5 HGE.out (.int .i64 kk) (.int .i64 ff) (.int .i64 gf) (.int .i64 gl) (.bool gfar) (.int .i64 gpc) (.slice B2 m2 d2) (.bool vov));have RV:=qH ((hrow.store8 hlt2 (.int .i64 kk) (.int .i64 ff) (.int .i64 gf) (.int .i64 gl) (.bool gfar) (.int .i64 gpc) (.slice B2 m2 d2) (.bool vov)).mono (Nat.le_trans HGE.out (Nat.le_of_lt hlt2)));have hER:=HR.out.1;have HER:=qH hER;clear hk2 hb3 hb4 hb5 hk3 hrow v0 v1 v2 HPA hER HR hlt2;go_wp2_with fail
  exact zAV rfl rfl rfl SV.out Tryz.underlying32 rfl (by kernel_rfl) rfl (by rw [HER.out,HO.out];exact ⟨B2,m2,d2,rfl,RV.out,HM2.out,BV.out⟩)
 ·have HR:=qH (show rdE F.L F.re F.lo S=E∧rdO F.L F.re F.lo S=o0 by unfold rdE rdO;rw [HE.out,if_neg h0,if_neg h0];exact ⟨rfl,rfl⟩);have SZ:=qH (hk2.store8 (.int .i64 0) (.int .i64 0) (.int .i64 0) (.int .i64 0) (.bool false) (.int .i64 0) (.slice none 0 0) (.bool false));have BZ:=qH (zAd hb3 HGE.out (.int .i64 0) (.int .i64 0) (.int .i64 0) (.int .i64 0) (.bool false) (.int .i64 0) (.slice none 0 0) (.bool false));have y0:Y2.cell? ⟨a1,0,none⟩=some (.int .i64 0):=(hk2.cell 0).trans rfl;have yz0:=hk2.frozen 0;have y1:Y2.cell? ⟨a1,1,none⟩=some (.int .i64 0):=(hk2.cell 1).trans rfl;have yz1:=hk2.frozen 1;have y2:Y2.cell? ⟨a1,2,none⟩=some (.int .i64 0):=(hk2.cell 2).trans rfl;have yz2:=hk2.frozen 2;have y3:Y2.cell? ⟨a1,3,none⟩=some (.int .i64 0):=(hk2.cell 3).trans rfl;have yz3:=hk2.frozen 3;have y4:Y2.cell? ⟨a1,4,none⟩=some (.bool false):=(hk2.cell 4).trans rfl;have yz4:=hk2.frozen 4;have y5:Y2.cell? ⟨a1,5,none⟩=some (.int .i64 0):=(hk2.cell 5).trans rfl;have yz5:=hk2.frozen 5;have y6:Y2.cell? ⟨a1,6,none⟩=some (.slice none 0 0):=(hk2.cell 6).trans rfl;have yz6:=hk2.frozen 6;have y7:Y2.cell? ⟨a1,7,none⟩=some (.bool false):=(hk2.cell 7).trans rfl;have yz7:=hk2.frozen 7;rcases hcs.resolve_left h0 with rfl | rfl
  all_goals clear hk2 hb3 hf2 h0 hcs
  all_goals go_wp2_with fail
  all_goals exact zAV rfl rfl rfl SZ.out Tryz.underlying32 rfl (by kernel_rfl) rfl (by rw [HR.out.1,HR.out.2];exact ⟨none,0,0,rfl,Row.none_ _ _ _,rfl,BZ.out⟩)
theorem zOO {L:List Fg} (hL:L.length≤17592186043904) {n:Nop} (h:okN n):OgOk (oOf L n)∧∀x∈(oOf L n).path,SgOk x.s:=by
 have hx:∀f:Fg,(zAG L f:Int)≤17592186043904:=fun f=>by have:=zDk (f:=f) (L:=L);omega
 have hs:∀x:Nst,zCp x→SgOk (sOf L x):=fun x hx'=>by
  obtain ⟨_,h1,h2,h3,h4⟩:=hx';have:=hx x.f;exact ⟨⟨by simp only [sOf];omega,by simp only [sOf];omega⟩,⟨by simp only [sOf];omega,by simp only [sOf];omega⟩,⟨by simp only [sOf];omega,by simp only [sOf];omega⟩⟩
 have hs0:SgOk s0:=⟨⟨by simp [s0],by simp [s0]⟩,⟨by simp [s0],by simp [s0]⟩,⟨by simp [s0],by simp [s0]⟩⟩;obtain ⟨h1,h2⟩:=h;obtain ⟨k,f,fr,path,over⟩:=n;have hf:=hx f;unfold zGJ at h2;simp only at h1 h2;have hp0:∀x∈(List.map (pOf L) ([]:List (Nst×Bool))),SgOk x.s:=fun x hx=>by simp at hx
 rcases h2 with ⟨e,rfl,rfl,rfl⟩ | ⟨e,rfl,rfl⟩ | ⟨e,⟨x,rfl,hx'⟩,hp,rfl⟩ | ⟨e,⟨x,rfl,hx'⟩,rfl⟩ | ⟨e,⟨g,rfl,hg⟩,rfl⟩
 ·exact ⟨⟨⟨by simp only [oOf];omega,by simp only [oOf];omega⟩,⟨by simp only [oOf];omega,by simp only [oOf];omega⟩,hs0⟩,hp0⟩
 ·exact ⟨⟨⟨by simp only [oOf];omega,by simp only [oOf];omega⟩,⟨by simp only [oOf];omega,by simp only [oOf];omega⟩,hs0⟩,hp0⟩
 ·refine ⟨⟨⟨by simp only [oOf];omega,by simp only [oOf];omega⟩,⟨by simp only [oOf];omega,by simp only [oOf];omega⟩,hs x hx'⟩,fun y hy=>?_⟩;obtain ⟨z,hz,rfl⟩:=List.mem_map.1 hy;exact hs z.1 (hp z hz)
 ·exact ⟨⟨⟨by simp only [oOf];omega,by simp only [oOf];omega⟩,⟨by simp only [oOf];omega,by simp only [oOf];omega⟩,hs x hx'⟩,hp0⟩
 ·have hgo:zCp ⟨g,0,false,0⟩:=⟨hg,by simp,by simp,by simp,by simp⟩;exact ⟨⟨⟨by simp only [oOf];omega,by simp only [oOf];omega⟩,⟨by simp only [oOf];omega,by simp only [oOf];omega⟩,hs _ hgo⟩,hp0⟩
theorem zOP:OgOk o0∧∀x∈o0.path,SgOk x.s :=
 ⟨⟨⟨by simp [o0],by simp [o0]⟩,⟨by simp [o0],by simp [o0]⟩,⟨⟨by simp [o0,s0],by simp [o0,s0]⟩,⟨by simp [o0,s0],by simp [o0,s0]⟩,⟨by simp [o0,s0],by simp [o0,s0]⟩⟩⟩,fun x hx=>by simp [o0] at hx⟩
theorem zOQ {L:List Fg} {S:List UInt8} (h:zQV L S=false):∃n,okN n∧S=zDi n∧(opR L ⟨zBo S,false,false⟩).1=oOf L n∧zUF L S=zAx L n:=by
 unfold zQV at h;simp only [Bool.or_eq_false_iff,Bool.not_eq_false',List.isEmpty_iff] at h;obtain ⟨n,h1,h2,h3,h4⟩:=zQN h.1 h.2;exact ⟨n,h1,zIH h2,h3,h4⟩
theorem zVf (L:List Fg) {n:Nop} (h:okN n):zQV L (zDi n)=false∧(opR L ⟨zBo (zDi n),false,false⟩).1=oOf L n∧zUF L (zDi n)=zAx L n:=by
 unfold zQV zUF;rw [zDK,zWm L h];exact ⟨rfl,rfl,rfl⟩
theorem zGj (L:List Fg) {n:Nop} (h:okN n):zEl L (zDi n)=(if zAx L n then 8 else 0)∧zGX L (zDi n)=(if zAx L n then o0 else oOf L n):=by
 obtain ⟨h1,h2,h3⟩:=zVf L h;have he:zEl L (zDi n)=(if zAx L n then 8 else 0):=by unfold zEl;rw [h1,h3];rfl
 refine ⟨he,?_⟩;unfold zGX;rw [he,h2]
 cases zAx L n<;>rfl
theorem zLZ (L:List Fg) {S:List UInt8} (h:∀n,okN n→S≠zDi n):zEl L S=6∧zGX L S=o0:=by
 have hb:zQV L S=true:=by
  cases e:zQV L S with
  | true=>rfl
  | false =>
   obtain ⟨n,h1,h2,_⟩:=zOQ e;exact absurd h2 (h n h1)
 have he:zEl L S=6:=by unfold zEl;rw [hb];rfl
 exact ⟨he,by unfold zGX;rw [he];rfl⟩
theorem zTx {L:List Fg} (hL:L.length≤17592186043904) (S:List UInt8):OgOk (zGX L S)∧∀x∈(zGX L S).path,SgOk x.s:=by
 by_cases h:∃n,okN n∧S=zDi n
 ·obtain ⟨n,h1,rfl⟩:=h;rw [(zGj L h1).2]
  cases zAx L n with
  | true=>exact zOP
  | false=>exact zOO hL h1
 ·rw [(zLZ L fun n h1 h2=>h ⟨n,h1,h2⟩).2];exact zOP
noncomputable def zBG (L:List Fg):List (List UInt8)→List Og→List Og×Nat×Int
 | [],O=>(O,O.length,0)
 | [p],O=>if p=[] then (O,O.length,0) else ([],O.length,6)
 | p :: q :: r,O=>if zEl L p=0 then zBG L (q :: r) (O++[zGX L p]) else ([],O.length,zEl L p)
theorem zIR {c:UInt8}:∀{R:List UInt8},c∈R→∃h r,R=h++c :: r∧c ∉ h
 | [],hc=>by simp at hc
 | x :: R,hc=>by
  by_cases e:x=c
  ·exact ⟨[],R,by rw [e];rfl,by simp⟩
  ·have hR:c∈R:=by
    rcases List.mem_cons.1 hc with h | h
    ·exact absurd h.symm e
    ·exact h
   obtain ⟨h,r,rfl,hh⟩:=zIR hR
   exact ⟨x :: h,r,rfl,fun hm=>by
    rcases List.mem_cons.1 hm with h1 | h1
    ·exact e h1.symm
    ·exact hh h1⟩
theorem zOR (L:List Fg) (O:List Og):zBG L (zAH 10 []) O=(O,O.length,0):=rfl
theorem zMY (L:List Fg) {R:List UInt8} (h:(10:UInt8) ∉ R) (h0:R≠[]) (O:List Og):zBG L (zAH 10 R) O=([],O.length,6):=by
 rw [zCX h,zBG,if_neg h0]
theorem zMZ (L:List Fg) {h r:List UInt8} (hc:(10:UInt8) ∉ h) (O:List Og):zBG L (zAH 10 (h++10 :: r)) O=if zEl L h=0 then zBG L (zAH 10 r) (O++[zGX L h]) else ([],O.length,zEl L h):=by
 rw [zCd hc]
 cases e:zAH 10 r with
 | nil=>exact absurd e (zFr 10 r)
 | cons q s=>rw [zBG]
structure OpsOwn (w:World) (base:Nat) (A:Option Addr) (n c:Nat) (Es:List Oe):Prop where
 row:Row w base 8 A n c (Es.flatMap zSV)
 ok:∀e∈Es,OgOk e.o∧Stps w e.A e.n e.o.path∧e.n≤e.c∧∀k,blk e.A=some k→k < w.heap.size∧blk A≠some k
section
variable {w w':World} {base:Nat} {A:Option Addr} {n c:Nat} {Es:List Oe}
theorem OpsOwn.none_ (w:World) (base:Nat):OpsOwn w base none 0 0 []:=⟨Row.none_ _ _ _,by simp⟩
theorem OpsOwn.below (h:OpsOwn w base A n c Es) (hb:Below w.heap.size w w'):OpsOwn w' base A n c Es :=
 ⟨h.row.below hb,fun e he=>by obtain ⟨h1,h2,h3,h4⟩:=h.ok e he;exact ⟨h1,h2.below hb,h3,fun k hk=>⟨Nat.lt_of_lt_of_le (h4 k hk).1 hb.size,(h4 k hk).2⟩⟩⟩
theorem OpsOwn.mono {base':Nat} (h:OpsOwn w base A n c Es) (hb:base'≤base):OpsOwn w base' A n c Es:=⟨h.row.mono hb,h.ok⟩
theorem Stps.kept {B:Option Addr} {m:Nat} {P:List Sp} {row:Option Nat} (h:Stps w B m P) (hg:w.grownBy w' row) (hne:∀k,blk B=some k→row≠some k):Stps w' B m P:=by
 refine ⟨⟨h.1.1,h.1.2.1,fun h0=>?_⟩,h.2⟩;obtain ⟨g,o,e,hb,hc⟩:=h.1.2.2 h0;subst e;refine ⟨g,o,rfl,Nat.lt_of_lt_of_le hb hg.size,fun j x hx q v hv=>?_⟩;rw [World.cell?_of_block (w:=w) (w':=w') (hg.block g hb (fun e=>hne g rfl e.symm))];exact hc j x hx q v hv
theorem OpsOwn.push {A':Option Addr} {N c':Nat} (h:OpsOwn w base A n c Es) (e:Oe) (he:OgOk e.o∧Stps w e.A e.n e.o.path∧e.n≤e.c∧∀k,blk e.A=some k→k < w.heap.size∧blk A≠some k)
  (hr:Row w' base 8 A' N c' ((Es++[e]).flatMap zSV)) (hg:w.grownBy w' (blk A)) (hl:∀k,blk A'=some k→blk A=some k∨w.heap.size≤k):OpsOwn w' base A' N c' (Es++[e]):=by
 refine ⟨hr,fun x hx=>?_⟩;have hx2:OgOk x.o∧Stps w x.A x.n x.o.path∧x.n≤x.c∧∀k,blk x.A=some k→k < w.heap.size∧blk A≠some k:=by
  rcases List.mem_append.1 hx with h1 | h1
  ·exact h.ok x h1
  ·rw [List.mem_singleton.1 h1];exact he
 obtain ⟨h1,h2,h3,h4⟩:=hx2;refine ⟨h1,h2.kept hg (fun k hk=>(h4 k hk).2),h3,fun k hk=>⟨Nat.lt_of_lt_of_le (h4 k hk).1 hg.size,fun e2=>?_⟩⟩;rcases hl k e2 with h5 | h5
 ·exact (h4 k hk).2 h5
 ·have:=(h4 k hk).1;omega
theorem OpsOwn.oprs (h:OpsOwn w base A n c Es) (hn:n≤1000000):Oprs w A n Es :=
 ⟨h.row.els (fun _=>rfl) (by omega) (by omega),fun e he=>by obtain ⟨h1,h2,h3,_⟩:=h.ok e he;exact ⟨h1,h2,h3⟩⟩
end
theorem zTy {w:World} {ops:Array Oper} {rest:List Oper} {o:Oper} {a:Act} {Q:Exit→Act→World→Prop} (hgd:o.guard=none) (s x:Operand)
  (ho:o.op=.call { callee:=.builtin .append,args:=#[s,x],argTypes:=#[38,38] })
  {base:Nat} {A:Option Addr} {n c:Nat} {Es:List Oe} (hst:Row w base 8 A n c (Es.flatMap zSV)) (y:Oe)
  (hs:a.eval s=.slice A n c) (hx:a.eval x=.slice (some ⟨w.heap.size,0,none⟩) 1 1) (N:Nat) (hN:n+1=N) (hn:N≤1000000) (hbase:base≤w.heap.size)
  (h:∀A' c' w',Row w' base 8 A' N c' ((Es++[y]).flatMap zSV)→w.grownBy w' (blk A)→(∀k,blk A'=some k→blk A=some k∨w.heap.size≤k)→wpList Tryz.prog ops Q rest (a.put o.dst (.slice A' N c')) w') :
  wpList Tryz.prog ops Q (o :: rest) a (w.alloc (.cells #[.int .i64 y.o.kind,.int .i64 y.o.f,.int .i64 y.o.fr.f,.int .i64 y.o.fr.l,.bool y.o.fr.far,.int .i64 y.o.fr.pc,.slice y.A y.n y.c,.bool y.o.over] 32)):=by
 obtain ⟨i0,hi,hz0,hz1,hz2⟩:=info_parts zVb;have hbl:=(Below.refl w.heap.size w).alloc (Nat.le_refl _) (.cells #[.int .i64 y.o.kind,.int .i64 y.o.f,.int .i64 y.o.fr.f,.int .i64 y.o.fr.l,.bool y.o.fr.far,.int .i64 y.o.fr.pc,.slice y.A y.n y.c,.bool y.o.over] 32);have hst1:=hst.below hbl
 refine zQk hgd s x 38 ho 32 i0 _ 8 80 Tryz.underlying38 hi hz0 hz1 hz2 rfl (by decide) hst1 (Src.new (m:=1) (cs:=zSV y) rfl)
  (by intro u hu;simp [zSV] at hu;rcases hu with rfl | rfl | rfl | rfl | rfl | rfl | rfl | rfl<;>rfl) hs hx N hN (by unfold maxLen;omega) (by omega) (by simp;omega) ?_
 intro A' c' w' h1 h2 h3 _;refine h A' c' w' (by rw [List.flatMap_append];simpa using h1) ?_ (fun k hk=>?_)
 ·exact zAb (zAv hbl) h2
 ·rcases h3 k hk with e | e
  ·exact .inl e
  ·exact .inr (by simp at e;omega)
theorem zQW (s:List UInt8) (hs:s.length≤100000) (w:World) (ht:Tabs w) :
  Calls Tryz.prog 62 #[.string (bA s),.string ⟨#[10]⟩] w fun e w'=>e=.returned (.tuple #[.string (bA (Lib.cut s [10]).1),.string (bA (Lib.cut s [10]).2.1),.bool (Lib.cut s [10]).2.2])∧Below w.heap.size w w':=by
 obtain ⟨m,hm⟩:=ht.most;have h:=Tryz.strings_Cut (bA s) (bA [10]) m w (by rw [zAC];omega) hm;rw [zDm,zDm] at h;refine h.mono ?_;rintro e w' ⟨rfl,n,rfl⟩;exact ⟨rfl,zAf (Below.refl _ _) n⟩
def zOS (w0:World) (O:List Og) (n er:Int) (e:Ending) (w':World):Prop :=
 ∃B m d Es,e=.returned (.tuple #[.slice B m d,.int .i64 n,.int .i64 er])∧List.map (fun x:Oe=>x.o) Es=O∧m≤1000000∧OpsOwn w' w0.heap.size B m d Es∧Below w0.heap.size w0 w'
def AL:List Fg:=(List.range 9).flatMap fun p:Nat=>(List.range 7).flatMap fun d:Nat=>[⟨(p:Int)+1,false,(d:Int)⟩,⟨(p:Int)+1,true,(d:Int)⟩]
theorem zJV:AL.length=126:=by decide +kernel
theorem zOT:GoodL AL:=by
 have h:(List.range 126).all (zCQ AL)=true:=by decide +kernel
 intro i hi;rw [zJV] at hi;exact List.all_eq_true.1 h i (List.mem_range.2 hi)
theorem zVg {f:Fg} (h:zAm f=true):f∈AL:=by
 obtain ⟨h1,h2,h3,h4⟩:=zAp.1 h;obtain ⟨p,r,d⟩:=f;simp only at h1 h2 h3 h4;unfold AL;refine List.mem_flatMap.2 ⟨(p-1).toNat,List.mem_range.2 (by omega),List.mem_flatMap.2 ⟨d.toNat,List.mem_range.2 (by omega),?_⟩⟩;rw [show (((p-1).toNat:Nat):Int)+1=p by omega,show ((d.toNat:Nat):Int)=d by omega]
 cases r<;>simp
theorem zOU {f:Fg} (h:zAm f=true):zAG AL f≠0:=fun e=>by
 obtain ⟨j,hj⟩:=List.getElem?_of_mem (zVg h);exact zJn e j hj
theorem zLg {f:Fg} (h:zAm f=true):zAW AL f=false:=by unfold zAW;simpa using zOU h
theorem okN.all {n:Nop} (h:okN n):zAm n.f=true∧(∀y∈n.path,zAm y.1.f=true)∧∀x,n.fr=some x→zAm x.f=true:=by
 refine ⟨h.1,?_,?_⟩
 ·intro y hy;rcases h.2 with ⟨_,_,h,_⟩ | ⟨_,_,h⟩ | ⟨_,_,h,_⟩ | ⟨_,_,h⟩ | ⟨_,_,h⟩
  ·rw [h] at hy;simp at hy
  ·rw [h] at hy;simp at hy
  ·exact (h y hy).1
  ·rw [h] at hy;simp at hy
  ·rw [h] at hy;simp at hy
 ·intro x hx;rcases h.2 with ⟨_,h,_⟩ | ⟨_,h,_⟩ | ⟨_,⟨y,h,hy⟩,_⟩ | ⟨_,⟨y,h,hy⟩,_⟩ | ⟨_,⟨g,h,hg⟩,_⟩
  ·rw [h] at hx;cases hx
  ·rw [h] at hx;cases hx
  ·rw [h] at hx;injection hx with hx;rw [←hx];exact hy.1
  ·rw [h] at hx;injection hx with hx;rw [←hx];exact hy.1
  ·rw [h] at hx;injection hx with hx;rw [←hx];exact hg
theorem zTz {n:Nop} (h:okN n):zAx AL n=false:=by
 obtain ⟨h1,h2,h3⟩:=h.all;unfold zAx;have hp:zAO AL n.path=false:=by
  unfold zAO;rw [List.any_eq_false];intro y hy;rw [zLg (h2 y hy)];simp
 rw [zLg h1,hp]
 cases hf:n.fr with
 | none=>rfl
 | some x=>simp only [zLg (h3 x hf)];rfl
noncomputable abbrev fnA (S:List UInt8):Nat:=zDg AL S
theorem zLh {f:Fg} (h:zAm f=true):fnA (zAk f)=zAG AL f:=by unfold fnA zDg;rw [zCn h rfl]
def plA (L:List Fg) (f:Int):Int:=(zAG L (fa AL (f-1).toNat):Int)
def zVh (L:List Fg) (s:Sg):Sg:=⟨plA L s.f,s.l,s.far,s.pc⟩
def zNK (L:List Fg) (x:Sp):Sp:=⟨zVh L x.s,x.over⟩
def zSo (L:List Fg) (o:Og):Og:=⟨o.kind,plA L o.f,if 0 < o.fr.f then zVh L o.fr else o.fr,o.path.map (zNK L),o.over⟩
def zSp (L:List Fg) (o:Og):Bool:=decide (0 < plA L o.f)&&(decide (¬0 < o.fr.f)||decide (0 < plA L o.fr.f))&&o.path.all fun x=>decide (0 < plA L x.s.f)
theorem zOV (L:List Fg) {f:Fg} (h:zAm f=true):plA L (zAG AL f:Int)=(zAG L f:Int):=by unfold plA;rw [zGS (zOU h)]
theorem zSq (L:List Fg) {n:Nop} (h:okN n):zSo L (oOf AL n)=oOf L n∧zSp L (oOf AL n) = !zAx L n:=by
 obtain ⟨h1,h2,h3⟩:=h.all;have hpos:∀{f:Fg},decide (0 < (zAG L f:Int)) = !zAW L f:=fun {f}=>by
  unfold zAW;by_cases e:zAG L f=0
  ·rw [e];rfl
  ·rw [decide_eq_true (by omega:0 < (zAG L f:Int)),decide_eq_false e];rfl
 have hpm:((n.path.map (pOf AL)).map (zNK L))=n.path.map (pOf L):=by
  rw [List.map_map];refine List.map_congr_left fun x hx=>?_
  simp only [Function.comp,pOf,zNK,zVh,sOf,zOV L (h2 x hx)]
 have hpa:((n.path.map (pOf AL)).all fun x=>decide (0 < plA L x.s.f)) = !zAO L n.path:=by
  have key:∀Q:List (Nst×Bool),(∀y∈Q,zAm y.1.f=true)→((Q.map (pOf AL)).all fun x=>decide (0 < plA L x.s.f)) = !zAO L Q:=by
   intro Q
   induction Q with
   | nil=>intro _;rfl
   | cons y Q ih =>
    intro hQ;have h1:plA L (pOf AL y).s.f=(zAG L y.1.f:Int):=zOV L (hQ y (List.mem_cons_self ..));rw [List.map_cons,List.all_cons,ih (fun z hz=>hQ z (List.mem_cons_of_mem _ hz)),h1,hpos];unfold zAO;rw [List.any_cons,Bool.not_or]
  exact key _ h2
 have hf:=zOV L h1;obtain ⟨k,f,fr,path,over⟩:=n;simp only at hf hpm hpa h3;unfold zSo zSp oOf zAx;simp only [hf,hpm,hpa]
 cases fr with
 | none =>
  simp only [Option.map_none,Option.getD_none];refine ⟨by simp [s0],?_⟩;have hq:decide (¬0 < s0.f)=true:=by decide
  rw [hq,hpos]
  cases zAW L f<;>cases zAO L path<;>rfl
 | some x =>
  have hx:=h3 x rfl;have h0:=zOU hx;simp only [Option.map_some,Option.getD_some];have hlt:0 < (sOf AL x).f:=by simp only [sOf];omega
  refine ⟨by rw [if_pos hlt];simp [zVh,sOf,zOV L hx],?_⟩;have hq:decide (¬0 < (sOf AL x).f)=false:=decide_eq_false (fun e=>e hlt);have hr:decide (0 < plA L (sOf AL x).f) = !zAW L x.f:=by
   have e:plA L (sOf AL x).f=(zAG L x.f:Int):=zOV L hx;rw [e];exact hpos
  rw [hq,hr,hpos]
  cases zAW L f<;>cases zAO L path<;>cases zAW L x.f<;>rfl
end Go.Proofs.YtlmdfmnbcndhoaaGreatDoor
