/-
  Lemmas for NotesLong, part 24: contracts and plain facts. Conditions: those that each theorem names.
-/
import Derived.Test.YtlmdfmnbcndhoaaGreatDoorLg22
import Derived.Test.YtlmdfmnbcndhoaaGreatDoorLg23
import Derived.Test.YtlmdfmnbcndhoaaGreatDoorLg17
namespace Go.Proofs.YtlmdfmnbcndhoaaGreatDoor
open Go.RowKit
theorem zPy (rb:Nat) (F:Fm) (s:RS) (w:World) (h:RX w rb F s) (hT:s.T.length≤100000) :
  Calls Tryz.prog 98 #[.pointer (some ⟨rb,0,none⟩)] w (zER w rb F (opR F.L s).1 (opR F.L s).2):=by
 by_cases h3:zBR (xa s.T 0)=3
 ·exact zLK rb F s w h hT h3
 by_cases h6:zBR (xa s.T 0)=6∨zBR (xa s.T 0)=7
 ·exact zLO rb F s w h hT h6
 ·exact zLN rb F s w h hT ⟨h3,fun e=>h6 (.inl e),fun e=>h6 (.inr e)⟩
def zAK (L:List Fg) (re lo:Int) (S:List UInt8):Int:=if frB L re lo then (if 8000 < S.length then 7 else 0) else 2
theorem zDv (A:Option Addr) (n c:Nat) (L:List Fg) (re lo:Int) (S:List UInt8) (w:World) (hA:Fgs w A n L) (hc:n≤c) :
  Calls Tryz.prog 51 #[frV A n c re lo,.string (bA S)] w fun e w'=>e=.returned (.int .i64 (zAK L re lo S))∧Below w.heap.size w w':=by
 obtain ⟨b,hb⟩:∃b,frB L re lo=b:=⟨_,rfl⟩
 have hs:=zJp S;obtain ⟨n1,hn1⟩:∃n,S.length=n:=⟨_,rfl⟩
 have HR:=Lib.hid (show zAK L re lo S=if b then (if 8000 < n1 then 7 else 0) else 2 by unfold zAK;rw [hb,hn1]);rw [hn1] at hs;have hb0:Below w.heap.size w (w.alloc (.cells #[.slice A n c,.int .i64 re,.int .i64 lo] 24)):=(Below.refl _ _).alloc (Nat.le_refl _) _;have HV:=Lib.hid (zFm hb A n c _ (hA.below hb0) hc);have HB:=Lib.hid hb0;clear hb hn1 hb0;go_enter Tryz.func51,Tryz.ntmps51;go_wp2_with fail
 refine HV.out.mono ?_;rintro e w2 ⟨rfl,hb2⟩;have HB2:=Lib.hid (zAa HB.out hb2 HB.out.size);clear hb2 HV HB
 cases b with
 | false =>
  go_wp2_with fail
  go_ret;exact ⟨by rw [HR.out];rfl,HB2.out⟩
 | true =>
  by_cases h8:8000 < n1
  ·have i0:(8000:Int) < (n1:Int):=by omega
   have HR2:=Lib.hid (HR.out.trans (show _=(7:Int) by rw [if_pos rfl,if_pos h8]));clear h8 HR;go_wp2_with fail
   go_ret;exact ⟨by rw [HR2.out];rfl,HB2.out⟩
  ·have i0:¬(8000:Int) < (n1:Int):=by omega
   have HR2:=Lib.hid (HR.out.trans (show _=(0:Int) by rw [if_pos rfl,if_neg h8]));clear h8 HR;go_wp2_with fail
   go_ret;exact ⟨by rw [HR2.out];rfl,HB2.out⟩
noncomputable def zRu (L:List Fg) (S:List UInt8):Bool:=(opR L ⟨zBD S,false,false⟩).2.bad||!(opR L ⟨zBD S,false,false⟩).2.T.isEmpty
noncomputable def zUJ (L:List Fg) (S:List UInt8):Bool:=(opR L ⟨zBD S,false,false⟩).2.lost
noncomputable def zES (L:List Fg) (S:List UInt8):Int:=if zRu L S then 6 else if zUJ L S then 8 else 0
def o0:Og:=⟨0,0,s0,[],false⟩
noncomputable def zHN (L:List Fg) (S:List UInt8):Og:=if zES L S=0 then (opR L ⟨zBD S,false,false⟩).1 else o0
def zVh (w0:World) (o:Og) (er:Int) (e:Ending) (w':World):Prop :=
 ∃B m d,e=.returned (.tuple #[opV o B m d,.int .i64 er])∧Row w' w0.heap.size 5 B m d (o.path.flatMap zIk)∧m=o.path.length∧Below w0.heap.size w0 w'
theorem zEd {a b:World} (h:Below a.heap.size a b) (o:Obj):Below a.heap.size a (b.alloc o):=h.alloc h.size o
set_option maxHeartbeats 6400000 in
theorem zHO (F:Fm) (S:List UInt8) (w:World) (hA:Fgs w F.A F.n F.L) (hS:S.length≤20000) (ht:Tabs w) :
  Calls Tryz.prog 52 #[frV F.A F.n F.c F.re F.lo,.string (bA S)] w (zVh w (zHN F.L S) (zES F.L S)):=by
 have hb0:Below w.heap.size w ((w.alloc (.cells #[.slice F.A F.n F.c,.int .i64 F.re,.int .i64 F.lo] 24)).alloc (.cells #[.int .i64 0,.int .i64 0,.int .i64 0,.int .i64 0,.bool false,.int .i64 0,.slice none 0 0,.bool false] 32)):=((Below.refl _ _).alloc (Nat.le_refl _) _).alloc (by simp) _;have hk0:Blk ((w.alloc (.cells #[.slice F.A F.n F.c,.int .i64 F.re,.int .i64 F.lo] 24)).alloc (.cells #[.int .i64 0,.int .i64 0,.int .i64 0,.int .i64 0,.bool false,.int .i64 0,.slice none 0 0,.bool false] 32)) w.heap.size 24 #[.slice F.A F.n F.c,.int .i64 F.re,.int .i64 F.lo]:=(Blk.new w _ _).alloc _;have hk1:Blk ((w.alloc (.cells #[.slice F.A F.n F.c,.int .i64 F.re,.int .i64 F.lo] 24)).alloc (.cells #[.int .i64 0,.int .i64 0,.int .i64 0,.int .i64 0,.bool false,.int .i64 0,.slice none 0 0,.bool false] 32)) (w.heap.size+1) 32 #[.int .i64 0,.int .i64 0,.int .i64 0,.int .i64 0,.bool false,.int .i64 0,.slice none 0 0,.bool false]:=by
  have:=Blk.new (w.alloc (.cells #[.slice F.A F.n F.c,.int .i64 F.re,.int .i64 F.lo] 24)) 32 #[.int .i64 0,.int .i64 0,.int .i64 0,.int .i64 0,.bool false,.int .i64 0,.slice none 0 0,.bool false]
  rwa [World.size_alloc] at this
 have HA:=Lib.hid hA;have HT:=Lib.hid ht;have HSP:=Lib.hid (fun wx (hx:Tabs wx)=>zLP S (by omega) wx hx);obtain ⟨a1,ha1⟩:∃a,a=w.heap.size+1:=⟨_,rfl⟩
 have HA1:=Lib.hid ha1;clear hA ht;go_enter Tryz.func52,Tryz.ntmps52;go_wp2_with fail
 generalize (w.alloc (.cells #[.slice F.A F.n F.c,.int .i64 F.re,.int .i64 F.lo] 24)).alloc (.cells #[.int .i64 0,.int .i64 0,.int .i64 0,.int .i64 0,.bool false,.int .i64 0,.slice none 0 0,.bool false] 32)=Y at hb0 hk0 hk1 ⊢;rw [←ha1] at hk1 ⊢;clear ha1
 have KP:=Lib.hid (show ∀wx,Below Y.heap.size Y wx→(Below Y.heap.size Y wx∧wx.cell? ⟨w.heap.size,0,none⟩=some (.slice F.A F.n F.c)∧wx.cell? ⟨w.heap.size,1,none⟩=some (.int .i64 F.re)∧wx.cell? ⟨w.heap.size,2,none⟩=some (.int .i64 F.lo)) from
  fun wx h=>⟨h,((hk0.below h hk0.lt).cell 0).trans rfl,((hk0.below h hk0.lt).cell 1).trans rfl,((hk0.below h hk0.lt).cell 2).trans rfl⟩)
 have TB:=Lib.hid (fun wx (h:Below Y.heap.size Y wx)=>HT.out.below (zAa hb0 h hb0.size));go_upto_region 1 with fail
 first
  | go_region_held3 (fun wx=>Below Y.heap.size Y wx∧wx.cell? ⟨w.heap.size,0,none⟩=some (.slice F.A F.n F.c)∧wx.cell? ⟨w.heap.size,1,none⟩=some (.int .i64 F.re)∧wx.cell? ⟨w.heap.size,2,none⟩=some (.int .i64 F.lo)) (first | assumption | exact KP.out _ (Below.refl _ _).drew | exact KP.out _ (zAa (Below.refl Y.heap.size Y).drew (by assumption) (Nat.le_refl _)) | exact KP.out _ (zEd (zAa (Below.refl Y.heap.size Y).drew (by assumption) (Nat.le_refl _)) _))
    (first
     | (go_at_call 97;refine (HSP.out _ (TB.out _ (And.left (by assumption)))).mono ?_;rintro e wa ⟨B,m,d,rfl,hRa,hma,hba⟩))
  | fail
 all_goals
  have hbx:Below Y.heap.size Y wa:=zAa (Below.refl Y.heap.size Y).drew hba (Nat.le_refl _);have hbz:Below Y.heap.size Y (wa.alloc (.cells (rdC F.A F.n F.c F.re F.lo B m d false false) 123)):=zEd hbx _;have hwz:Below w.heap.size w (wa.alloc (.cells (rdC F.A F.n F.c F.re F.lo B m d false false) 123)):=zAa hb0 hbz hb0.size;have hbl:=(Below.refl wa.heap.size wa).alloc (Nat.le_refl _) (.cells (rdC F.A F.n F.c F.re F.lo B m d false false) 123)
  have hrx:RX (wa.alloc (.cells (rdC F.A F.n F.c F.re F.lo B m d false false) 123)) wa.heap.size F ⟨zBD S,false,false⟩ :=
   ⟨⟨B,m,d,Blk.new _ _ _,Els.below (hRa.txts (by omega)) hbl,hRa.cap,fun k hk=>(hRa.lt k hk).2⟩,HA.out.below hwz,fun h0 k hk=>by
    obtain ⟨g,o,e,hg,_⟩:=HA.out.1.2.2 h0
    rw [e] at hk
    injection hk with hk
    have hk':g=k:=hk
    have h1:=hb0.size
    have h2:=hbx.size
    omega⟩
  have hkz:=hk1.below hbz hk1.lt;have hlt1:a1 < wa.heap.size:=Nat.lt_of_lt_of_le hk1.lt hbx.size;have hTl:(zBD S).length≤100000:=by have:=zGn S;omega
  clear hba hRa hma hbl hbz hbx hk0 hk1 KP TB HSP;generalize wa.alloc (.cells (rdC F.A F.n F.c F.re F.lo B m d false false) 123)=Z at hrx hkz hwz ⊢;have HLT:Hid (a1 < Z.heap.size):=Lib.hid (Nat.lt_trans hlt1 hrx.lt);generalize wa.heap.size=rb at hrx hlt1 ⊢;have hOP:=zPy rb F ⟨zBD S,false,false⟩ Z hrx hTl;obtain ⟨ov,eov⟩:∃x,(opR F.L ⟨zBD S,false,false⟩).1=x:=⟨_,rfl⟩
  obtain ⟨st,est⟩:∃x,(opR F.L ⟨zBD S,false,false⟩).2=x:=⟨_,rfl⟩
  rw [eov,est] at hOP;have HOP:=Lib.hid hOP;have EOV:=Lib.hid eov;have EST:=Lib.hid est;clear hOP eov est hTl;go_wp2_with fail
  refine HOP.out.mono ?_;rintro e Z2 ⟨B2,m2,d2,rfl,hrow,hm2,hx2,hg2⟩;have HM2:=Lib.hid hm2;clear hm2;obtain ⟨kk,ff,⟨gf,gl,gfar,gpc⟩,path,vov⟩:=ov;obtain ⟨B3,m3,d3,hk3,hT3,hmd3,hne3⟩:=hx2.rd.ex;have hwz2:Below w.heap.size w Z2:=zAa hwz (zBV hg2 (show w.heap.size≤rb by have:=HA1.out;omega) hwz.size) (Nat.le_refl _);have hkr2:=hkz.grown hg2 (fun he=>by injection he with he;omega);have b3:Below Z2.heap.size Z2 (Z2.alloc (.cells #[.int .i64 kk,.int .i64 ff,.int .i64 gf,.int .i64 gl,.bool gfar,.int .i64 gpc,.slice B2 m2 d2,.bool vov] 32)):=(Below.refl _ _).alloc (Nat.le_refl _) _;have hkr3:=hkr2.below b3 hkr2.lt;have hrd3:=hk3.below b3 hk3.lt;have hop3:Blk (Z2.alloc (.cells #[.int .i64 kk,.int .i64 ff,.int .i64 gf,.int .i64 gl,.bool gfar,.int .i64 gpc,.slice B2 m2 d2,.bool vov] 32)) Z2.heap.size 32 #[.int .i64 kk,.int .i64 ff,.int .i64 gf,.int .i64 gl,.bool gfar,.int .i64 gpc,.slice B2 m2 d2,.bool vov]:=Blk.new _ _ _;have hw3:=zAa hwz2 b3 hwz2.size;have hrow3:=hrow.below b3;have hm3:st.T.length=m3:=hT3.len;obtain ⟨b4,eb4⟩:∃b,st.bad=b:=⟨_,rfl⟩
  obtain ⟨b5,eb5⟩:∃b,st.lost=b:=⟨_,rfl⟩
  rw [eb4,eb5] at hrd3;have HPB:=Lib.hid (show zRu F.L S=(b4||!decide (m3=0)) by unfold zRu;rw [EST.out,eb4,←hm3];cases st.T<;>simp);have HPL:=Lib.hid (show zUJ F.L S=b5 by unfold zUJ;rw [EST.out,eb5]);clear hT3 hmd3 hne3 hk3 b3 hkr2 hkz hwz hg2 hx2 hrow hwz2 hm3 eb4 eb5 EST hlt1;go_upto_region 3 with fail
  generalize Z2.alloc (.cells #[.int .i64 kk,.int .i64 ff,.int .i64 gf,.int .i64 gl,.bool gfar,.int .i64 gpc,.slice B2 m2 d2,.bool vov] 32)=Z3 at hkr3 hrd3 hop3 hw3 hrow3 ⊢;generalize Z2.heap.size=a7 at hop3 ⊢;obtain ⟨-,-,-,c3,c4,c5⟩:=cQ6 hrd3;have y0:Z3.cell? ⟨a1,0,none⟩=some (.int .i64 0):=(hkr3.cell 0).trans rfl;have yz0:=hkr3.frozen 0;have y1:Z3.cell? ⟨a1,1,none⟩=some (.int .i64 0):=(hkr3.cell 1).trans rfl;have yz1:=hkr3.frozen 1;have y2:Z3.cell? ⟨a1,2,none⟩=some (.int .i64 0):=(hkr3.cell 2).trans rfl;have yz2:=hkr3.frozen 2;have y3:Z3.cell? ⟨a1,3,none⟩=some (.int .i64 0):=(hkr3.cell 3).trans rfl;have yz3:=hkr3.frozen 3;have y4:Z3.cell? ⟨a1,4,none⟩=some (.bool false):=(hkr3.cell 4).trans rfl;have yz4:=hkr3.frozen 4;have y5:Z3.cell? ⟨a1,5,none⟩=some (.int .i64 0):=(hkr3.cell 5).trans rfl;have yz5:=hkr3.frozen 5;have y6:Z3.cell? ⟨a1,6,none⟩=some (.slice none 0 0):=(hkr3.cell 6).trans rfl;have yz6:=hkr3.frozen 6;have y7:Z3.cell? ⟨a1,7,none⟩=some (.bool false):=(hkr3.cell 7).trans rfl;have yz7:=hkr3.frozen 7;obtain ⟨f0,f1,f2,f3,f4,f5,f6,f7⟩:=cQ8 hop3;have hge:w.heap.size≤a1:=by have:=HA1.out;omega
  have SZ:=Lib.hid (hkr3.store8 (.int .i64 0) (.int .i64 0) (.int .i64 0) (.int .i64 0) (.bool false) (.int .i64 0) (.slice none 0 0) (.bool false));have BZ:=Lib.hid (zAg hw3 hge (.int .i64 0) (.int .i64 0) (.int .i64 0) (.int .i64 0) (.bool false) (.int .i64 0) (.slice none 0 0) (.bool false));have SV:=Lib.hid (hkr3.store8 (.int .i64 kk) (.int .i64 ff) (.int .i64 gf) (.int .i64 gl) (.bool gfar) (.int .i64 gpc) (.slice B2 m2 d2) (.bool vov));have BV:=Lib.hid (zAg hw3 hge (.int .i64 kk) (.int .i64 ff) (.int .i64 gf) (.int .i64 gl) (.bool gfar) (.int .i64 gpc) (.slice B2 m2 d2) (.bool vov));have hlt9:a1 < Z.heap.size:=HLT.out;have RV:=Lib.hid ((hrow3.store8 hlt9 (.int .i64 kk) (.int .i64 ff) (.int .i64 gf) (.int .i64 gl) (.bool gfar) (.int .i64 gpc) (.slice B2 m2 d2) (.bool vov)).mono (Nat.le_of_lt (Nat.lt_of_le_of_lt hge hlt9)));clear hkr3 hrd3 hop3 hw3 hrow3 hlt9 hge;by_cases hbd:b4=true∨¬m3=0
  ·have HE:=Lib.hid (show zES F.L S=6 by unfold zES;rw [HPB.out];rcases hbd with h | h<;>simp [h]);have HO:=Lib.hid (show zHN F.L S=o0 by unfold zHN;rw [HE.out];rfl)
   cases b4 with
   | true =>
    clear hbd c3 c5;go_wp2_with fail
    exact zCl rfl rfl rfl SZ.out Tryz.underlying32 rfl (by kernel_rfl) rfl (by rw [HE.out,HO.out];exact ⟨none,0,0,rfl,Row.none_ _ _ _,rfl,BZ.out⟩)
   | false =>
    have i1:0 < m3:=by have:=hbd.resolve_left (by simp);omega
    clear hbd c5;go_wp2_with fail
    exact zCl rfl rfl rfl SZ.out Tryz.underlying32 rfl (by kernel_rfl) rfl (by rw [HE.out,HO.out];exact ⟨none,0,0,rfl,Row.none_ _ _ _,rfl,BZ.out⟩)
  ·have hb4:b4=false:=by cases b4<;>simp at hbd ⊢
   subst hb4;have hm0:m3=0:=by simpa using hbd
   subst hm0;clear hbd
   cases b5 with
   | true =>
    have HE:=Lib.hid (show zES F.L S=8 by unfold zES;rw [HPB.out,HPL.out];rfl);have HO:=Lib.hid (show zHN F.L S=o0 by unfold zHN;rw [HE.out];rfl);go_wp2_with fail
    exact zCl rfl rfl rfl SZ.out Tryz.underlying32 rfl (by kernel_rfl) rfl (by rw [HE.out,HO.out];exact ⟨none,0,0,rfl,Row.none_ _ _ _,rfl,BZ.out⟩)
   | false =>
    have HE:=Lib.hid (show zES F.L S=0 by unfold zES;rw [HPB.out,HPL.out];rfl);have HO:=Lib.hid (show zHN F.L S=⟨kk,ff,⟨gf,gl,gfar,gpc⟩,path,vov⟩ by unfold zHN;rw [HE.out,if_pos rfl];exact EOV.out);go_wp2_with fail
    exact zCl rfl rfl rfl SV.out Tryz.underlying32 rfl (by kernel_rfl) rfl (by rw [HE.out,HO.out];exact ⟨B2,m2,d2,rfl,RV.out,HM2.out,BV.out⟩)
noncomputable def rdE (L:List Fg) (re lo:Int) (S:List UInt8):Int:=if zAK L re lo S=0 then zES L S else zAK L re lo S
noncomputable def rdO (L:List Fg) (re lo:Int) (S:List UInt8):Og:=if zAK L re lo S=0 then zHN L S else o0
theorem zCh {L:List Fg} {re lo:Int} {S:List UInt8} (h:zAK L re lo S=0):S.length≤8000∧frB L re lo=true:=by
 unfold zAK at h;split at h
 ·rename_i h1;split at h
  ·omega
  ·exact ⟨by omega,h1⟩
 ·omega
theorem zET (L:List Fg) (re lo:Int) (S:List UInt8):zAK L re lo S=0∨zAK L re lo S=2∨zAK L re lo S=7:=by
 unfold zAK;split
 ·split<;>omega
 ·omega
set_option maxHeartbeats 6400000 in
theorem zHP (F:Fm) (S:List UInt8) (w:World) (hA:Fgs w F.A F.n F.L) (hc:F.n≤F.c) (ht:Tabs w) :
  Calls Tryz.prog 17 #[frV F.A F.n F.c F.re F.lo,.string (bA S)] w (zVh w (rdO F.L F.re F.lo S) (rdE F.L F.re F.lo S)):=by
 have hb0:Below w.heap.size w ((w.alloc (.cells #[.slice F.A F.n F.c,.int .i64 F.re,.int .i64 F.lo] 24)).alloc (.cells #[.int .i64 0,.int .i64 0,.int .i64 0,.int .i64 0,.bool false,.int .i64 0,.slice none 0 0,.bool false] 32)):=((Below.refl _ _).alloc (Nat.le_refl _) _).alloc (by simp) _;have hk0:Blk ((w.alloc (.cells #[.slice F.A F.n F.c,.int .i64 F.re,.int .i64 F.lo] 24)).alloc (.cells #[.int .i64 0,.int .i64 0,.int .i64 0,.int .i64 0,.bool false,.int .i64 0,.slice none 0 0,.bool false] 32)) w.heap.size 24 #[.slice F.A F.n F.c,.int .i64 F.re,.int .i64 F.lo]:=(Blk.new w _ _).alloc _;have hk1:Blk ((w.alloc (.cells #[.slice F.A F.n F.c,.int .i64 F.re,.int .i64 F.lo] 24)).alloc (.cells #[.int .i64 0,.int .i64 0,.int .i64 0,.int .i64 0,.bool false,.int .i64 0,.slice none 0 0,.bool false] 32)) (w.heap.size+1) 32 #[.int .i64 0,.int .i64 0,.int .i64 0,.int .i64 0,.bool false,.int .i64 0,.slice none 0 0,.bool false]:=by
  have:=Blk.new (w.alloc (.cells #[.slice F.A F.n F.c,.int .i64 F.re,.int .i64 F.lo] 24)) 32 #[.int .i64 0,.int .i64 0,.int .i64 0,.int .i64 0,.bool false,.int .i64 0,.slice none 0 0,.bool false]
  rwa [World.size_alloc] at this
 have HA:=Lib.hid hA;have HT:=Lib.hid ht;obtain ⟨E,hE⟩:∃E,zAK F.L F.re F.lo S=E:=⟨_,rfl⟩
 have hcs:=zET F.L F.re F.lo S;rw [hE] at hcs;have HBG:=Lib.hid (fun wx (hx:Fgs wx F.A F.n F.L)=>zDv F.A F.n F.c F.L F.re F.lo S wx hx hc);simp only [hE] at HBG;have HE:=Lib.hid hE;obtain ⟨a1,ha1⟩:∃a,a=w.heap.size+1:=⟨_,rfl⟩
 have hge:w.heap.size≤a1:=by omega
 have HGE:=Lib.hid hge;clear hA ht hE hge;go_enter Tryz.func17,Tryz.ntmps17;go_wp2_with fail
 generalize ((w.alloc (.cells #[.slice F.A F.n F.c,.int .i64 F.re,.int .i64 F.lo] 24)).alloc (.cells #[.int .i64 0,.int .i64 0,.int .i64 0,.int .i64 0,.bool false,.int .i64 0,.slice none 0 0,.bool false] 32))=Y at hb0 hk0 hk1 ⊢;rw [←ha1] at hk1 ⊢;clear ha1;refine (HBG.out Y (HA.out.below hb0)).mono ?_;rintro e Y2 ⟨rfl,hb2⟩;have hk2:=hk1.below hb2 hk1.lt;have hf2:=hk0.below hb2 hk0.lt;have hb3:=zAa hb0 hb2 hb0.size;clear hk1 hk0 hb0 hb2 HBG;by_cases h0:E=0
 ·subst h0;have hS:=(zCh HE.out).1;have HR:=Lib.hid (show rdE F.L F.re F.lo S=zES F.L S∧rdO F.L F.re F.lo S=zHN F.L S by unfold rdE rdO;rw [HE.out];exact ⟨rfl,rfl⟩);have HPA:=Lib.hid (zHO F S Y2 (HA.out.below hb3) (by omega) (HT.out.below hb3));obtain ⟨v0,v1,v2⟩:=cQ3 hf2;clear hcs hS hf2;go_wp2_with fail
  refine HPA.out.mono ?_;rintro e Y3 ⟨B2,m2,d2,rfl,hrow,hm2,hb4⟩;have HM2:=Lib.hid hm2;have hk3:=hk2.below hb4 hk2.lt;have hlt2:a1 < Y2.heap.size:=hk2.lt;have hb5:=zAa hb3 hb4 hb3.size;have HO:=Lib.hid HR.out.2;obtain ⟨ov,eov⟩:∃x,zHN F.L S=x:=⟨_,rfl⟩
  rw [eov] at hrow HM2 HO ⊢;clear eov hm2;obtain ⟨kk,ff,⟨gf,gl,gfar,gpc⟩,path,vov⟩:=ov;have y0:Y3.cell? ⟨a1,0,none⟩=some (.int .i64 0):=(hk3.cell 0).trans rfl;have yz0:=hk3.frozen 0;have y1:Y3.cell? ⟨a1,1,none⟩=some (.int .i64 0):=(hk3.cell 1).trans rfl;have yz1:=hk3.frozen 1;have y2:Y3.cell? ⟨a1,2,none⟩=some (.int .i64 0):=(hk3.cell 2).trans rfl;have yz2:=hk3.frozen 2;have y3:Y3.cell? ⟨a1,3,none⟩=some (.int .i64 0):=(hk3.cell 3).trans rfl;have yz3:=hk3.frozen 3;have y4:Y3.cell? ⟨a1,4,none⟩=some (.bool false):=(hk3.cell 4).trans rfl;have yz4:=hk3.frozen 4;have y5:Y3.cell? ⟨a1,5,none⟩=some (.int .i64 0):=(hk3.cell 5).trans rfl;have yz5:=hk3.frozen 5;have y6:Y3.cell? ⟨a1,6,none⟩=some (.slice none 0 0):=(hk3.cell 6).trans rfl;have yz6:=hk3.frozen 6;have y7:Y3.cell? ⟨a1,7,none⟩=some (.bool false):=(hk3.cell 7).trans rfl;have yz7:=hk3.frozen 7;have SV:=Lib.hid (hk3.store8 (.int .i64 kk) (.int .i64 ff) (.int .i64 gf) (.int .i64 gl) (.bool gfar) (.int .i64 gpc) (.slice B2 m2 d2) (.bool vov));have BV:=Lib.hid (zAg hb5 HGE.out (.int .i64 kk) (.int .i64 ff) (.int .i64 gf) (.int .i64 gl) (.bool gfar) (.int .i64 gpc) (.slice B2 m2 d2) (.bool vov));have RV:=Lib.hid ((hrow.store8 hlt2 (.int .i64 kk) (.int .i64 ff) (.int .i64 gf) (.int .i64 gl) (.bool gfar) (.int .i64 gpc) (.slice B2 m2 d2) (.bool vov)).mono (Nat.le_trans HGE.out (Nat.le_of_lt hlt2)));have hER:=HR.out.1;have HER:=Lib.hid hER;clear hk2 hb3 hb4 hb5 hk3 hrow v0 v1 v2 HPA hER HR hlt2;go_wp2_with fail
  exact zCl rfl rfl rfl SV.out Tryz.underlying32 rfl (by kernel_rfl) rfl (by rw [HER.out,HO.out];exact ⟨B2,m2,d2,rfl,RV.out,HM2.out,BV.out⟩)
 ·have HR:=Lib.hid (show rdE F.L F.re F.lo S=E∧rdO F.L F.re F.lo S=o0 by unfold rdE rdO;rw [HE.out,if_neg h0,if_neg h0];exact ⟨rfl,rfl⟩);have SZ:=Lib.hid (hk2.store8 (.int .i64 0) (.int .i64 0) (.int .i64 0) (.int .i64 0) (.bool false) (.int .i64 0) (.slice none 0 0) (.bool false));have BZ:=Lib.hid (zAg hb3 HGE.out (.int .i64 0) (.int .i64 0) (.int .i64 0) (.int .i64 0) (.bool false) (.int .i64 0) (.slice none 0 0) (.bool false));have y0:Y2.cell? ⟨a1,0,none⟩=some (.int .i64 0):=(hk2.cell 0).trans rfl;have yz0:=hk2.frozen 0;have y1:Y2.cell? ⟨a1,1,none⟩=some (.int .i64 0):=(hk2.cell 1).trans rfl;have yz1:=hk2.frozen 1;have y2:Y2.cell? ⟨a1,2,none⟩=some (.int .i64 0):=(hk2.cell 2).trans rfl;have yz2:=hk2.frozen 2;have y3:Y2.cell? ⟨a1,3,none⟩=some (.int .i64 0):=(hk2.cell 3).trans rfl;have yz3:=hk2.frozen 3;have y4:Y2.cell? ⟨a1,4,none⟩=some (.bool false):=(hk2.cell 4).trans rfl;have yz4:=hk2.frozen 4;have y5:Y2.cell? ⟨a1,5,none⟩=some (.int .i64 0):=(hk2.cell 5).trans rfl;have yz5:=hk2.frozen 5;have y6:Y2.cell? ⟨a1,6,none⟩=some (.slice none 0 0):=(hk2.cell 6).trans rfl;have yz6:=hk2.frozen 6;have y7:Y2.cell? ⟨a1,7,none⟩=some (.bool false):=(hk2.cell 7).trans rfl;have yz7:=hk2.frozen 7;rcases hcs.resolve_left h0 with rfl | rfl
  all_goals clear hk2 hb3 hf2 h0 hcs
  all_goals go_wp2_with fail
  all_goals exact zCl rfl rfl rfl SZ.out Tryz.underlying32 rfl (by kernel_rfl) rfl (by rw [HR.out.1,HR.out.2];exact ⟨none,0,0,rfl,Row.none_ _ _ _,rfl,BZ.out⟩)
def zVK (L:List Fg) (s:Sg):Nst:=⟨fa L (s.f-1).toNat,s.l,s.far,s.pc⟩
def zWc (L:List Fg) (x:Sp):Nst×Bool:=(zVK L x.s,x.over)
def nOf (L:List Fg) (o:Og):Nop:=⟨o.kind,fa L (o.f-1).toNat,if o.fr.f=0 then none else some (zVK L o.fr),o.path.map (zWc L),o.over⟩
section
variable {L:List Fg} {re lo:Int}
def GoodL (L:List Fg):Prop:=∀i,i < L.length→zEv L i=true
theorem frOk.good (h:frOk L re lo):GoodL L:=h.2.2.2.2.2
theorem GoodL.idx (h:GoodL L) {f:Int} (h1:1≤f) (h2:f≤(L.length:Int)):zBb L (fa L (f-1).toNat)=f.toNat:=by
 have hi:(f-1).toNat < L.length:=by omega
 have:=h _ hi;unfold zEv at this;simp only [Bool.and_eq_true,decide_eq_true_eq] at this;rw [(zJY hi).1 this.2];omega
theorem frOk.idx (h:frOk L re lo) {f:Int} (h1:1≤f) (h2:f≤(L.length:Int)):zBb L (fa L (f-1).toNat)=f.toNat:=h.good.idx h1 h2
theorem zII {f:Fg} (h:zBb L f≠0):fa L ((zBb L f:Int)-1).toNat=f:=by
 obtain ⟨i,hi⟩:∃i,zBb L f=i+1:=⟨zBb L f-1,by omega⟩
 have h2:=(zIV hi).1;rw [show ((zBb L f:Int)-1).toNat=i by omega];exact zVN h2
theorem zFB {k:Nat} {o:Og} (h1:1≤o.f) (h2:o.f≤(k:Int)) (hp:∀x∈o.path,zAS k x.s=true)
  (h:(o.kind=1∨o.kind=2∨o.kind=8)∧o.fr=s0∧o.path=[]∧o.over=false
   ∨ o.kind=4∧o.fr=s0∧o.path=[]
   ∨ o.kind=3∧zAS k o.fr=true∧o.over=false
   ∨ o.kind=5∧zAS k o.fr=true∧o.path=[]
   ∨ (o.kind=6∨o.kind=7)∧zAS k o.fr=true∧o.fr=⟨o.fr.f,0,false,0⟩∧o.path=[]):zAp k o=true:=by
 have h3:o.kind=3∨o.path=[]:=by
  rcases h with h | h | h | h | h
  ·exact .inr h.2.2.1
  ·exact .inr h.2.2
  ·exact .inl h.1
  ·exact .inr h.2.2
  ·exact .inr h.2.2.2
 have hr:zDK k o=true:=by
  unfold zDK;rcases h with ⟨e,h,_,h'⟩ | ⟨e,h,_⟩ | ⟨e,h,h'⟩ | ⟨e,h,_⟩ | ⟨e,h,h',_⟩
  ·rw [if_pos e,h,h'];rfl
  ·rw [if_neg (by omega),if_pos e,h];rfl
  ·rw [if_neg (by omega),if_neg (by omega),if_pos e,h,h'];rfl
  ·rw [if_neg (by omega),if_neg (by omega),if_neg (by omega),if_pos e,h]
  ·rw [if_neg (by omega),if_neg (by omega),if_neg (by omega),if_neg (by omega),if_pos e,h,←h',zLm.2 rfl];rfl
 unfold zAp;rw [hr];simp only [Bool.and_eq_true,decide_eq_true_eq,Bool.or_eq_true,List.all_eq_true,and_true];exact ⟨⟨⟨h1,h2⟩,h3⟩,hp⟩
theorem zVi {x:Nst} (h:zCT x) (hg:zBA L x.f=false):zAS L.length (sOf L x)=true∧zVK L (sOf L x)=x∧¬(sOf L x).f=0:=by
 have h0:zBb L x.f≠0:=by simpa [zBA] using hg
 have hl:=zEH (f:=x.f) (L:=L);refine ⟨zAC.2 ⟨by simp only [sOf];omega,by simp only [sOf];omega,h.2.1,h.2.2.1,h.2.2.2.1,h.2.2.2.2⟩,?_,by simp only [sOf];omega⟩;unfold zVK sOf;simp only;rw [zII h0]
theorem o_ok {n:Nop} (h:okN n) (hl:zAF L n=false):zAp L.length (oOf L n)=true∧nOf L (oOf L n)=n:=by
 obtain ⟨h1,h2⟩:=h;unfold zAF at hl;simp only [Bool.or_eq_false_iff] at hl;obtain ⟨⟨l1,l2⟩,l3⟩:=hl;have h0:zBb L n.f≠0:=by simpa [zBA] using l1
 have hle:=zEH (f:=n.f) (L:=L);have hpath:∀y∈n.path,zBA L y.1.f=false:=fun y hy=>by
  have:=(List.any_eq_false.1 l2) y hy;simpa using this
 obtain ⟨kind,f,fr,path,over⟩:=n;unfold zKu at h2;simp only at h1 h2 l1 l3 h0 hle hpath;have hpm:(∀y∈path,zCT y.1)→(path.map (pOf L)).map (zWc L)=path:=fun hp=>by
  rw [List.map_map]
  conv=>rhs;rw [←List.map_id path]
  refine List.map_congr_left fun x hx=>?_
  simp only [Function.comp,zWc,pOf,id];rw [(zVi (hp x hx) (hpath x hx)).2.1]
 have hpn:(∀y∈path,zCT y.1)→∀x∈path.map (pOf L),zAS L.length x.s=true:=fun hp x hx=>by
  obtain ⟨y,hy,rfl⟩:=List.mem_map.1 hx;exact (zVi (hp y hy) (hpath y hy)).1
 rcases h2 with ⟨e,rfl,rfl,rfl⟩ | ⟨e,rfl,rfl⟩ | ⟨e,⟨x,rfl,hx⟩,hp,rfl⟩ | ⟨e,⟨x,rfl,hx⟩,rfl⟩ | ⟨e,⟨g,rfl,hx⟩,rfl⟩
 ·refine ⟨zFB (by simp only [oOf];omega) (by simp only [oOf];omega) (by simp [oOf]) (.inl ⟨e,rfl,rfl,rfl⟩),?_⟩;unfold nOf oOf;simp only [zII h0];rfl
 ·refine ⟨zFB (by simp only [oOf];omega) (by simp only [oOf];omega) (by simp [oOf]) (.inr (.inl ⟨e,rfl,rfl⟩)),?_⟩;unfold nOf oOf;simp only [zII h0];rfl
 ·obtain ⟨a1,a2,a3⟩:=zVi hx l3;refine ⟨zFB (by simp only [oOf];omega) (by simp only [oOf];omega) (hpn hp) (.inr (.inr (.inl ⟨e,a1,rfl⟩))),?_⟩;unfold nOf oOf;simp only [zII h0,Option.map_some,Option.getD_some,if_neg a3,a2,hpm hp]
 ·obtain ⟨a1,a2,a3⟩:=zVi hx l3;refine ⟨zFB (by simp only [oOf];omega) (by simp only [oOf];omega) (by simp [oOf]) (.inr (.inr (.inr (.inl ⟨e,a1,rfl⟩)))),?_⟩;unfold nOf oOf;simp only [zII h0,Option.map_some,Option.getD_some,if_neg a3,a2];rfl
 ·have hxo:zCT ⟨g,0,false,0⟩:=⟨hx,by simp,by simp,by simp,by simp⟩;obtain ⟨a1,a2,a3⟩:=zVi (L:=L) hxo l3;refine ⟨zFB (by simp only [oOf];omega) (by simp only [oOf];omega) (by simp [oOf]) (.inr (.inr (.inr (.inr ⟨e,a1,rfl,rfl⟩)))),?_⟩;unfold nOf oOf;simp only [zII h0,Option.map_some,Option.getD_some,if_neg a3,a2];rfl
end
theorem zSM {L:List Fg} (hL:L.length≤17592186043904) {n:Nop} (h:okN n):OgOk (oOf L n)∧∀x∈(oOf L n).path,SgOk x.s:=by
 have hx:∀f:Fg,(zBb L f:Int)≤17592186043904:=fun f=>by have:=zEH (f:=f) (L:=L);omega
 have hs:∀x:Nst,zCT x→SgOk (sOf L x):=fun x hx'=>by
  obtain ⟨_,h1,h2,h3,h4⟩:=hx';have:=hx x.f;exact ⟨⟨by simp only [sOf];omega,by simp only [sOf];omega⟩,⟨by simp only [sOf];omega,by simp only [sOf];omega⟩,⟨by simp only [sOf];omega,by simp only [sOf];omega⟩⟩
 have hs0:SgOk s0:=⟨⟨by simp [s0],by simp [s0]⟩,⟨by simp [s0],by simp [s0]⟩,⟨by simp [s0],by simp [s0]⟩⟩;obtain ⟨h1,h2⟩:=h;obtain ⟨k,f,fr,path,over⟩:=n;have hf:=hx f;unfold zKu at h2;simp only at h1 h2;have hp0:∀x∈(List.map (pOf L) ([]:List (Nst×Bool))),SgOk x.s:=fun x hx=>by simp at hx
 rcases h2 with ⟨e,rfl,rfl,rfl⟩ | ⟨e,rfl,rfl⟩ | ⟨e,⟨x,rfl,hx'⟩,hp,rfl⟩ | ⟨e,⟨x,rfl,hx'⟩,rfl⟩ | ⟨e,⟨g,rfl,hg⟩,rfl⟩
 ·exact ⟨⟨⟨by simp only [oOf];omega,by simp only [oOf];omega⟩,⟨by simp only [oOf];omega,by simp only [oOf];omega⟩,hs0⟩,hp0⟩
 ·exact ⟨⟨⟨by simp only [oOf];omega,by simp only [oOf];omega⟩,⟨by simp only [oOf];omega,by simp only [oOf];omega⟩,hs0⟩,hp0⟩
 ·refine ⟨⟨⟨by simp only [oOf];omega,by simp only [oOf];omega⟩,⟨by simp only [oOf];omega,by simp only [oOf];omega⟩,hs x hx'⟩,fun y hy=>?_⟩;obtain ⟨z,hz,rfl⟩:=List.mem_map.1 hy;exact hs z.1 (hp z hz)
 ·exact ⟨⟨⟨by simp only [oOf];omega,by simp only [oOf];omega⟩,⟨by simp only [oOf];omega,by simp only [oOf];omega⟩,hs x hx'⟩,hp0⟩
 ·have hgo:zCT ⟨g,0,false,0⟩:=⟨hg,by simp,by simp,by simp,by simp⟩;exact ⟨⟨⟨by simp only [oOf];omega,by simp only [oOf];omega⟩,⟨by simp only [oOf];omega,by simp only [oOf];omega⟩,hs _ hgo⟩,hp0⟩
theorem zTK:OgOk o0∧∀x∈o0.path,SgOk x.s :=
 ⟨⟨⟨by simp [o0],by simp [o0]⟩,⟨by simp [o0],by simp [o0]⟩,⟨⟨by simp [o0,s0],by simp [o0,s0]⟩,⟨by simp [o0,s0],by simp [o0,s0]⟩,⟨by simp [o0,s0],by simp [o0,s0]⟩⟩⟩,fun x hx=>by simp [o0] at hx⟩
theorem zPz {L:List Fg} {S:List UInt8} (h:zRu L S=false):∃n,okN n∧S=zDE n∧(opR L ⟨zBD S,false,false⟩).1=oOf L n∧zUJ L S=zAF L n:=by
 unfold zRu at h;simp only [Bool.or_eq_false_iff,Bool.not_eq_false',List.isEmpty_iff] at h;obtain ⟨n,h1,h2,h3,h4⟩:=zRi h.1 h.2;exact ⟨n,h1,zJv h2,h3,h4⟩
theorem zVj (L:List Fg) {n:Nop} (h:okN n):zRu L (zDE n)=false∧(opR L ⟨zBD (zDE n),false,false⟩).1=oOf L n∧zUJ L (zDE n)=zAF L n:=by
 unfold zRu zUJ;rw [zEo,zVZ L h];exact ⟨rfl,rfl,rfl⟩
theorem zGX (L:List Fg) {n:Nop} (h:okN n):zES L (zDE n)=(if zAF L n then 8 else 0)∧zHN L (zDE n)=(if zAF L n then o0 else oOf L n):=by
 obtain ⟨h1,h2,h3⟩:=zVj L h;have he:zES L (zDE n)=(if zAF L n then 8 else 0):=by unfold zES;rw [h1,h3];rfl
 refine ⟨he,?_⟩;unfold zHN;rw [he,h2]
 cases zAF L n<;>rfl
theorem zML (L:List Fg) {S:List UInt8} (h:∀n,okN n→S≠zDE n):zES L S=6∧zHN L S=o0:=by
 have hb:zRu L S=true:=by
  cases e:zRu L S with
  | true=>rfl
  | false =>
   obtain ⟨n,h1,h2,_⟩:=zPz e;exact absurd h2 (h n h1)
 have he:zES L S=6:=by unfold zES;rw [hb];rfl
 exact ⟨he,by unfold zHN;rw [he];rfl⟩
theorem zTL {L:List Fg} (hL:L.length≤17592186043904) (S:List UInt8):OgOk (zHN L S)∧∀x∈(zHN L S).path,SgOk x.s:=by
 by_cases h:∃n,okN n∧S=zDE n
 ·obtain ⟨n,h1,rfl⟩:=h;rw [(zGX L h1).2]
  cases zAF L n with
  | true=>exact zTK
  | false=>exact zSM hL h1
 ·rw [(zML L fun n h1 h2=>h ⟨n,h1,h2⟩).2];exact zTK
noncomputable def zBZ (L:List Fg):List (List UInt8)→List Og→List Og×Nat×Int
 | [],O=>(O,O.length,0)
 | [p],O=>if p=[] then (O,O.length,0) else ([],O.length,6)
 | p :: q :: r,O=>if zES L p=0 then zBZ L (q :: r) (O++[zHN L p]) else ([],O.length,zES L p)
theorem zJG {c:UInt8}:∀{R:List UInt8},c∈R→∃h r,R=h++c :: r∧c ∉ h
 | [],hc=>by simp at hc
 | x :: R,hc=>by
  by_cases e:x=c
  ·exact ⟨[],R,by rw [e];rfl,by simp⟩
  ·have hR:c∈R:=by
    rcases List.mem_cons.1 hc with h | h
    ·exact absurd h.symm e
    ·exact h
   obtain ⟨h,r,rfl,hh⟩:=zJG hR
   exact ⟨x :: h,r,rfl,fun hm=>by
    rcases List.mem_cons.1 hm with h1 | h1
    ·exact e h1.symm
    ·exact hh h1⟩
theorem zPA (L:List Fg) (O:List Og):zBZ L (zBo 10 []) O=(O,O.length,0):=rfl
theorem zNQ (L:List Fg) {R:List UInt8} (h:(10:UInt8) ∉ R) (h0:R≠[]) (O:List Og):zBZ L (zBo 10 R) O=([],O.length,6):=by
 rw [zFr h,zBZ,if_neg h0]
theorem zNR (L:List Fg) {h r:List UInt8} (hc:(10:UInt8) ∉ h) (O:List Og):zBZ L (zBo 10 (h++10 :: r)) O=if zES L h=0 then zBZ L (zBo 10 r) (O++[zHN L h]) else ([],O.length,zES L h):=by
 rw [zEn hc]
 cases e:zBo 10 r with
 | nil=>exact absurd e (zHv 10 r)
 | cons q s=>rw [zBZ]
structure OpsOwn (w:World) (base:Nat) (A:Option Addr) (n c:Nat) (Es:List Oe):Prop where
 row:Row w base 8 A n c (Es.flatMap zTj)
 ok:∀e∈Es,OgOk e.o∧Stps w e.A e.n e.o.path∧e.n≤e.c∧∀k,blk e.A=some k→k < w.heap.size∧blk A≠some k
section
variable {w w':World} {base:Nat} {A:Option Addr} {n c:Nat} {Es:List Oe}
theorem OpsOwn.none_ (w:World) (base:Nat):OpsOwn w base none 0 0 []:=⟨Row.none_ _ _ _,by simp⟩
theorem OpsOwn.below (h:OpsOwn w base A n c Es) (hb:Below w.heap.size w w'):OpsOwn w' base A n c Es :=
 ⟨h.row.below hb,fun e he=>by obtain ⟨h1,h2,h3,h4⟩:=h.ok e he;exact ⟨h1,h2.below hb,h3,fun k hk=>⟨Nat.lt_of_lt_of_le (h4 k hk).1 hb.size,(h4 k hk).2⟩⟩⟩
theorem OpsOwn.mono {base':Nat} (h:OpsOwn w base A n c Es) (hb:base'≤base):OpsOwn w base' A n c Es:=⟨h.row.mono hb,h.ok⟩
theorem Stps.kept {B:Option Addr} {m:Nat} {P:List Sp} {row:Option Nat} (h:Stps w B m P) (hg:w.grownBy w' row) (hne:∀k,blk B=some k→row≠some k):Stps w' B m P:=by
 refine ⟨⟨h.1.1,h.1.2.1,fun h0=>?_⟩,h.2⟩;obtain ⟨g,o,e,hb,hc⟩:=h.1.2.2 h0;subst e;refine ⟨g,o,rfl,Nat.lt_of_lt_of_le hb hg.size,fun j x hx q v hv=>?_⟩;rw [World.cell?_of_block (w:=w) (w':=w') (hg.block g hb (fun e=>hne g rfl e.symm))];exact hc j x hx q v hv
theorem OpsOwn.push {A':Option Addr} {N c':Nat} (h:OpsOwn w base A n c Es) (e:Oe) (he:OgOk e.o∧Stps w e.A e.n e.o.path∧e.n≤e.c∧∀k,blk e.A=some k→k < w.heap.size∧blk A≠some k)
  (hr:Row w' base 8 A' N c' ((Es++[e]).flatMap zTj)) (hg:w.grownBy w' (blk A)) (hl:∀k,blk A'=some k→blk A=some k∨w.heap.size≤k):OpsOwn w' base A' N c' (Es++[e]):=by
 refine ⟨hr,fun x hx=>?_⟩;have hx2:OgOk x.o∧Stps w x.A x.n x.o.path∧x.n≤x.c∧∀k,blk x.A=some k→k < w.heap.size∧blk A≠some k:=by
  rcases List.mem_append.1 hx with h1 | h1
  ·exact h.ok x h1
  ·rw [List.mem_singleton.1 h1];exact he
 obtain ⟨h1,h2,h3,h4⟩:=hx2;refine ⟨h1,h2.kept hg (fun k hk=>(h4 k hk).2),h3,fun k hk=>⟨Nat.lt_of_lt_of_le (h4 k hk).1 hg.size,fun e2=>?_⟩⟩;rcases hl k e2 with h5 | h5
 ·exact (h4 k hk).2 h5
 ·have:=(h4 k hk).1;omega
theorem OpsOwn.oprs (h:OpsOwn w base A n c Es) (hn:n≤1000000):Oprs w A n Es :=
 ⟨h.row.els (fun _=>rfl) (by omega) (by omega),fun e he=>by obtain ⟨h1,h2,h3,_⟩:=h.ok e he;exact ⟨h1,h2,h3⟩⟩
end
theorem zVk {w:World} {ops:Array Oper} {rest:List Oper} {o:Oper} {a:Act} {Q:Exit→Act→World→Prop} (hgd:o.guard=none) (s x:Operand)
  (ho:o.op=.call { callee:=.builtin .append,args:=#[s,x],argTypes:=#[38,38] })
  {base:Nat} {A:Option Addr} {n c:Nat} {Es:List Oe} (hst:Row w base 8 A n c (Es.flatMap zTj)) (y:Oe)
  (hs:a.eval s=.slice A n c) (hx:a.eval x=.slice (some ⟨w.heap.size,0,none⟩) 1 1) (N:Nat) (hN:n+1=N) (hn:N≤1000000) (hbase:base≤w.heap.size)
  (h:∀A' c' w',Row w' base 8 A' N c' ((Es++[y]).flatMap zTj)→w.grownBy w' (blk A)→(∀k,blk A'=some k→blk A=some k∨w.heap.size≤k)→wpList Tryz.prog ops Q rest (a.put o.dst (.slice A' N c')) w') :
  wpList Tryz.prog ops Q (o :: rest) a (w.alloc (.cells #[.int .i64 y.o.kind,.int .i64 y.o.f,.int .i64 y.o.fr.f,.int .i64 y.o.fr.l,.bool y.o.fr.far,.int .i64 y.o.fr.pc,.slice y.A y.n y.c,.bool y.o.over] 32)):=by
 obtain ⟨i0,hi,hz0,hz1,hz2⟩:=info_parts zVe;have hbl:=(Below.refl w.heap.size w).alloc (Nat.le_refl _) (.cells #[.int .i64 y.o.kind,.int .i64 y.o.f,.int .i64 y.o.fr.f,.int .i64 y.o.fr.l,.bool y.o.fr.far,.int .i64 y.o.fr.pc,.slice y.A y.n y.c,.bool y.o.over] 32);have hst1:=hst.below hbl
 refine zQL hgd s x 38 ho 32 i0 _ 8 80 Tryz.underlying38 hi hz0 hz1 hz2 rfl (by decide) hst1 (Src.new (m:=1) (cs:=zTj y) rfl)
  (by intro u hu;simp [zTj] at hu;rcases hu with rfl | rfl | rfl | rfl | rfl | rfl | rfl | rfl<;>rfl) hs hx N hN (by unfold maxLen;omega) (by omega) (by simp;omega) ?_
 intro A' c' w' h1 h2 h3 _;refine h A' c' w' (by rw [List.flatMap_append];simpa using h1) ?_ (fun k hk=>?_)
 ·exact zAb (zAw hbl) h2
 ·rcases h3 k hk with e | e
  ·exact .inl e
  ·exact .inr (by simp at e;omega)
theorem zRv (s:List UInt8) (hs:s.length≤100000) (w:World) (ht:Tabs w) :
  Calls Tryz.prog 62 #[.string (bA s),.string ⟨#[10]⟩] w fun e w'=>e=.returned (.tuple #[.string (bA (Lib.cut s [10]).1),.string (bA (Lib.cut s [10]).2.1),.bool (Lib.cut s [10]).2.2])∧Below w.heap.size w w':=by
 obtain ⟨m,hm⟩:=ht.most;have h:=Tryz.strings_Cut (bA s) (bA [10]) m w (by rw [zBc];omega) hm;rw [zDJ,zDJ] at h;refine h.mono ?_;rintro e w' ⟨rfl,n,rfl⟩;exact ⟨rfl,zAf (Below.refl _ _) n⟩
def zPB (w0:World) (O:List Og) (n er:Int) (e:Ending) (w':World):Prop :=
 ∃B m d Es,e=.returned (.tuple #[.slice B m d,.int .i64 n,.int .i64 er])∧List.map (fun x:Oe=>x.o) Es=O∧m≤1000000∧OpsOwn w' w0.heap.size B m d Es∧Below w0.heap.size w0 w'
end Go.Proofs.YtlmdfmnbcndhoaaGreatDoor
