/-
  Own slices of operations whose paths are own slices too; what is read is in range; lines of operations (plain). No walk.
  Contract: the program's ReadLines. Conditions: the frame reads; the library's tables stand.
  Contract: the program's readItems, ReadSigns. Conditions: the frame reads; the library's tables stand.
-/
import Derived.Test.YtlmdfmnbcndhoaaGreatDoorWr23
import Derived.Test.YtlmdfmnbcndhoaaGreatDoorWr20
namespace Go.Proofs.YtlmdfmnbcndhoaaGreatDoor
open Go.RowKit
theorem oOf_ok {L:List Fg} (hL:L.length≤17592186043904) {n:Nop} (h:okN n):OgOk (oOf L n)∧∀x∈(oOf L n).path,SgOk x.s:=by
 have hx:∀f:Fg,(idxF L f:Int)≤17592186043904:=fun f=>by have:=zFp (f:=f) (L:=L);omega
 have hs:∀x:Nst,zCG x→SgOk (sOf L x):=fun x hx'=>by
  obtain ⟨_,h1,h2,h3,h4⟩:=hx'
  have:=hx x.f
  exact ⟨⟨by simp only [sOf];omega,by simp only [sOf];omega⟩,⟨by simp only [sOf];omega,by simp only [sOf];omega⟩,⟨by simp only [sOf];omega,by simp only [sOf];omega⟩⟩
 have hs0:SgOk s0:=⟨⟨by simp [s0],by simp [s0]⟩,⟨by simp [s0],by simp [s0]⟩,⟨by simp [s0],by simp [s0]⟩⟩
 obtain ⟨h1,h2⟩:=h
 obtain ⟨k,f,fr,path,over⟩:=n
 have hf:=hx f
 unfold okKind at h2
 simp only at h1 h2
 have hp0:∀x∈(List.map (pOf L) ([]:List (Nst×Bool))),SgOk x.s:=fun x hx=>by simp at hx
 rcases h2 with ⟨e,rfl,rfl,rfl⟩ | ⟨e,rfl,rfl⟩ | ⟨e,⟨x,rfl,hx'⟩,hp,rfl⟩ | ⟨e,⟨x,rfl,hx'⟩,rfl⟩ | ⟨e,⟨g,rfl,hg⟩,rfl⟩
 ·exact ⟨⟨⟨by simp only [oOf];omega,by simp only [oOf];omega⟩,⟨by simp only [oOf];omega,by simp only [oOf];omega⟩,hs0⟩,hp0⟩
 ·exact ⟨⟨⟨by simp only [oOf];omega,by simp only [oOf];omega⟩,⟨by simp only [oOf];omega,by simp only [oOf];omega⟩,hs0⟩,hp0⟩
 ·refine ⟨⟨⟨by simp only [oOf];omega,by simp only [oOf];omega⟩,⟨by simp only [oOf];omega,by simp only [oOf];omega⟩,hs x hx'⟩,fun y hy=>?_⟩
  obtain ⟨z,hz,rfl⟩:=List.mem_map.1 hy
  exact hs z.1 (hp z hz)
 ·exact ⟨⟨⟨by simp only [oOf];omega,by simp only [oOf];omega⟩,⟨by simp only [oOf];omega,by simp only [oOf];omega⟩,hs x hx'⟩,hp0⟩
 ·have hgo:zCG ⟨g,0,false,0⟩:=⟨hg,by simp,by simp,by simp,by simp⟩
  exact ⟨⟨⟨by simp only [oOf];omega,by simp only [oOf];omega⟩,⟨by simp only [oOf];omega,by simp only [oOf];omega⟩,hs _ hgo⟩,hp0⟩
theorem o0_ok:OgOk o0∧∀x∈o0.path,SgOk x.s :=
 ⟨⟨⟨by simp [o0],by simp [o0]⟩,⟨by simp [o0],by simp [o0]⟩,⟨⟨by simp [o0,s0],by simp [o0,s0]⟩,⟨by simp [o0,s0],by simp [o0,s0]⟩,⟨by simp [o0,s0],by simp [o0,s0]⟩⟩⟩,fun x hx=>by simp [o0] at hx⟩
/-- A line that is read: the operation by its names. -/
theorem par_sound {L:List Fg} {S:List UInt8} (h:parB L S=false):∃n,okN n∧S=zDt n∧(opR L ⟨zBr S,false,false⟩).1=oOf L n∧parL L S=zAA L n:=by
 unfold parB at h
 simp only [Bool.or_eq_false_iff,Bool.not_eq_false',List.isEmpty_iff] at h
 obtain ⟨n,h1,h2,h3,h4⟩:=op_sound h.1 h.2
 exact ⟨n,h1,line_of_split h2,h3,h4⟩
theorem par_at (L:List Fg) {n:Nop} (h:okN n):parB L (zDt n)=false∧(opR L ⟨zBr (zDt n),false,false⟩).1=oOf L n∧parL L (zDt n)=zAA L n:=by
 unfold parB parL
 rw [zDY,op_at L h]
 exact ⟨rfl,rfl,rfl⟩
/-- What reading a line gives, by names. -/
theorem zGl (L:List Fg) {n:Nop} (h:okN n):parE L (zDt n)=(if zAA L n then 8 else 0)∧parO L (zDt n)=(if zAA L n then o0 else oOf L n):=by
 obtain ⟨h1,h2,h3⟩:=par_at L h
 have he:parE L (zDt n)=(if zAA L n then 8 else 0):=by unfold parE;rw [h1,h3];rfl
 refine ⟨he,?_⟩
 unfold parO
 rw [he,h2]
 cases zAA L n<;>rfl
theorem par_no (L:List Fg) {S:List UInt8} (h:∀n,okN n→S≠zDt n):parE L S=6∧parO L S=o0:=by
 have hb:parB L S=true:=by
  cases e:parB L S with
  | true=>rfl
  | false =>
   obtain ⟨n,h1,h2,_⟩:=par_sound e
   exact absurd h2 (h n h1)
 have he:parE L S=6:=by unfold parE;rw [hb];rfl
 exact ⟨he,by unfold parO;rw [he];rfl⟩
theorem parO_ok {L:List Fg} (hL:L.length≤17592186043904) (S:List UInt8):OgOk (parO L S)∧∀x∈(parO L S).path,SgOk x.s:=by
 by_cases h:∃n,okN n∧S=zDt n
 ·obtain ⟨n,h1,rfl⟩:=h
  rw [(zGl L h1).2]
  cases zAA L n with
  | true=>exact o0_ok
  | false=>exact oOf_ok hL h1
 ·rw [(par_no L fun n h1 h2=>h ⟨n,h1,h2⟩).2]
  exact o0_ok
/-- Lines: the operations, how many lines come before an error, the error. -/
noncomputable def zBO (L:List Fg):List (List UInt8)→List Og→List Og×Nat×Int
 | [],O=>(O,O.length,0)
 | [p],O=>if p=[] then (O,O.length,0) else ([],O.length,6)
 | p :: q :: r,O=>if parE L p=0 then zBO L (q :: r) (O++[parO L p]) else ([],O.length,parE L p)
theorem first_of {c:UInt8}:∀{R:List UInt8},c∈R→∃h r,R=h++c :: r∧c ∉ h
 | [],hc=>by simp at hc
 | x :: R,hc=>by
  by_cases e:x=c
  ·exact ⟨[],R,by rw [e];rfl,by simp⟩
  ·have hR:c∈R:=by
    rcases List.mem_cons.1 hc with h | h
    ·exact absurd h.symm e
    ·exact h
   obtain ⟨h,r,rfl,hh⟩:=first_of hR
   exact ⟨x :: h,r,rfl,fun hm=>by
    rcases List.mem_cons.1 hm with h1 | h1
    ·exact e h1.symm
    ·exact hh h1⟩
theorem lines_end (L:List Fg) (O:List Og):zBO L (splt 10 []) O=(O,O.length,0):=rfl
theorem lines_open (L:List Fg) {R:List UInt8} (h:(10:UInt8) ∉ R) (h0:R≠[]) (O:List Og):zBO L (splt 10 R) O=([],O.length,6):=by
 rw [zEQ h,zBO,if_neg h0]
theorem lines_more (L:List Fg) {h r:List UInt8} (hc:(10:UInt8) ∉ h) (O:List Og):zBO L (splt 10 (h++10 :: r)) O=if parE L h=0 then zBO L (splt 10 r) (O++[parO L h]) else ([],O.length,parE L h):=by
 rw [zDX hc]
 cases e:splt 10 r with
 | nil=>exact absurd e (zGD 10 r)
 | cons q s=>rw [zBO]
/-- An own slice of operations. -/
structure OpsOwn (w:World) (base:Nat) (A:Option Addr) (n c:Nat) (Es:List Oe):Prop where
 row:Row w base 8 A n c (Es.flatMap encO)
 ok:∀e∈Es,OgOk e.o∧Stps w e.A e.n e.o.path∧e.n≤e.c∧∀k,blk e.A=some k→k < w.heap.size∧blk A≠some k
section
variable {w w':World} {base:Nat} {A:Option Addr} {n c:Nat} {Es:List Oe}
theorem OpsOwn.none_ (w:World) (base:Nat):OpsOwn w base none 0 0 []:=⟨Row.none_ _ _ _,by simp⟩
theorem OpsOwn.below (h:OpsOwn w base A n c Es) (hb:Below w.heap.size w w'):OpsOwn w' base A n c Es :=
 ⟨h.row.below hb,fun e he=>by obtain ⟨h1,h2,h3,h4⟩:=h.ok e he;exact ⟨h1,h2.below hb,h3,fun k hk=>⟨Nat.lt_of_lt_of_le (h4 k hk).1 hb.size,(h4 k hk).2⟩⟩⟩
theorem OpsOwn.mono {base':Nat} (h:OpsOwn w base A n c Es) (hb:base'≤base):OpsOwn w base' A n c Es:=⟨h.row.mono hb,h.ok⟩
theorem Stps.kept {B:Option Addr} {m:Nat} {P:List Sp} {row:Option Nat} (h:Stps w B m P) (hg:w.grownBy w' row) (hne:∀k,blk B=some k→row≠some k):Stps w' B m P:=by
 refine ⟨⟨h.1.1,h.1.2.1,fun h0=>?_⟩,h.2⟩
 obtain ⟨g,o,e,hb,hc⟩:=h.1.2.2 h0
 subst e
 refine ⟨g,o,rfl,Nat.lt_of_lt_of_le hb hg.size,fun j x hx q v hv=>?_⟩
 rw [World.cell?_of_block (w:=w) (w':=w') (hg.block g hb (fun e=>hne g rfl e.symm))]
 exact hc j x hx q v hv
theorem OpsOwn.push {A':Option Addr} {N c':Nat} (h:OpsOwn w base A n c Es) (e:Oe) (he:OgOk e.o∧Stps w e.A e.n e.o.path∧e.n≤e.c∧∀k,blk e.A=some k→k < w.heap.size∧blk A≠some k)
  (hr:Row w' base 8 A' N c' ((Es++[e]).flatMap encO)) (hg:w.grownBy w' (blk A)) (hl:∀k,blk A'=some k→blk A=some k∨w.heap.size≤k):OpsOwn w' base A' N c' (Es++[e]):=by
 refine ⟨hr,fun x hx=>?_⟩
 have hx2:OgOk x.o∧Stps w x.A x.n x.o.path∧x.n≤x.c∧∀k,blk x.A=some k→k < w.heap.size∧blk A≠some k:=by
  rcases List.mem_append.1 hx with h1 | h1
  ·exact h.ok x h1
  ·rw [List.mem_singleton.1 h1];exact he
 obtain ⟨h1,h2,h3,h4⟩:=hx2
 refine ⟨h1,h2.kept hg (fun k hk=>(h4 k hk).2),h3,fun k hk=>⟨Nat.lt_of_lt_of_le (h4 k hk).1 hg.size,fun e2=>?_⟩⟩
 rcases hl k e2 with h5 | h5
 ·exact (h4 k hk).2 h5
 ·have:=(h4 k hk).1;omega
theorem OpsOwn.oprs (h:OpsOwn w base A n c Es) (hn:n≤1000000):Oprs w A n Es :=
 ⟨h.row.els (fun _=>rfl) (by omega) (by omega),fun e he=>by obtain ⟨h1,h2,h3,_⟩:=h.ok e he;exact ⟨h1,h2,h3⟩⟩
end
/-- An operation is put behind an own slice of operations. -/
theorem pushO {w:World} {ops:Array Oper} {rest:List Oper} {o:Oper} {a:Act} {Q:Exit→Act→World→Prop} (hgd:o.guard=none) (s x:Operand)
  (ho:o.op=.call { callee:=.builtin .append,args:=#[s,x],argTypes:=#[38,38] })
  {base:Nat} {A:Option Addr} {n c:Nat} {Es:List Oe} (hst:Row w base 8 A n c (Es.flatMap encO)) (y:Oe)
  (hs:a.eval s=.slice A n c) (hx:a.eval x=.slice (some ⟨w.heap.size,0,none⟩) 1 1) (N:Nat) (hN:n+1=N) (hn:N≤1000000) (hbase:base≤w.heap.size)
  (h:∀A' c' w',Row w' base 8 A' N c' ((Es++[y]).flatMap encO)→w.grownBy w' (blk A)→(∀k,blk A'=some k→blk A=some k∨w.heap.size≤k)→wpList Tryz.prog ops Q rest (a.put o.dst (.slice A' N c')) w') :
  wpList Tryz.prog ops Q (o :: rest) a (w.alloc (.cells #[.int .i64 y.o.kind,.int .i64 y.o.f,.int .i64 y.o.fr.f,.int .i64 y.o.fr.l,.bool y.o.fr.far,.int .i64 y.o.fr.pc,.slice y.A y.n y.c,.bool y.o.over] 32)):=by
 obtain ⟨i0,hi,hz0,hz1,hz2⟩:=info_parts opInfo
 have hbl:=(Below.refl w.heap.size w).alloc (Nat.le_refl _) (.cells #[.int .i64 y.o.kind,.int .i64 y.o.f,.int .i64 y.o.fr.f,.int .i64 y.o.fr.l,.bool y.o.fr.far,.int .i64 y.o.fr.pc,.slice y.A y.n y.c,.bool y.o.over] 32)
 have hst1:=hst.below hbl
 refine appR hgd s x 38 ho 32 i0 _ 8 80 Tryz.underlying38 hi hz0 hz1 hz2 rfl (by decide) hst1 (Src.new (m:=1) (cs:=encO y) rfl)
  (by intro u hu;simp [encO] at hu;rcases hu with rfl | rfl | rfl | rfl | rfl | rfl | rfl | rfl<;>rfl) hs hx N hN (by unfold maxLen;omega) (by omega) (by simp;omega) ?_
 intro A' c' w' h1 h2 h3 _
 refine h A' c' w' (by rw [List.flatMap_append];simpa using h1) ?_ (fun k hk=>?_)
 ·exact zAb (zAv hbl) h2
 ·rcases h3 k hk with e | e
  ·exact .inl e
  ·exact .inr (by simp at e;omega)
theorem cut_line (s:List UInt8) (hs:s.length≤100000) (w:World) (ht:Tabs w) :
  Calls Tryz.prog 62 #[.string (bA s),.string ⟨#[10]⟩] w fun e w'=>e=.returned (.tuple #[.string (bA (Lib.cut s [10]).1),.string (bA (Lib.cut s [10]).2.1),.bool (Lib.cut s [10]).2.2])∧Below w.heap.size w w':=by
 obtain ⟨m,hm⟩:=ht.most
 have h:=Tryz.strings_Cut (bA s) (bA [10]) m w (by rw [zAO];omega) hm
 rw [zDw,zDw] at h
 refine h.mono ?_
 rintro e w' ⟨rfl,n,rfl⟩
 exact ⟨rfl,zAe (Below.refl _ _) n⟩
/-- What reading operations gives: they in memory of the call's own, a number, an error. -/
def OpsErr (w0:World) (O:List Og) (n er:Int) (e:Ending) (w':World):Prop :=
 ∃B m d Es,e=.returned (.tuple #[.slice B m d,.int .i64 n,.int .i64 er])∧List.map (fun x:Oe=>x.o) Es=O∧m≤1000000∧OpsOwn w' w0.heap.size B m d Es∧Below w0.heap.size w0 w'
end Go.Proofs.YtlmdfmnbcndhoaaGreatDoor
namespace Go.Proofs.YtlmdfmnbcndhoaaGreatDoor
open Go.RowKit
noncomputable def rlR (L:List Fg) (re lo:Int) (S:List UInt8):List Og×Nat×Int:=if zAD L re lo S=0 then zBO L (splt 10 S) [] else ([],0,zAD L re lo S)
def strN:Value→Nat
 | .string s=>s.size
 | _=>0
theorem parE_cases (L:List Fg) (S:List UInt8):parE L S=0∨parE L S=6∨parE L S=8:=by
 unfold parE
 split
 ·omega
 ·split<;>omega
theorem stps_of {w:World} {base:Nat} {B:Option Addr} {m d:Nat} {P:List Sp} (h:Row w base 5 B m d (P.flatMap encP)) (hm:m≤1000000) (hok:∀x∈P,SgOk x.s):Stps w B m P:=⟨h.els (fun _=>rfl) (by omega) (by omega),hok⟩
theorem parO_len (L:List Fg) (S:List UInt8):(parO L S).path.length≤2*S.length+2:=by
 by_cases h:∃n,okN n∧S=zDt n
 ·obtain ⟨n,h1,rfl⟩:=h
  rw [(zGl L h1).2]
  cases zAA L n with
  | true=>simp [o0]
  | false =>
   show (n.path.map (pOf L)).length≤_
   rw [List.length_map]
   have h2:=zFE (zDt n)
   rw [zDY] at h2
   have h3:n.path.length≤(tokN n).length:=by
    by_cases hp:n.path=[]
    ·simp [hp]
    ·have hk:n.kind=3:=by
      rcases h1.2 with ⟨_,_,h,_⟩ | ⟨_,_,h⟩ | ⟨h,_⟩ | ⟨_,_,h⟩ | ⟨_,_,h⟩
      ·exact absurd h hp
      ·exact absurd h hp
      ·exact h
      ·exact absurd h hp
      ·exact absurd h hp
     have:=path_len n.path
     unfold tokN tlT
     rw [if_neg (by omega),if_pos hk]
     simp only [List.length_cons,List.length_append]
     omega
   omega
 ·rw [(par_no L fun n h1 h2=>h ⟨n,h1,h2⟩).2]
  simp [o0]
set_option maxHeartbeats 12800000 in
set_option maxRecDepth 100000 in
theorem zGX (F:Fm) (S:List UInt8) (w:World) (hA:Fgs w F.A F.n F.L) (hc:F.n≤F.c) (ht:Tabs w) :
  Calls Tryz.prog 23 #[frV F.A F.n F.c F.re F.lo,.string (bA S)] w (OpsErr w (rlR F.L F.re F.lo S).1 (rlR F.L F.re F.lo S).2.1 (rlR F.L F.re F.lo S).2.2):=by
 have hFL:F.L.length≤17592186043904:=by rw [hA.len];exact hA.le
 have hb0:Below w.heap.size w (w.alloc (.cells #[.slice F.A F.n F.c,.int .i64 F.re,.int .i64 F.lo] 24)):=(Below.refl _ _).alloc (Nat.le_refl _) _
 have hk0:Blk (w.alloc (.cells #[.slice F.A F.n F.c,.int .i64 F.re,.int .i64 F.lo] 24)) w.heap.size 24 #[.slice F.A F.n F.c,.int .i64 F.re,.int .i64 F.lo]:=Blk.new _ _ _
 have HA:=Lib.hid hA
 have HT:=Lib.hid ht
 obtain ⟨E,hE⟩:∃E,zAD F.L F.re F.lo S=E:=⟨_,rfl⟩
 have hcs:=zEw F.L F.re F.lo S
 rw [hE] at hcs
 have HBG:=Lib.hid (fun wx (hx:Fgs wx F.A F.n F.L)=>zDj F.A F.n F.c F.L F.re F.lo S wx hx hc)
 simp only [hE] at HBG
 have HE:=Lib.hid hE
 have HR:Hid (rlR F.L F.re F.lo S=if E=0 then zBO F.L (splt 10 S) [] else ([],0,E)):=Lib.hid (by unfold rlR;rw [hE])
 obtain ⟨⟨TO,TN,TE⟩,hTR⟩:∃x,rlR F.L F.re F.lo S=x:=⟨_,rfl⟩
 rw [hTR] at HR ⊢
 simp only
 have GIV:=Lib.hid (fun (O:List Og) (n:Nat) (er:Int) (hq:(O,n,er)=(TO,TN,TE)) (e:Ending) (wx:World) (h:OpsErr w O n er e wx)=>(show OpsErr w TO TN TE e wx by injection hq with h1 h2;injection h2 with h2 h3;subst h1;subst h2;subst h3;exact h))
 have FL:=Lib.hid hFL
 clear hA ht hE hTR hFL
 go_enter Tryz.func23,Tryz.ntmps23
 go_wp2_with fail
 generalize w.alloc (.cells #[.slice F.A F.n F.c,.int .i64 F.re,.int .i64 F.lo] 24)=Y at hb0 hk0 ⊢
 refine (HBG.out Y (HA.out.below hb0)).mono ?_
 rintro e Y2 ⟨rfl,hb2⟩
 have hf2:=hk0.below hb2 hk0.lt
 have hb3:=zAa hb0 hb2 hb0.size
 clear hk0 hb0 hb2 HBG
 by_cases h0:E=0
 ·subst h0
  have hS:=(zBY HE.out).1
  have HR2:=Lib.hid (HR.out.trans (if_pos rfl))
  clear hcs HR
  go_wp2_with fail
  go_loopw [1,8,9] (fun v1 v8 v9 wv=>∃(X:World) (R:List UInt8) (A':Option Addr) (i c':Nat) (Es:List Oe),X=wv∧v1=.string (bA R)∧v8=.slice A' i c'∧v9=.int .i64 i∧R.length+i≤8000∧OpsOwn X Y2.heap.size A' i c' Es∧Below Y2.heap.size Y2 X∧Hid (Es.length=i∧(TO,TN,TE)=zBO F.L (splt 10 R) (List.map (fun x:Oe=>x.o) Es))) (fun v1 _ _ _=>strN v1)
  case atStart=>exact ⟨_,S,none,0,0,[],rfl,rfl,rfl,rfl,by omega,OpsOwn.none_ _ _,Below.refl _ _,Lib.hid ⟨rfl,HR2.out⟩⟩
  case round =>
   obtain ⟨X,R,A',i,c',Es,hX,rfl,rfl,rfl,hle,hO,hb,HI⟩:=hrel
   subst hX
   have hbw:=zAa hb3 hb hb3.size
   have hz:w.heap.size≤Y2.heap.size:=hb3.size
   by_cases hR:R=[]
   ·have n0:((bA R).toList==[])=true:=by rw [zAt,hR];rfl
    have n1:(bA R).toList.isEmpty=true:=by rw [zAt,hR];rfl
    have HF:=Lib.hid (GIV.out (List.map (fun x:Oe=>x.o) Es) i 0 (by rw [HI.out.2,hR,lines_end,List.length_map,HI.out.1]) _ X ⟨A',i,c',Es,rfl,rfl,by omega,hO.mono hz,hbw⟩)
    clear hR hO hb hbw HI hf2
    go_wp2_with fail
    go_ret3
    exact HF.out
   have n0:((bA R).toList==[])=false:=by rw [zAt];simpa using hR
   have n1:(bA R).toList.isEmpty=false:=by rw [zAt];simpa using hR
   have HCU:=cut_line R (by omega) X (HT.out.below hbw)
   by_cases h10:(10:UInt8)∈R
   ·obtain ⟨h,r,hRe,hh⟩:=first_of h10
    rw [show Lib.cut R [10]=(h,r,true) from by rw [hRe];exact cut_at hh] at HCU
    have HCU:=Lib.hid HCU
    have hlr:r.length+(i+1)≤8000:=by rw [hRe] at hle;simp at hle;omega
    have hlh:h.length≤20000:=by rw [hRe] at hle;simp at hle;omega
    have hms:strN (.string (bA r)) < strN (.string (bA R)):=by simp only [strN,zAO,hRe];simp;omega
    have HL:=Lib.hid (show (TO,TN,TE)=if parE F.L h=0 then zBO F.L (splt 10 r) (List.map (fun x:Oe=>x.o) Es++[parO F.L h]) else ([],i,parE F.L h) by rw [HI.out.2,hRe,lines_more F.L hh,List.length_map,HI.out.1])
    have HLE:=Lib.hid HI.out.1
    have HMS:=Lib.hid hms
    clear hR h10 hRe hh HI hms
    go_wp2_with fail
    refine HCU.out.mono ?_
    rintro e X2 ⟨rfl,hb4⟩
    have hb5:=zAa hbw hb4 hbw.size
    have hb5y:=zAa hb hb4 hb.size
    have hO2:=hO.below hb4
    have hfx:=(hf2.below hb hf2.lt).below hb4 (hf2.below hb hf2.lt).lt
    have HPA:=zGV F h X2 (HA.out.below hb5) hlh (HT.out.below hb5)
    have hPO:=parO_ok FL.out h
    have hcE:=parE_cases F.L h
    obtain ⟨ov,eov⟩:∃x,parO F.L h=x:=⟨_,rfl⟩
    obtain ⟨er,eer⟩:∃x,parE F.L h=x:=⟨_,rfl⟩
    rw [eov,eer] at HPA HL
    rw [eov] at hPO
    rw [eer] at hcE
    have HPA:=Lib.hid HPA
    have HPO:=Lib.hid hPO
    have HPN:Hid (ov.path.length≤1000000):=Lib.hid (by rw [←eov];have:=parO_len F.L h;omega)
    obtain ⟨kk,ff,⟨gf,gl,gfar,gpc⟩,path,vov⟩:=ov
    have w0:X2.cell? ⟨w.heap.size,0,none⟩=some (.slice F.A F.n F.c):=(hfx.cell 0).trans rfl
    have w1:X2.cell? ⟨w.heap.size,1,none⟩=some (.int .i64 F.re):=(hfx.cell 1).trans rfl
    have w2:X2.cell? ⟨w.heap.size,2,none⟩=some (.int .i64 F.lo):=(hfx.cell 2).trans rfl
    clear hO hb hbw hb4 HCU eov eer hPO hfx hlh
    go_wp2_with fail
    refine HPA.out.mono ?_
    rintro e X3 ⟨B2,m2,d2,rfl,hrow,hm2,hb6⟩
    have HM2:=Lib.hid hm2
    have hb7:=zAa hb5 hb6 hb5.size
    have hb7y:=zAa hb5y hb6 hb5y.size
    have hO3:=hO2.below hb6
    have hbl:=(Below.refl X3.heap.size X3).alloc (Nat.le_refl _) (.cells #[.int .i64 kk,.int .i64 ff,.int .i64 gf,.int .i64 gl,.bool gfar,.int .i64 gpc,.slice B2 m2 d2,.bool vov] 32)
    have hop:Blk (X3.alloc (.cells #[.int .i64 kk,.int .i64 ff,.int .i64 gf,.int .i64 gl,.bool gfar,.int .i64 gpc,.slice B2 m2 d2,.bool vov] 32)) X3.heap.size 32 #[.int .i64 kk,.int .i64 ff,.int .i64 gf,.int .i64 gl,.bool gfar,.int .i64 gpc,.slice B2 m2 d2,.bool vov]:=Blk.new _ _ _
    have hO4:=hO3.below hbl
    have hrw:=hrow.below hbl
    have hb8:=zAa hb7 hbl hb7.size
    have hb8y:=zAa hb7y hbl hb7y.size
    have HPB:=Lib.hid (fun k (hk:blk B2=some k)=>(show k < (X3.alloc (.cells #[.int .i64 kk,.int .i64 ff,.int .i64 gf,.int .i64 gl,.bool gfar,.int .i64 gpc,.slice B2 m2 d2,.bool vov] 32)).heap.size∧blk A'≠some k by
     have h1:=hrow.lt k hk
     refine ⟨by simp;omega,fun e2=>?_⟩
     have h2:=(hO2.row.lt k e2).2
     omega))
    have HSZ:=Lib.hid (show Y2.heap.size≤(X3.alloc (.cells #[.int .i64 kk,.int .i64 ff,.int .i64 gf,.int .i64 gl,.bool gfar,.int .i64 gpc,.slice B2 m2 d2,.bool vov] 32)).heap.size from hb8y.size)
    clear hm2 hO2 hb5 hb5y hb6 hb7 hb7y hO3 hbl hrow w0 w1 w2 HPA
    go_upto_region 12 with fail
    generalize X3.alloc (.cells #[.int .i64 kk,.int .i64 ff,.int .i64 gf,.int .i64 gl,.bool gfar,.int .i64 gpc,.slice B2 m2 d2,.bool vov] 32)=X4 at hop hO4 hrw hb8 hb8y HPB HSZ ⊢
    generalize X3.heap.size=a13 at hop ⊢
    by_cases her:er=0
    ·subst her
     have HL2:=Lib.hid (HL.out.trans (if_pos rfl))
     clear hcE HL n0 n1
     have f0:X4.cell? ⟨a13,0,none⟩=some (.int .i64 kk):=(hop.cell 0).trans rfl
     have f1:X4.cell? ⟨a13,1,none⟩=some (.int .i64 ff):=(hop.cell 1).trans rfl
     have f2:X4.cell? ⟨a13,2,none⟩=some (.int .i64 gf):=(hop.cell 2).trans rfl
     have f3:X4.cell? ⟨a13,3,none⟩=some (.int .i64 gl):=(hop.cell 3).trans rfl
     have f4:X4.cell? ⟨a13,4,none⟩=some (.bool gfar):=(hop.cell 4).trans rfl
     have f5:X4.cell? ⟨a13,5,none⟩=some (.int .i64 gpc):=(hop.cell 5).trans rfl
     have f6:X4.cell? ⟨a13,6,none⟩=some (.slice B2 m2 d2):=(hop.cell 6).trans rfl
     have f7:X4.cell? ⟨a13,7,none⟩=some (.bool vov):=(hop.cell 7).trans rfl
     go_upto_region 15 with (at_builtin;refine zGT ?_)
     refine Lib.hid ?_
     refine pushO (y:=⟨⟨kk,ff,⟨gf,gl,gfar,gpc⟩,path,vov⟩,B2,m2,d2⟩) (N:=i+1) (base:=Y2.heap.size) (A:=A') (n:=i) (c:=c') (Es:=Es) rfl (.tmp 44) (.tmp 46) ?_ ?_ ?_ ?_ ?_ ?_ ?_ ?_
     ·rfl
     ·exact hO4.row
     ·rfl
     ·rfl
     ·rfl
     ·omega
     ·exact HSZ.out
     intro A2 c2 w9 hR9 hg9 hl9
     have hb9:=hO4.row.belowOf hg9 HSZ.out
     have hm2k:m2≤1000000:=by rw [HM2.out];exact HPN.out
     have hO9:=hO4.push ⟨⟨kk,ff,⟨gf,gl,gfar,gpc⟩,path,vov⟩,B2,m2,d2⟩ ⟨HPO.out.1,stps_of hrw hm2k HPO.out.2,hrw.cap,HPB.out⟩ hR9 hg9 hl9
     have hbz:=hb8y.trans hb9
     have HF:=Lib.hid (show (Es++[(⟨⟨kk,ff,⟨gf,gl,gfar,gpc⟩,path,vov⟩,B2,m2,d2⟩:Oe)]).length=i+1∧(TO,TN,TE)=zBO F.L (splt 10 r) (List.map (fun x:Oe=>x.o) (Es++[(⟨⟨kk,ff,⟨gf,gl,gfar,gpc⟩,path,vov⟩,B2,m2,d2⟩:Oe)])) from ⟨by simp [HLE.out],by rw [HL2.out,List.map_append];rfl⟩)
     clear hop hO4 hrw hb8 hb8y hg9 hl9 hR9 hb9 f0 f1 f2 f3 f4 f5 f6 f7 HPB HSZ
     go_wp2_with fail
     go_roundw
     case rel=>exact ⟨_,r,A2,i+1,c2,_,rfl,rfl,rfl,by go_num,hlr,hO9,hbz,HF⟩
     case measure=>exact HMS.out
    ·have k0:(er != 0)=true:=by simpa using her
     have HF:=Lib.hid (GIV.out [] i er (by rw [HL.out,if_neg her]) _ X4 ⟨none,0,0,[],rfl,rfl,by omega,OpsOwn.none_ _ _,hb8⟩)
     clear hop hO4 hrw hb8 hb8y hcE her
     go_wp2_with fail
     go_ret3
     exact HF.out
   ·rw [cut_no h10] at HCU
    have HCU:=Lib.hid HCU
    have HL:=Lib.hid (show ([],i,(6:Int))=(TO,TN,TE) by rw [HI.out.2,lines_open F.L h10 hR,List.length_map,HI.out.1])
    clear hR h10 HI hO hb hf2
    go_wp2_with fail
    refine HCU.out.mono ?_
    rintro e X2 ⟨rfl,hb4⟩
    have HF:=Lib.hid (GIV.out [] i 6 HL.out _ X2 ⟨none,0,0,[],rfl,rfl,by omega,OpsOwn.none_ _ _,zAa hbw hb4 hbw.size⟩)
    clear hb4 hbw
    go_wp2_with fail
    go_ret3
    exact HF.out
 ·have HF:=Lib.hid (GIV.out [] 0 E (by rw [HR.out,if_neg h0]) _ Y2 ⟨none,0,0,[],rfl,rfl,by omega,OpsOwn.none_ _ _,hb3⟩)
  have k0:(E != 0)=true:=by simpa using h0
  clear hcs h0 hb3 hf2
  go_wp2_with fail
  go_ret3
  exact HF.out
end Go.Proofs.YtlmdfmnbcndhoaaGreatDoor
namespace Go.Proofs.YtlmdfmnbcndhoaaGreatDoor
open Go.RowKit
/-- Items, all of them or none. -/
noncomputable def zDa:List (List UInt8)→Option (List Nop)
 | []=>some []
 | S :: T=>match zAB S,zDa T with
  | some n,some ns=>some (n :: ns)
  | _,_=>none
theorem zFF:∀(T:List (List UInt8)) (S:List UInt8),zDa (T++[S])=match zDa T,zAB S with
  | some ns,some n=>some (ns++[n])
  | _,_=>none
 | [],S=>by
  cases h:zAB S<;>simp [zDa,h]
 | X :: T,S=>by
  rw [List.cons_append,zDa,zFF T S,zDa]
  cases zAB X<;>cases zDa T<;>cases zAB S<;>rfl
noncomputable def itE (L:List Fg) (S:List UInt8):Int:=if S=[] then 0 else match zDa (splt 32 S) with | none=>6 | some ns=>if ns.any (zAA L) then 8 else 0
noncomputable def itO (L:List Fg) (S:List UInt8):List Og:=if S=[] then [] else match zDa (splt 32 S) with | none=>[] | some ns=>if ns.any (zAA L) then [] else ns.map (oOf L)
theorem item_len {n:Nop} (h:okN n):n.path.length≤(zGQ n).length:=by
 by_cases hp:n.path=[]
 ·simp [hp]
 ·have hk:n.kind=3∧∃x,n.fr=some x:=by
   rcases h.2 with ⟨_,_,h,_⟩ | ⟨_,_,h⟩ | ⟨h,⟨x,hx,_⟩,_⟩ | ⟨_,_,h⟩ | ⟨_,_,h⟩
   ·exact absurd h hp
   ·exact absurd h hp
   ·exact ⟨h,x,hx⟩
   ·exact absurd h hp
   ·exact absurd h hp
  obtain ⟨hk,x,hx⟩:=hk
  have:=map_len (P:=n.path) x
  unfold zGQ itlN frI
  rw [if_neg (by omega),if_pos hk,hx]
  unfold ipaN at this
  simp only [List.length_append] at this ⊢
  omega
/-- What reading items gives. -/
def zFG (w0:World) (O:List Og) (er:Int) (e:Ending) (w':World):Prop :=
 ∃B m d Es,e=.returned (.tuple #[.slice B m d,.int .i64 er])∧List.map (fun x:Oe=>x.o) Es=O∧m≤1000000∧OpsOwn w' w0.heap.size B m d Es∧Below w0.heap.size w0 w'
theorem OpsOwn.overR {w w':World} {base rb:Nat} {A:Option Addr} {n c:Nat} {Es:List Oe} (h:OpsOwn w base A n c Es) (hg:w.grownBy w' (some rb)) (hb:rb < base) (hr:∀e∈Es,∀k,blk e.A=some k→rb < k):OpsOwn w' base A n c Es :=
 ⟨h.row.overO hg hb,fun e he=>by
  obtain ⟨h1,h2,h3,h4⟩:=h.ok e he
  exact ⟨h1,h2.kept hg (fun k hk e2=>by injection e2 with e2;have:=hr e he k hk;omega),h3,fun k hk=>⟨Nat.lt_of_lt_of_le (h4 k hk).1 hg.size,(h4 k hk).2⟩⟩⟩
theorem build_rd1 (A:Option Addr) (n c:Nat) (re lo:Int) (w:World):(Instr.build 123 #[(0,.agg #[.slice A n c,.int .i64 re,.int .i64 lo])]).run Tryz.prog w=.ok (.agg (rdC A n c re lo none 0 0 false false)) w:=run_build w _ _ _ (by kernel_rfl)
/-- How far the items are read. -/
def ItsR (L:List Fg) (ws:List (List UInt8)) (i:Nat) (bad lost:Bool) (Es:List Oe):Prop :=
 Es.length=i∧((bad=false∧∃ns,zDa (ws.take i)=some ns∧lost=ns.any (zAA L)∧List.map (fun x:Oe=>x.o) Es=ns.map (oOf L))∨(bad=true∧zDa (ws.take i)=none))
theorem itsR_some {L:List Fg} {ws:List (List UInt8)} {i:Nat} {bad lost:Bool} {Es:List Oe} (h:ItsR L ws i bad lost Es) {S:List UInt8} (hS:ws[i]? = some S) {n:Nop} (hn:zAB S=some n) (e:Oe) (he:e.o=oOf L n):ItsR L ws (i+1) bad (lost||zAA L n) (Es++[e]):=by
 obtain ⟨h1,h2⟩:=h
 refine ⟨by simp [h1],?_⟩
 rw [List.take_add_one,hS]
 simp only [Option.toList_some]
 rw [zFF,hn]
 rcases h2 with ⟨rfl,ns,h3,h4,h5⟩ | ⟨rfl,h3⟩
 ·refine .inl ⟨rfl,ns++[n],by rw [h3],by rw [h4];simp,by rw [List.map_append,h5];simp [he]⟩
 ·exact .inr ⟨rfl,by rw [h3]⟩
theorem itsR_none {L:List Fg} {ws:List (List UInt8)} {i:Nat} {bad lost:Bool} {Es:List Oe} (h:ItsR L ws i bad lost Es) {S:List UInt8} (hS:ws[i]? = some S) (hn:zAB S=none) (e:Oe) (l:Bool):ItsR L ws (i+1) true l (Es++[e]):=by
 obtain ⟨h1,h2⟩:=h
 refine ⟨by simp [h1],.inr ⟨rfl,?_⟩⟩
 rw [List.take_add_one,hS]
 simp only [Option.toList_some]
 rw [zFF,hn]
 cases zDa (ws.take i)<;>rfl
theorem itsR_end {L:List Fg} {S:List UInt8} {i:Nat} {bad lost:Bool} {Es:List Oe} (h:ItsR L (splt 32 S) i bad lost Es) (hi:i=(splt 32 S).length) (h0:S≠[]) :
  itE L S=(if bad then 6 else if lost then 8 else 0)∧(itE L S=0→List.map (fun x:Oe=>x.o) Es=itO L S)∧(itE L S≠0→itO L S=[]):=by
 obtain ⟨_,h2⟩:=h
 rw [hi,List.take_length] at h2
 unfold itE itO
 rw [if_neg h0,if_neg h0]
 rcases h2 with ⟨rfl,ns,h3,h4,h5⟩ | ⟨rfl,h3⟩
 ·simp only [h3,←h4]
  cases lost with
  | true=>simp
  | false=>simpa using h5
 ·simp only [h3]
  simp
set_option maxHeartbeats 12800000 in
set_option maxRecDepth 100000 in
theorem zGY (F:Fm) (S:List UInt8) (w:World) (hA:Fgs w F.A F.n F.L) (hS:S.length≤20000) (ht:Tabs w) :
  Calls Tryz.prog 72 #[frV F.A F.n F.c F.re F.lo,.string (bA S)] w (zFG w (itO F.L S) (itE F.L S)):=by
 have hFL:F.L.length≤17592186043904:=by rw [hA.len];exact hA.le
 have hb0:Below w.heap.size w (w.alloc (.cells #[.slice F.A F.n F.c,.int .i64 F.re,.int .i64 F.lo] 24)):=(Below.refl _ _).alloc (Nat.le_refl _) _
 have hk0:Blk (w.alloc (.cells #[.slice F.A F.n F.c,.int .i64 F.re,.int .i64 F.lo] 24)) w.heap.size 24 #[.slice F.A F.n F.c,.int .i64 F.re,.int .i64 F.lo]:=Blk.new _ _ _
 have n0:=zAG S []
 by_cases h0:S=[]
 ·have n1:(S==([]:List UInt8))=true:=by rw [h0];rfl
  rw [n1] at n0
  have HF:=Lib.hid (show zFG w (itO F.L S) (itE F.L S) (.returned (.tuple #[.slice none 0 0,.int .i64 0])) (w.alloc (.cells #[.slice F.A F.n F.c,.int .i64 F.re,.int .i64 F.lo] 24)) by
   have h1:itE F.L S=0∧itO F.L S=[]:=by unfold itE itO;rw [if_pos h0,if_pos h0];exact ⟨rfl,rfl⟩
   rw [h1.1,h1.2]
   exact ⟨none,0,0,[],rfl,rfl,by omega,OpsOwn.none_ _ _,hb0⟩)
  clear h0 n1 hb0 hk0 hA ht hFL hS
  go_enter Tryz.func72,Tryz.ntmps72
  go_wp2_with fail
  go_ret2
  exact HF.out
 have n1:(S==([]:List UInt8))=false:=by simpa using h0
 rw [n1] at n0
 obtain ⟨ws,hws⟩:∃W,splt 32 S=W:=⟨_,rfl⟩
 obtain ⟨n,hn⟩:∃n,ws.length=n:=⟨_,rfl⟩
 have hnl:n≤20001:=by rw [←hn,←hws];have:=zCn S;omega
 have hpl:∀p∈ws,p.length≤100000:=fun p hp=>by rw [←hws] at hp;have:=zCm 32 S p hp;omega
 have HPL:=Lib.hid hpl
 have HN:=Lib.hid hn
 have HW:=Lib.hid hws
 have H0:=Lib.hid h0
 have FL:=Lib.hid hFL
 have HSP:=Lib.hid (fun wx (hx:Tabs wx)=>zGU S (by omega) wx hx)
 rw [hws,hn] at HSP
 have hf0:=(hk0.cell 0).trans rfl
 have v0:(w.alloc (.cells #[.slice F.A F.n F.c,.int .i64 F.re,.int .i64 F.lo] 24)).cell? ⟨w.heap.size,0,none⟩=some (.slice F.A F.n F.c):=(hk0.cell 0).trans rfl
 have v1:(w.alloc (.cells #[.slice F.A F.n F.c,.int .i64 F.re,.int .i64 F.lo] 24)).cell? ⟨w.heap.size,1,none⟩=some (.int .i64 F.re):=(hk0.cell 1).trans rfl
 have v2:(w.alloc (.cells #[.slice F.A F.n F.c,.int .i64 F.re,.int .i64 F.lo] 24)).cell? ⟨w.heap.size,2,none⟩=some (.int .i64 F.lo):=(hk0.cell 2).trans rfl
 have brd:=build_rd1
 have HA:=Lib.hid hA
 have HT:=Lib.hid ht
 clear h0 n1 hws hn hpl hFL hS hA ht hf0 hk0
 go_enter Tryz.func72,Tryz.ntmps72
 go_upto_region 3 with fail
 generalize w.alloc (.cells #[.slice F.A F.n F.c,.int .i64 F.re,.int .i64 F.lo] 24)=Y at hb0 v0 v1 v2 ⊢
 have hbl:=(Below.refl Y.heap.size Y).alloc (Nat.le_refl _) (.cells (rdC F.A F.n F.c F.re F.lo none 0 0 false false) 123)
 have hb1:=zAa hb0 hbl hb0.size
 have hrx:RX (Y.alloc (.cells (rdC F.A F.n F.c F.re F.lo none 0 0 false false) 123)) Y.heap.size F ⟨[],false,false⟩ :=
  ⟨⟨none,0,0,Blk.new _ _ _,Els.nil _ _,Nat.le_refl _,fun k hk=>by cases hk⟩,HA.out.below hb1,fun h0 k hk=>by
   obtain ⟨g,o,e,hg,_⟩:=HA.out.1.2.2 h0
   rw [e] at hk
   injection hk with hk
   have hk':g=k:=hk
   have h1:=hb0.size
   omega⟩
 have hge:w.heap.size≤Y.heap.size:=hb0.size
 clear hbl
 go_upto_region 5 with fail
 clear v0 v1 v2 hb0
 have HSP2:=Lib.hid (HSP.out (Y.alloc (.cells (rdC F.A F.n F.c F.re F.lo none 0 0 false false) 123)) (HT.out.below hb1))
 generalize Y.alloc (.cells (rdC F.A F.n F.c F.re F.lo none 0 0 false false) 123)=Z at hb1 hrx HSP2 ⊢
 generalize Y.heap.size=rb at hrx hge ⊢
 go_wp2_with fail
 refine HSP2.out.mono ?_
 rintro e X ⟨rfl,hX⟩
 have hbX:Below Z.heap.size Z X:=by rw [hX];exact (Below.refl _ _).alloc (Nat.le_refl _) _
 have hcX:∀(j:Nat) (p:List UInt8),ws[j]? = some p→X.cell? ⟨Z.heap.size,j,none⟩=some (.string (bA p)):=fun j p hp=>by
  rw [hX,World.cell?_alloc_at _ _ _ _ rfl]
  simp [hp]
 have hlX:Z.heap.size < X.heap.size:=by rw [hX];simp
 have HCX:=Lib.hid hcX
 have hrX:=hrx.below hbX
 have hbw:=zAa hb1 hbX hb1.size
 have hrlt:rb < X.heap.size:=hrX.lt
 have hzz:rb < Z.heap.size:=hrx.lt
 clear hX hcX HSP HSP2 hrx hb1 hbX
 go_wp2_with fail
 go_loopw [7,18] (fun v7 v18 wv=>∃(i:Nat) (V:World) (A':Option Addr) (c':Nat) (Es:List Oe) (bad lost:Bool),V=wv∧i≤n∧v18=.int .i64 i∧v7=.slice A' i c'∧RX V rb F ⟨[],bad,lost⟩∧OpsOwn V X.heap.size A' i c' Es∧X.grownBy V (some rb)∧Hid (∀e∈Es,∀k,blk e.A=some k→rb < k)∧Hid (ItsR F.L ws i bad lost Es)) (fun _ v18 _=>n-(intOf v18).toNat)
 case atStart=>exact ⟨0,_,none,0,[],false,false,rfl,by omega,rfl,rfl,hrX,OpsOwn.none_ _ _,zBn _ _,Lib.hid (by simp),Lib.hid ⟨rfl,.inl ⟨rfl,[],rfl,rfl,rfl⟩⟩⟩
 case round =>
  clear hrX
  obtain ⟨i,V,A',c',Es,bad,lost,hV,hi,rfl,rfl,hr,hO,hg,HK,HI⟩:=hrel
  subst hV
  by_cases hlt:i < n
  ·have j0:(0:Int)≤(i:Int):=by omega
   have j1:(i:Int) < (n:Int):=by omega
   obtain ⟨p,hp⟩:∃p,ws[i]? = some p:=⟨ws[i]'(by rw [HN.out];exact hlt),List.getElem?_eq_getElem _⟩
   have hc:V.cell? ⟨Z.heap.size,i,none⟩=some (.string (bA p)):=by
    rw [World.cell?_of_block (w:=X) (w':=V) (a:=⟨Z.heap.size,i,none⟩) (hg.block _ hlX (fun e=>by injection e with e;simp only at e;omega))]
    exact HCX.out i p hp
   have HSC:=Lib.hid (reader_scan rb F ⟨[],bad,lost⟩ p V hr (HPL.out p (List.mem_of_getElem? hp)))
   have HP:=Lib.hid hp
   have hgX:=hg.size
   have hrV:=hr.lt
   clear hp hr
   go_upto_region 8 with fail
   clear hc
   go_wp2_with fail
   refine HSC.out.mono ?_
   intro e V2 hsc
   have key:∃(o:Og) (B:Option Addr) (m d:Nat) (bad2 lost2:Bool),e=.returned (opV o B m d)∧V.grownBy V2 (some rb)∧RX V2 rb F ⟨[],bad2,lost2⟩∧Hid ((OgOk o∧Stps V2 B m o.path∧m≤d∧∀k,blk B=some k→k < V2.heap.size∧V.heap.size≤k)∧ItsR F.L ws (i+1) bad2 lost2 (Es++[(⟨o,B,m,d⟩:Oe)])):=by
    rcases hsc with ⟨nn,h1,B,m,d,h2,h3,h4,h5,h6⟩ | ⟨h1,h2,⟨l,h3⟩,h4⟩
    ·have hok:=oOf_ok FL.out (zFz h1).1
     have hpn:m≤1000000:=by
      have h7:=zFz h1
      have h8:=HPL.out p (List.mem_of_getElem? HP.out)
      rw [h7.2.2] at h8
      rw [h4]
      show (nn.path.map (pOf F.L)).length≤_
      rw [List.length_map]
      have h9:=item_len h7.1
      omega
     exact ⟨_,B,m,d,bad,_,h2,h6,h5,Lib.hid ⟨⟨hok.1,stps_of h3 hpn hok.2,h3.cap,fun k hk=>⟨(h3.lt k hk).2,(h3.lt k hk).1⟩⟩,itsR_some HI.out HP.out h1 _ rfl⟩⟩
    ·exact ⟨zop,none,0,0,true,l,h2,h4,h3,Lib.hid ⟨⟨o0_ok.1,Stps.nil _ _,Nat.le_refl _,fun k hk=>by cases hk⟩,itsR_none HI.out HP.out h1 _ l⟩⟩
   obtain ⟨o,B,m,d,bad2,lost2,rfl,hg2,hr2,HE⟩:=key
   have hO2:=hO.overR hg2 (by omega) HK.out
   have hO2L:=hO.row.lt
   have HAL:=Lib.hid (fun k (hk:blk A'=some k)=>(hO2L k hk).2)
   have hgg:=zAb hg hg2
   have hsz:X.heap.size≤V2.heap.size:=hgg.size
   obtain ⟨kk,ff,⟨gf,gl,gfar,gpc⟩,path,vov⟩:=o
   clear hsc hO hg2 hg HSC hO2L
   go_upto_region 9 with (at_builtin;refine zGT ?_)
   refine Lib.hid ?_
   refine pushO (y:=⟨⟨kk,ff,⟨gf,gl,gfar,gpc⟩,path,vov⟩,B,m,d⟩) (N:=i+1) (base:=X.heap.size) (A:=A') (n:=i) (c:=c') (Es:=Es) rfl (.tmp 22) (.tmp 26) ?_ ?_ ?_ ?_ ?_ ?_ ?_ ?_
   ·rfl
   ·exact hO2.row
   ·rfl
   ·rfl
   ·rfl
   ·omega
   ·exact hsz
   intro A2 c2 w9 hR9 hg9 hl9
   have hb9:=hO2.row.belowOf hg9 hsz
   have hO9:=hO2.push ⟨⟨kk,ff,⟨gf,gl,gfar,gpc⟩,path,vov⟩,B,m,d⟩ ⟨HE.out.1.1,HE.out.1.2.1,HE.out.1.2.2.1,fun k hk=>⟨(HE.out.1.2.2.2 k hk).1,fun e2=>by have h1:=HAL.out k e2;have h2:=(HE.out.1.2.2.2 k hk).2;omega⟩⟩ hR9 hg9 hl9
   have hr9:=hr2.over (hb9.mono (by omega))
   have hg10:=zAd hgg hb9
   have HK2:=Lib.hid (show ∀e∈Es++[(⟨⟨kk,ff,⟨gf,gl,gfar,gpc⟩,path,vov⟩,B,m,d⟩:Oe)],∀k,blk e.A=some k→rb < k from fun e he k hk=>by
    rcases List.mem_append.1 he with h1 | h1
    ·exact HK.out e h1 k hk
    ·rw [List.mem_singleton.1 h1] at hk
     have h2:=(HE.out.1.2.2.2 k hk).2
     omega)
   have HI2:=Lib.hid HE.out.2
   clear hR9 hg9 hl9 hb9 hO2 hr2 hgg hsz HE HAL HI
   go_wp2_with fail
   go_roundw
   case rel=>exact ⟨i+1,_,A2,c2,_,bad2,lost2,rfl,by omega,by go_num,rfl,hr9,hO9,hg10,HK2,HI2⟩
   case measure=>simp [intOf];omega
  ·have j1:¬(i:Int) < (n:Int):=by omega
   have hin:i=n:=by omega
   have hend:=itsR_end (L:=F.L) (S:=S) (i:=i) (bad:=bad) (lost:=lost) (Es:=Es) (by rw [HW.out];exact HI.out) (by rw [HW.out,HN.out];exact hin) H0.out
   have HEND:=Lib.hid hend
   have hbV:Below w.heap.size w V:=zAa hbw (zBL hg (show w.heap.size≤rb from hge) hbw.size) (Nat.le_refl _)
   have hzX:w.heap.size≤X.heap.size:=hbw.size
   have hil:i≤1000000:=by omega
   have HO:=Lib.hid hO
   have HBV:=Lib.hid hbV
   have c4:V.cell? ⟨rb,4,none⟩=some (.bool bad):=hr.bad4.1
   have c5:V.cell? ⟨rb,5,none⟩=some (.bool lost):=hr.lost5
   clear hend hin hlt hg hr HCX HI HK hO hbV
   cases bad with
   | true =>
    have HE:=Lib.hid (show itE F.L S=6∧itO F.L S=[] from ⟨HEND.out.1,HEND.out.2.2 (by rw [HEND.out.1];simp)⟩)
    clear c5
    go_wp2_with fail
    go_ret2
    exact (show zFG w _ _ _ _ by rw [HE.out.1,HE.out.2];exact ⟨none,0,0,[],rfl,rfl,by omega,OpsOwn.none_ _ _,HBV.out⟩)
   | false =>
    cases lost with
    | true =>
     have HE:=Lib.hid (show itE F.L S=8∧itO F.L S=[] from ⟨HEND.out.1,HEND.out.2.2 (by rw [HEND.out.1];simp)⟩)
     go_wp2_with fail
     go_ret2
     exact (show zFG w _ _ _ _ by rw [HE.out.1,HE.out.2];exact ⟨none,0,0,[],rfl,rfl,by omega,OpsOwn.none_ _ _,HBV.out⟩)
    | false =>
     have HE:=Lib.hid (show itE F.L S=0∧List.map (fun x:Oe=>x.o) Es=itO F.L S from ⟨HEND.out.1,HEND.out.2.1 HEND.out.1⟩)
     go_wp2_with fail
     go_ret2
     exact (show zFG w _ _ _ _ by rw [HE.out.1];exact ⟨A',i,c',Es,rfl,HE.out.2,hil,HO.out.mono hzX,HBV.out⟩)
end Go.Proofs.YtlmdfmnbcndhoaaGreatDoor
