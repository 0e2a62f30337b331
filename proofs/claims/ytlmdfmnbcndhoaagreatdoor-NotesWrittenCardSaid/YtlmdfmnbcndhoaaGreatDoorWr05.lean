/-
  Strings, steps and operations as plain data and in memory; which can be written. Conditions: they read.
  Contract: which operations the program can write. Conditions: frame and operation read.
-/
import Derived.Test.YtlmdfmnbcndhoaaGreatDoorWr04
namespace Go.Proofs.YtlmdfmnbcndhoaaGreatDoor
open Go.RowKit
structure Sg where
 f:Int
 l:Int
 far:Bool
 pc:Int
instance:DecidableEq Sg:=fun a b =>
 if h:a.f=b.f∧a.l=b.l∧a.far=b.far∧a.pc=b.pc then .isTrue (by cases a;cases b;simp at h;simp [h])
 else .isFalse (fun e=>h (by subst e;simp))
structure Sp where
 s:Sg
 over:Bool
instance:DecidableEq Sp:=fun a b =>
 if h:a.s=b.s∧a.over=b.over then .isTrue (by cases a;cases b;simp at h;simp [h])
 else .isFalse (fun e=>h (by subst e;simp))
structure Og where
 kind:Int
 f:Int
 fr:Sg
 path:List Sp
 over:Bool
instance:DecidableEq Og:=fun a b =>
 if h:a.kind=b.kind∧a.f=b.f∧a.fr=b.fr∧a.path=b.path∧a.over=b.over then .isTrue (by cases a;cases b;simp at h;simp [h])
 else .isFalse (fun e=>h (by subst e;simp))
def sgB (x y:Sg):Bool:=x.f==y.f&&x.l==y.l&&x.far==y.far&&x.pc==y.pc
theorem sgB_iff {x y:Sg}:sgB x y=true↔x=y:=by
 cases x;cases y
 simp [sgB,and_assoc]
def s0:Sg:=⟨0,0,false,0⟩
def zAK (k:Nat) (s:Sg):Bool:=decide (1≤s.f)&&decide (s.f≤(k:Int))&&decide (0≤s.l)&&decide (s.l≤999999999)&&decide (0≤s.pc)&&decide (s.pc≤999999999)
theorem zAz {k:Nat} {s:Sg}:zAK k s=true↔1≤s.f∧s.f≤(k:Int)∧0≤s.l∧s.l≤999999999∧0≤s.pc∧s.pc≤999999999:=by simp [zAK,and_assoc]
/-- What is asked of an operation's other fields, by its kind. -/
def zDx (k:Nat) (o:Og):Bool :=
 if o.kind=1∨o.kind=2∨o.kind=8 then !o.over&&sgB o.fr s0
 else if o.kind=4 then sgB o.fr s0
 else if o.kind=3 then !o.over&&zAK k o.fr
 else if o.kind=5 then zAK k o.fr
 else if o.kind=6∨o.kind=7 then zAK k o.fr&&sgB o.fr ⟨o.fr.f,0,false,0⟩
 else false
/-- The operation can be written, for k fingers. -/
def zAm (k:Nat) (o:Og):Bool :=
 decide (1≤o.f)&&decide (o.f≤(k:Int))&&(decide (o.kind=3)||decide (o.path=[]))&&o.path.all (fun x=>zAK k x.s)&&zDx k o
structure SgOk (s:Sg):Prop where
 f:I64 s.f
 l:I64 s.l
 pc:I64 s.pc
abbrev sgV (s:Sg):Value:=.agg #[.int .i64 s.f,.int .i64 s.l,.bool s.far,.int .i64 s.pc]
def encP (x:Sp):List Value:=[.int .i64 x.s.f,.int .i64 x.s.l,.bool x.s.far,.int .i64 x.s.pc,.bool x.over]
abbrev spV (x:Sp):Value:=.agg #[.int .i64 x.s.f,.int .i64 x.s.l,.bool x.s.far,.int .i64 x.s.pc,.bool x.over]
def dp:Sp:=⟨s0,false⟩
def pa (L:List Sp) (i:Nat):Sp:=(L[i]?).getD dp
theorem zEk {L:List Sp} {i:Nat} (h:i < L.length):L[i]? = some (pa L i):=by unfold pa;rw [List.getElem?_eq_getElem h];rfl
structure SpAt (w:World) (g o:Nat) (x:Sp):Prop where
 f:w.cell? ⟨g,o,none⟩=some (.int .i64 x.s.f)
 l:w.cell? ⟨g,o+1,none⟩=some (.int .i64 x.s.l)
 far:w.cell? ⟨g,o+2,none⟩=some (.bool x.s.far)
 pc:w.cell? ⟨g,o+3,none⟩=some (.int .i64 x.s.pc)
 over:w.cell? ⟨g,o+4,none⟩=some (.bool x.over)
/-- The slice reads as a path. -/
def Stps (w:World) (A:Option Addr) (n:Nat) (L:List Sp):Prop:=Els 5 encP w A n L∧∀x∈L,SgOk x.s
section
variable {w w':World} {A:Option Addr} {n:Nat} {L:List Sp}
theorem Stps.len (h:Stps w A n L):L.length=n:=h.1.1
theorem Stps.le (h:Stps w A n L):n≤17592186043904:=h.1.2.1
theorem Stps.nil (w:World) (A:Option Addr):Stps w A 0 []:=⟨Els.nil _ _,by simp⟩
theorem Stps.below (h:Stps w A n L) (hb:Below w.heap.size w w'):Stps w' A n L:=⟨h.1.below hb,h.2⟩
theorem Stps.at_ {k:Nat} (h:Stps w A n L) (hk:k < n):∃g o,A=some ⟨g,o,none⟩∧g < w.heap.size∧SpAt w g (o+k*5) (pa L k)∧SgOk (pa L k).s:=by
 obtain ⟨g,o,e,hb,hc⟩:=h.1.2.2 (by omega)
 have hx:L[k]? = some (pa L k):=zEk (by rw [h.len];exact hk)
 exact ⟨g,o,e,hb,⟨hc k _ hx 0 _ rfl,hc k _ hx 1 _ rfl,hc k _ hx 2 _ rfl,hc k _ hx 3 _ rfl,hc k _ hx 4 _ rfl⟩,h.2 _ (List.mem_of_getElem? hx)⟩
end
structure OgOk (o:Og):Prop where
 kind:I64 o.kind
 f:I64 o.f
 fr:SgOk o.fr
/-- An operation as a value: its path lies in a slice. -/
abbrev opV (o:Og) (A:Option Addr) (n c:Nat):Value:=.agg #[.int .i64 o.kind,.int .i64 o.f,.int .i64 o.fr.f,.int .i64 o.fr.l,.bool o.fr.far,.int .i64 o.fr.pc,.slice A n c,.bool o.over]
structure OpIn (w:World) (o:Og) (A:Option Addr) (n c:Nat):Prop where
 ok:OgOk o
 path:Stps w A n o.path
 cap:n≤c
theorem OpIn.below {w w':World} {o:Og} {A:Option Addr} {n c:Nat} (h:OpIn w o A n c) (hb:Below w.heap.size w w'):OpIn w' o A n c:=⟨h.ok,h.path.below hb,h.cap⟩
/-- An operation of a list, and where its path lies. -/
structure Oe where
 o:Og
 A:Option Addr
 n:Nat
 c:Nat
def encO (e:Oe):List Value:=[.int .i64 e.o.kind,.int .i64 e.o.f,.int .i64 e.o.fr.f,.int .i64 e.o.fr.l,.bool e.o.fr.far,.int .i64 e.o.fr.pc,.slice e.A e.n e.c,.bool e.o.over]
def do_:Oe:=⟨⟨0,0,s0,[],false⟩,none,0,0⟩
def oa (L:List Oe) (i:Nat):Oe:=(L[i]?).getD do_
theorem zCL {L:List Oe} {i:Nat} (h:i < L.length):L[i]? = some (oa L i):=by unfold oa;rw [List.getElem?_eq_getElem h];rfl
structure OpAt (w:World) (g p:Nat) (e:Oe):Prop where
 kind:w.cell? ⟨g,p,none⟩=some (.int .i64 e.o.kind)
 f:w.cell? ⟨g,p+1,none⟩=some (.int .i64 e.o.f)
 ff:w.cell? ⟨g,p+2,none⟩=some (.int .i64 e.o.fr.f)
 fl:w.cell? ⟨g,p+3,none⟩=some (.int .i64 e.o.fr.l)
 far:w.cell? ⟨g,p+4,none⟩=some (.bool e.o.fr.far)
 pc:w.cell? ⟨g,p+5,none⟩=some (.int .i64 e.o.fr.pc)
 path:w.cell? ⟨g,p+6,none⟩=some (.slice e.A e.n e.c)
 over:w.cell? ⟨g,p+7,none⟩=some (.bool e.o.over)
/-- The slice reads as a list of operations. -/
def Oprs (w:World) (A:Option Addr) (n:Nat) (L:List Oe):Prop:=Els 8 encO w A n L∧∀e∈L,OpIn w e.o e.A e.n e.c
section
variable {w w':World} {A:Option Addr} {n:Nat} {L:List Oe}
theorem Oprs.len (h:Oprs w A n L):L.length=n:=h.1.1
theorem Oprs.le (h:Oprs w A n L):n≤17592186043904:=h.1.2.1
theorem Oprs.below (h:Oprs w A n L) (hb:Below w.heap.size w w'):Oprs w' A n L:=⟨h.1.below hb,fun e he=>(h.2 e he).below hb⟩
theorem Oprs.at_ {k:Nat} (h:Oprs w A n L) (hk:k < n):∃g o,A=some ⟨g,o,none⟩∧g < w.heap.size∧OpAt w g (o+k*8) (oa L k)∧OpIn w (oa L k).o (oa L k).A (oa L k).n (oa L k).c:=by
 obtain ⟨g,o,e,hb,hc⟩:=h.1.2.2 (by omega)
 have hx:L[k]? = some (oa L k):=zCL (by rw [h.len];exact hk)
 exact ⟨g,o,e,hb,⟨hc k _ hx 0 _ rfl,hc k _ hx 1 _ rfl,hc k _ hx 2 _ rfl,hc k _ hx 3 _ rfl,hc k _ hx 4 _ rfl,hc k _ hx 5 _ rfl,hc k _ hx 6 _ rfl,hc k _ hx 7 _ rfl⟩,h.2 _ (List.mem_of_getElem? hx)⟩
end
set_option maxRecDepth 100000 in
theorem eqSg (x y:Sg) (w:World):(Op.equalIn 10000 29 (sgV x) (sgV y)).run Tryz.prog w=.ok (sgB x y) w:=by
 have u3:=Tryz.underlying3
 have a3:=Tryz.isAgg3
 have z3:=Tryz.sizeOf3
 have u4:=Tryz.underlying4
 have a4:=Tryz.isAgg4
 have z4:=Tryz.sizeOf4
 have hS:Tryz.prog.underlying 29=some (.struct (Tryz.prog.fieldsOf 29)):=by kernel_rfl
 have hp:Tryz.prog.stoodInHeld 29=false:=by kernel_rfl
 rw [show (10000:Nat)=9999+1 from rfl,run_equalIn_agg w 9999 29 _ _ hS hp]
 simp only [Program.fieldsOf,Tryz.underlying29]
 go_simp
 unfold sgB
 by_cases h1:x.f=y.f<;>by_cases h2:x.l=y.l<;>by_cases h3:x.far=y.far<;>by_cases h4:x.pc=y.pc<;>simp [h1,h2,h3,h4]
theorem zEq (A:Option Addr) (n c:Nat) (re lo:Int) (s:Sg) (w:World) :
  Calls Tryz.prog 152 #[.agg #[.slice A n c,.int .i64 re,.int .i64 lo],sgV s] w fun e w'=>e=.returned (.bool (zAK n s))∧Below w.heap.size w w':=by
 have hb0:Below w.heap.size w ((w.alloc (.cells #[.slice A n c,.int .i64 re,.int .i64 lo] 24)).alloc (.cells #[.int .i64 s.f,.int .i64 s.l,.bool s.far,.int .i64 s.pc] 29)):=((Below.refl _ _).alloc (Nat.le_refl _) _).alloc (by simp) _
 have HB:=Lib.hid hb0
 have hr:=Lib.hid (show zAK n s=(decide (1≤s.f)&&decide (s.f≤(n:Int))&&decide (0≤s.l)&&decide (s.l≤999999999)&&decide (0≤s.pc)&&decide (s.pc≤999999999)) from rfl)
 clear hb0
 go_enter Tryz.func152,Tryz.ntmps152
 go_wp2_with fail
 all_goals
  go_ret
  refine ⟨retB ?_,HB.out⟩
  rw [hr.out]
  simp
  try omega
end Go.Proofs.YtlmdfmnbcndhoaaGreatDoor
namespace Go.Proofs.YtlmdfmnbcndhoaaGreatDoor
open Go.RowKit
abbrev frV (A:Option Addr) (n c:Nat) (re lo:Int):Value:=.agg #[.slice A n c,.int .i64 re,.int .i64 lo]
theorem named_is {k:Nat} {s:Sg} {b:Bool} (h:zAK k s=b) (A:Option Addr) (c:Nat) (re lo:Int) (w:World) :
  Calls Tryz.prog 152 #[frV A k c re lo,sgV s] w fun e w'=>e=.returned (.bool b)∧Below w.heap.size w w':=by
 subst h;exact zEq A k c re lo s w
/-- What comes before the switch. -/
def headB (k:Nat) (o:Og):Prop:=1≤o.f∧o.f≤(k:Int)∧(o.kind=3∨o.path=[])
theorem rightB_no {k:Nat} {o:Og} (h:¬headB k o):zAm k o=false:=by
 cases e:zAm k o with
 | false=>rfl
 | true =>
  unfold zAm at e
  simp only [Bool.and_eq_true,Bool.or_eq_true,decide_eq_true_eq] at e
  exact absurd ⟨e.1.1.1.1,e.1.1.1.2,e.1.1.2⟩ h
theorem rightB_path {k:Nat} {o:Og} {i:Nat} (hi:i < o.path.length) (h:zAK k (pa o.path i).s=false):zAm k o=false:=by
 cases e:zAm k o with
 | false=>rfl
 | true =>
  unfold zAm at e
  simp only [Bool.and_eq_true,List.all_eq_true] at e
  have:=e.1.2 _ (List.mem_of_getElem? (zEk hi))
  rw [h] at this;cases this
theorem zGu {k:Nat} {o:Og} (h:headB k o) (hp:∀i,i < o.path.length→zAK k (pa o.path i).s=true):zAm k o=zDx k o:=by
 have hall:o.path.all (fun x=>zAK k x.s)=true:=by
  rw [List.all_eq_true]
  intro x hx
  obtain ⟨i,hi⟩:=List.getElem?_of_mem hx
  have hlt:=(List.getElem?_eq_some_iff.1 hi).1
  have:=hp i hlt
  have he:=zEk hlt
  rw [hi] at he
  injection he with he
  rw [←he] at this
  exact this
 unfold zAm
 have h3:(decide (o.kind=3)||decide (o.path=[]))=true:=by simpa using h.2.2
 rw [hall,h3]
 simp [h.1,h.2.1]
set_option maxRecDepth 100000 in
set_option maxHeartbeats 6400000 in
theorem notes_wrong (A:Option Addr) (n c:Nat) (re lo:Int) (o:Og) (B:Option Addr) (m d:Nat) (w:World) (hO:OpIn w o B m d) :
  Calls Tryz.prog 104 #[frV A n c re lo,opV o B m d] w fun e w'=>e=.returned (.bool (!zAm n o))∧Below w.heap.size w w':=by
 have hlen:=hO.path.len
 have hle:=hO.path.le
 obtain ⟨kind,f,fr,path,over⟩:=o
 simp only at hlen hle ⊢
 have hP:Stps w B m path:=hO.path
 have hb0:Below w.heap.size w ((w.alloc (.cells #[.slice A n c,.int .i64 re,.int .i64 lo] 24)).alloc (.cells #[.int .i64 kind,.int .i64 f,.int .i64 fr.f,.int .i64 fr.l,.bool fr.far,.int .i64 fr.pc,.slice B m d,.bool over] 32)):=((Below.refl _ _).alloc (Nat.le_refl _) _).alloc (by simp) _
 by_cases hh:headB n ⟨kind,f,fr,path,over⟩
 ·have HH:=Lib.hid hh
  obtain ⟨h1,h2,h3⟩:=hh
  simp only at h1 h2 h3
  have i1:¬f < 1:=by omega
  have i2:¬(n:Int) < f:=by omega
  have hk0:=(Blk.new w 24 #[.slice A n c,.int .i64 re,.int .i64 lo]).alloc (.cells #[.int .i64 kind,.int .i64 f,.int .i64 fr.f,.int .i64 fr.l,.bool fr.far,.int .i64 fr.pc,.slice B m d,.bool over] 32)
  have hk1:Blk ((w.alloc (.cells #[.slice A n c,.int .i64 re,.int .i64 lo] 24)).alloc (.cells #[.int .i64 kind,.int .i64 f,.int .i64 fr.f,.int .i64 fr.l,.bool fr.far,.int .i64 fr.pc,.slice B m d,.bool over] 32)) (w.heap.size+1) 32 #[.int .i64 kind,.int .i64 f,.int .i64 fr.f,.int .i64 fr.l,.bool fr.far,.int .i64 fr.pc,.slice B m d,.bool over]:=heap_alloc2_new w _ _
  have HLEN:=Lib.hid hlen
  have HM:Hid (kind=3∨m=0):=Lib.hid (h3.imp id fun e=>by rw [←hlen,e];rfl)
  clear h1 h2 h3 hlen hO
  by_cases k3:kind=3
  ·subst k3
   go_enter Tryz.func104,Tryz.ntmps104
   go_wp2_with fail
   generalize (w.alloc (.cells #[.slice A n c,.int .i64 re,.int .i64 lo] 24)).alloc (.cells #[.int .i64 3,.int .i64 f,.int .i64 fr.f,.int .i64 fr.l,.bool fr.far,.int .i64 fr.pc,.slice B m d,.bool over] 32)=W at hb0 hk0 hk1 ⊢
   go_loopw [32] (fun v wr=>∃i:Nat,i≤m∧v=.int .i64 i∧Below W.heap.size W wr∧Hid (∀j:Nat,j < i→zAK n (pa path j).s=true)) (fun v _=>m-(intOf v).toNat)
   case atStart=>exact ⟨0,Nat.zero_le _,rfl,Below.refl _ _,Lib.hid (fun j hj=>by omega)⟩
   case round =>
    obtain ⟨i,hi,rfl,hbr,HS⟩:=hrel
    have hkr:=hk0.below hbr hk0.lt
    have hor:=hk1.below hbr hk1.lt
    have hbw:=zAa hb0 hbr hb0.size
    by_cases hlt:i < m
    ·obtain ⟨g,p,rfl,hg,⟨x0,x1,x2,x3,x4⟩,_⟩:=(hP.below hbw).at_ hlt
     have j0:(0:Int)≤(i:Int):=by omega
     have j1:(i:Int) < (m:Int):=by omega
     obtain ⟨b,hb⟩:∃b,zAK n (pa path i).s=b:=⟨_,rfl⟩
     have HB:=Lib.hid hb
     have HB0:=Lib.hid hb
     clear hb
     generalize hx:pa path i=x at x0 x1 x2 x3 x4 HB
     obtain ⟨xs,xo⟩:=x
     clear hx
     have hk4:=hkr.alloc (.cells #[.int .i64 xs.f,.int .i64 xs.l,.bool xs.far,.int .i64 xs.pc,.bool xo] 86)
     have hs4:Blk (wr.alloc (.cells #[.int .i64 xs.f,.int .i64 xs.l,.bool xs.far,.int .i64 xs.pc,.bool xo] 86)) wr.heap.size 86 #[.int .i64 xs.f,.int .i64 xs.l,.bool xs.far,.int .i64 xs.pc,.bool xo]:=Blk.new _ _ _
     have hb4:Below W.heap.size W (wr.alloc (.cells #[.int .i64 xs.f,.int .i64 xs.l,.bool xs.far,.int .i64 xs.pc,.bool xo] 86)):=hbr.alloc hbr.size _
     have y0:=(hk4.cell 0).trans rfl
     have y1:=(hk4.cell 1).trans rfl
     have y2:=(hk4.cell 2).trans rfl
     have z0:=(hs4.cell 0).trans rfl
     have z1:=(hs4.cell 1).trans rfl
     have z2:=(hs4.cell 2).trans rfl
     have z3:=(hs4.cell 3).trans rfl
     have HN:=Lib.hid (named_is HB.out A c re lo (wr.alloc (.cells #[.int .i64 xs.f,.int .i64 xs.l,.bool xs.far,.int .i64 xs.pc,.bool xo] 86)))
     cases b with
     | true =>
      have HS1:=Lib.hid (show ∀j:Nat,j < i+1→zAK n (pa path j).s=true from fun j hj=>by
       rcases Nat.decEq j i with e | e
       ·exact HS.out j (by omega)
       ·subst e;exact HB0.out)
      clear HS HB HB0
      go_wp2_with fail
      refine HN.out.mono ?_
      rintro e w5 ⟨rfl,hb5⟩
      have hb6:=zAa hb4 hb5 hb4.size
      clear y0 y1 y2 z0 z1 z2 z3
      go_wp2_with fail
      go_roundw
      case rel=>exact ⟨i+1,by omega,by go_num,hb6,HS1⟩
      case measure=>simp [intOf];omega
     | false =>
      have hr:=Lib.hid (rightB_path (k:=n) (o:=⟨3,f,fr,path,over⟩) (i:=i) (by rw [show (⟨3,f,fr,path,over⟩:Og).path=path from rfl,HLEN.out];exact hlt) HB0.out)
      clear HS HB HB0
      go_wp2_with fail
      refine HN.out.mono ?_
      rintro e w5 ⟨rfl,hb5⟩
      have hb6:=zAa hb4 hb5 hb4.size
      clear y0 y1 y2 z0 z1 z2 z3
      go_wp2_with fail
      go_ret
      exact ⟨retB (by rw [hr.out];rfl),zAa hb0 hb6 hb0.size⟩
    ·have j1:¬(i:Int) < (m:Int):=by omega
     have hrest:=zGu HH.out (fun j hj=>HS.out j (by rw [show (⟨3,f,fr,path,over⟩:Og).path=path from rfl,HLEN.out] at hj;omega))
     have hre:zDx n ⟨3,f,fr,path,over⟩=(!over&&zAK n fr):=by simp [zDx]
     rw [hre] at hrest
     have HR:=Lib.hid hrest
     have HN:=Lib.hid (zEq A n c re lo fr wr)
     have a0:wr.cell? ⟨w.heap.size,0,none⟩=some (.slice A n c):=(hkr.cell 0).trans rfl
     have a1:wr.cell? ⟨w.heap.size,1,none⟩=some (.int .i64 re):=(hkr.cell 1).trans rfl
     have a2:wr.cell? ⟨w.heap.size,2,none⟩=some (.int .i64 lo):=(hkr.cell 2).trans rfl
     have e0:wr.cell? ⟨w.heap.size+1,0,none⟩=some (.int .i64 3):=(hor.cell 0).trans rfl
     have e2:wr.cell? ⟨w.heap.size+1,2,none⟩=some (.int .i64 fr.f):=(hor.cell 2).trans rfl
     have e3:wr.cell? ⟨w.heap.size+1,3,none⟩=some (.int .i64 fr.l):=(hor.cell 3).trans rfl
     have e4:wr.cell? ⟨w.heap.size+1,4,none⟩=some (.bool fr.far):=(hor.cell 4).trans rfl
     have e5:wr.cell? ⟨w.heap.size+1,5,none⟩=some (.int .i64 fr.pc):=(hor.cell 5).trans rfl
     have e7:wr.cell? ⟨w.heap.size+1,7,none⟩=some (.bool over):=(hor.cell 7).trans rfl
     clear HS hrest hre
     cases over with
     | true =>
      go_wp2_with fail
      go_ret
      exact ⟨retB (by rw [HR.out];rfl),hbw⟩
     | false =>
      go_wp2_with fail
      refine HN.out.mono ?_
      rintro e w5 ⟨rfl,hb5⟩
      have hb6:=zAa hbw hb5 hbw.size
      go_wp2_with fail
      go_ret
      exact ⟨retB (by rw [HR.out];simp),hb6⟩
  ·have k4:(kind != 3)=true:=by simpa using k3
   have k5:¬0 < (m:Int):=by rcases HM.out with h | h;exact absurd h k3;omega
   have K3:=Lib.hid k3
   clear k3
   go_enter Tryz.func104,Tryz.ntmps104
   go_wp2_with fail
   generalize (w.alloc (.cells #[.slice A n c,.int .i64 re,.int .i64 lo] 24)).alloc (.cells #[.int .i64 kind,.int .i64 f,.int .i64 fr.f,.int .i64 fr.l,.bool fr.far,.int .i64 fr.pc,.slice B m d,.bool over] 32)=W at hb0 hk0 hk1 ⊢
   go_loopw [32] (fun v wr=>∃i:Nat,i≤m∧v=.int .i64 i∧Below W.heap.size W wr∧Hid (∀j:Nat,j < i→zAK n (pa path j).s=true)) (fun v _=>m-(intOf v).toNat)
   case atStart=>exact ⟨0,Nat.zero_le _,rfl,Below.refl _ _,Lib.hid (fun j hj=>by omega)⟩
   case round =>
    obtain ⟨i,hi,rfl,hbr,HS⟩:=hrel
    have hkr:=hk0.below hbr hk0.lt
    have hor:=hk1.below hbr hk1.lt
    have hbw:=zAa hb0 hbr hb0.size
    by_cases hlt:i < m
    ·exfalso;omega
    ·have j1:¬(i:Int) < (m:Int):=by omega
     have hrest:=zGu HH.out (fun j hj=>HS.out j (by rw [show (⟨kind,f,fr,path,over⟩:Og).path=path from rfl,HLEN.out] at hj;omega))
     have HR:=Lib.hid hrest
     have HN:=Lib.hid (zEq A n c re lo fr wr)
     have a0:wr.cell? ⟨w.heap.size,0,none⟩=some (.slice A n c):=(hkr.cell 0).trans rfl
     have a1:wr.cell? ⟨w.heap.size,1,none⟩=some (.int .i64 re):=(hkr.cell 1).trans rfl
     have a2:wr.cell? ⟨w.heap.size,2,none⟩=some (.int .i64 lo):=(hkr.cell 2).trans rfl
     have e0:wr.cell? ⟨w.heap.size+1,0,none⟩=some (.int .i64 kind):=(hor.cell 0).trans rfl
     have e2:wr.cell? ⟨w.heap.size+1,2,none⟩=some (.int .i64 fr.f):=(hor.cell 2).trans rfl
     have e3:wr.cell? ⟨w.heap.size+1,3,none⟩=some (.int .i64 fr.l):=(hor.cell 3).trans rfl
     have e4:wr.cell? ⟨w.heap.size+1,4,none⟩=some (.bool fr.far):=(hor.cell 4).trans rfl
     have e5:wr.cell? ⟨w.heap.size+1,5,none⟩=some (.int .i64 fr.pc):=(hor.cell 5).trans rfl
     have e7:wr.cell? ⟨w.heap.size+1,7,none⟩=some (.bool over):=(hor.cell 7).trans rfl
     have heq:=fun w=>eqSg fr s0 w
     have heq2:=fun w=>eqSg fr ⟨fr.f,0,false,0⟩ w
     simp only [s0] at heq
     clear HS hrest
     by_cases q1:kind=1∨kind=2∨kind=8
     ·rcases q1 with rfl | rfl | rfl
      all_goals
       cases over with
       | true =>
        go_wp2_with fail
        go_ret
        exact ⟨retB (by rw [HR.out];simp [zDx]),hbw⟩
       | false =>
        go_wp2_with fail
        go_ret
        exact ⟨retB (by rw [HR.out];simp [zDx,s0]),hbw⟩
     ·by_cases q2:kind=4
      ·subst q2
       clear q1
       go_wp2_with fail
       go_ret
       exact ⟨retB (by rw [HR.out];simp [zDx,s0]),hbw⟩
      ·by_cases q3:kind=5
       ·subst q3
        clear q1 q2
        go_wp2_with fail
        refine HN.out.mono ?_
        rintro e w5 ⟨rfl,hb5⟩
        have hb6:=zAa hbw hb5 hbw.size
        go_wp2_with fail
        go_ret
        exact ⟨retB (by rw [HR.out];simp [zDx]),hb6⟩
       ·by_cases q4:kind=6∨kind=7
        ·clear q1 q2 q3
         have hkb:=fun (w5:World) (hb5:Below wr.heap.size wr w5)=>hor.below hb5 hor.lt
         obtain ⟨b,hb⟩:∃b,zAK n fr=b:=⟨_,rfl⟩
         have HN2:=Lib.hid (named_is hb A c re lo wr)
         have HB:=Lib.hid hb
         have HKB:=Lib.hid hkb
         clear HN hb hkb
         rcases q4 with rfl | rfl
         all_goals
          cases b with
          | false =>
           go_wp2_with fail
           refine HN2.out.mono ?_
           rintro e w5 ⟨rfl,hb5⟩
           have hb6:=zAa hbw hb5 hbw.size
           clear e0 e2 e3 e4 e5 e7
           go_wp2_with fail
           go_ret
           exact ⟨retB (by rw [HR.out];simp [zDx,HB.out]),hb6⟩
          | true =>
           go_wp2_with fail
           refine HN2.out.mono ?_
           rintro e w5 ⟨rfl,hb5⟩
           have hb6:=zAa hbw hb5 hbw.size
           have ho5:=HKB.out w5 hb5
           clear e0 e2 e3 e4 e5 e7
           have g2:w5.cell? ⟨w.heap.size+1,2,none⟩=some (.int .i64 fr.f):=(ho5.cell 2).trans rfl
           have g3:w5.cell? ⟨w.heap.size+1,3,none⟩=some (.int .i64 fr.l):=(ho5.cell 3).trans rfl
           have g4:w5.cell? ⟨w.heap.size+1,4,none⟩=some (.bool fr.far):=(ho5.cell 4).trans rfl
           have g5:w5.cell? ⟨w.heap.size+1,5,none⟩=some (.int .i64 fr.pc):=(ho5.cell 5).trans rfl
           go_wp2_with fail
           go_ret
           exact ⟨retB (by rw [HR.out];simp [zDx,HB.out]),hb6⟩
        ·have t1:(kind==1)=false:=by simp;omega
         have t2:(kind==2)=false:=by simp;omega
         have t3:(kind==8)=false:=by simp;omega
         have t4:(kind==4)=false:=by simp;omega
         have t5:(kind==3)=false:=by simpa using k4
         have t6:(kind==5)=false:=by simp;omega
         have t7:(kind==6)=false:=by simp;omega
         have t8:(kind==7)=false:=by simp;omega
         have hz:zDx n ⟨kind,f,fr,path,over⟩=false:=by
          unfold zDx
          simp only
          rw [if_neg q1,if_neg q2,if_neg K3.out,if_neg q3,if_neg q4]
         have HZ:=Lib.hid hz
         clear q1 q2 q3 q4 hz
         go_wp2_with fail
         go_ret
         exact ⟨retB (by rw [HR.out,HZ.out];rfl),hbw⟩
 ·have hr:=Lib.hid (rightB_no hh)
  have hh2:f < 1∨(¬f < 1∧(n:Int) < f)∨(¬f < 1∧¬(n:Int) < f∧(kind != 3)=true∧0 < (m:Int)):=by
   by_cases e1:f < 1
   ·exact .inl e1
   ·by_cases e2:(n:Int) < f
    ·exact .inr (.inl ⟨e1,e2⟩)
    ·have e3:¬(kind=3∨path=[]):=fun e=>hh ⟨by simp only;omega,by simp only;omega,e⟩
     have e4:kind≠3:=fun e=>e3 (.inl e)
     have e5:m≠0:=fun e=>e3 (.inr (List.length_eq_zero_iff.1 (by rw [hlen,e])))
     exact .inr (.inr ⟨e1,e2,by simpa using e4,by omega⟩)
  clear hh
  rcases hh2 with i1 | ⟨i1,i2⟩ | ⟨i1,i2,i3,i4⟩
  all_goals
   go_enter Tryz.func104,Tryz.ntmps104
   go_wp2_with fail
   go_ret
   exact ⟨retB (by rw [hr.out];rfl),hb0⟩
end Go.Proofs.YtlmdfmnbcndhoaaGreatDoor
