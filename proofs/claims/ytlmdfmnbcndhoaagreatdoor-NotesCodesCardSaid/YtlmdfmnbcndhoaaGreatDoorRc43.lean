/-
  Lemmas, part 43. Conditions: each theorem's own.
-/
import Derived.Test.YtlmdfmnbcndhoaaGreatDoorRc42
import Derived.Test.YtlmdfmnbcndhoaaGreatDoorRc38
import Derived.Test.YtlmdfmnbcndhoaaGreatDoorRc32
import Derived.Test.YtlmdfmnbcndhoaaGreatDoorRc12
import Derived.Test.YtlmdfmnbcndhoaaGreatDoorRc34
import Derived.Test.YtlmdfmnbcndhoaaGreatDoorRc37
import Derived.Test.YtlmdfmnbcndhoaaGreatDoorRc40
import Derived.Test.YtlmdfmnbcndhoaaGreatDoorRc02
import Derived.Test.YtlmdfmnbcndhoaaGreatDoorRc25
import Derived.Deep.DeepCutAuto
import Derived.Test.YtlmdfmnbcndhoaaGreatDoorRc31
import Derived.Test.YtlmdfmnbcndhoaaGreatDoorRc04
import Derived.Deep.RegionHeld3
import Derived.Deep.RegionLaw
import Derived.BigRegion
import Derived.Test.YtlmdfmnbcndhoaaGreatDoorRc03
import Derived.Test.YtlmdfmnbcndhoaaGreatDoorRc01
import Derived.Test.YtlmdfmnbcndhoaaGreatDoorRc30
open Bool renaming false→E,true→Q
open Option renaming none→U,some→Z
open Go.Value renaming bool→G,int→D,slice→H,string→W
open Go.IntKind renaming i64→J
namespace Go.Proofs.YtlmdfmnbcndhoaaGreatDoor
open Go.RowKit
theorem zOn {L:List Fg} {re lo:Int} {S:List UInt8} (hv:frB L re lo=Q) (h:S.length≤8000):zAw L re lo S=0:=by
 unfold zAw;rw [hv,if_pos rfl,if_neg (by omega)]
theorem zOo {L:List Fg} {re lo:Int} {S:List UInt8} (hv:frB L re lo=Q) (h:8000 < S.length):zAw L re lo S=7:=by
 unfold zAw;rw [hv,if_pos rfl,if_pos h]
theorem zQT {T:List (List UInt8)} {j:Nat} (h:zBY (T.take j)=Q):zBY T=Q:=by
 unfold zBY at h ⊢;rw [Bool.or_eq_true] at h ⊢;rcases h with h | h
 ·left;rw [List.any_eq_true] at h ⊢;obtain ⟨x,hx,hb⟩:=h;exact ⟨x,List.mem_of_mem_take hx,hb⟩
 ·right
  cases T with
  | nil=>simp [zMa] at h
  | cons x T =>
   cases j with
   | zero=>simp [zMa] at h
   | succ j=>exact h
theorem zMl {T:List (List UInt8)} {i:Nat} (h:i < T.length):T.take (i+1)=T.take i++[xa T i]:=by rw [List.take_add_one,zQK h];rfl
theorem zQU {T:List (List UInt8)} {i:Nat} (h:i < T.length):zBY (T.take (i+1))=(zBY (T.take i)||(zIJ (xa T i)||(decide (i=0)&&zPY (xa T i)))):=by
 rw [zMl h,zIK]
 congr 2
 congr 1
 cases i with
 | zero=>rfl
 | succ i=>cases T with
  | nil=>simp at h
  | cons x T=>rfl
theorem zOp {F:List Fg} {T:List (List UInt8)} {i:Nat} (h:i < T.length):zCQ F (T.take (i+1))=(zCQ F (T.take i)||zRs F (xa T i)):=by rw [zMl h,zIL]
theorem zLe {F:List Fg} {T:List (List UInt8)} {i:Nat} (h:i < T.length):(T.take (i+1)).map (zGY F)=(T.take i).map (zGY F)++[zGY F (xa T i)]:=by rw [zMl h,List.map_append];rfl
theorem zVu {F:List Fg} {S:List UInt8} (h:(rdT S).ok=Q) (h0:(rdT S).f=0):zGY F S=⟨0,(rdT S).n,(rdT S).b⟩∧zRs F S=E∧zPY S=Q∧zIJ S=E:=by
 obtain ⟨t,ht,rfl⟩:=zHa h;rw [zSD ht] at h0 ⊢;have hz:=(zVf ht).1 h0;obtain ⟨h1,h2,h3,h4⟩:=zHY F ht;rw [h1,h2,h3,h4];obtain ⟨fg,n,b⟩:=t;simp only at hz;subst hz;exact ⟨rfl,rfl,rfl,rfl⟩
theorem zTN {F:List Fg} {S:List UInt8} (h:(rdT S).ok=Q) (h0:(rdT S).f≠0) :
  ∃f,zAo f=Q∧(rdT S).f=(zAM AL f:Int)∧zGY F S=⟨if zAM F f=0 then -1 else (zAM F f:Int),(rdT S).n,(rdT S).b⟩∧zRs F S=decide (zAM F f=0)∧zPY S=E∧zIJ S=E:=by
 obtain ⟨t,ht,rfl⟩:=zHa h;rw [zSD ht] at h0 ⊢;obtain ⟨h1,h2,h3,h4⟩:=zHY F ht;rw [h1,h2,h3,h4];obtain ⟨fg,n,b⟩:=t
 cases fg with
 | none=>exact absurd rfl h0
 | some f=>exact ⟨f,ht.1 f rfl,rfl,rfl,rfl,rfl,rfl⟩
theorem zWU {S:List UInt8} (h:(rdT S).ok=E):zIJ S=Q:=by
 have:=zTI S;rw [h] at this;simpa using this.symm
theorem zWV {S:List UInt8} (h:(rdT S).ok=Q):1≤(rdT S).n∧(rdT S).n≤999999999∧0≤(rdT S).f∧(rdT S).f≤126:=by
 obtain ⟨t,ht,rfl⟩:=zHa h;rw [zSD ht];obtain ⟨fg,n,b⟩:=t;obtain ⟨h1,h2,h3⟩:=ht;simp only at h2 h3;unfold tkI;simp only;refine ⟨h2,h3,?_,?_⟩
 ·cases fg with
  | none=>exact Int.le_refl _
  | some f=>simp only;omega
 ·cases fg with
  | none=>simp
  | some f =>
   have:=zDo (f:=f) (L:=AL);rw [zPL] at this;simp only;omega
theorem zVv {F:List Fg} {re lo:Int} {S:List UInt8} (h0:zAw F re lo S=0) (h1:S≠zDm) (h2:zBY (zAN 32 S)=Q):rqR F re lo S=([],6):=by
 unfold rqR;rw [if_neg (by rw [h0];simp),if_neg h1,if_pos h2]
theorem zVw {F:List Fg} {re lo:Int} {S:List UInt8} (h0:zAw F re lo S=0) (h1:S≠zDm) (h2:zBY (zAN 32 S)=E) (h3:zCQ F (zAN 32 S)=Q):rqR F re lo S=([],8):=by
 unfold rqR;rw [if_neg (by rw [h0];simp),if_neg h1,if_neg (by rw [h2];simp),if_pos h3]
theorem zVx {F:List Fg} {re lo:Int} {S:List UInt8} (h0:zAw F re lo S=0) (h1:S≠zDm) (h2:zBY (zAN 32 S)=E) (h3:zCQ F (zAN 32 S)=E) (h4:zBJ (zDn F S)=E):rqR F re lo S=([],3):=by
 unfold rqR;rw [if_neg (by rw [h0];simp),if_neg h1,if_neg (by rw [h2];simp),if_neg (by rw [h3];simp),if_pos h4]
theorem zVy {F:List Fg} {re lo:Int} {S:List UInt8} (h0:zAw F re lo S=0) (h1:S≠zDm) (h2:zBY (zAN 32 S)=E) (h3:zCQ F (zAN 32 S)=E) (h4:zBJ (zDn F S)=Q) (h5:12 < crS F S∨400 < (zAT F S).length):rqR F re lo S=([],7):=by
 unfold rqR;rw [if_neg (by rw [h0];simp),if_neg h1,if_neg (by rw [h2];simp),if_neg (by rw [h3];simp),if_neg (by rw [h4];simp),if_pos h5]
theorem zWW {F:List Fg} {re lo:Int} {S:List UInt8} {ZS:List (List Lt)} {N:Nat} (h0:zAw F re lo S=0) (h1:S≠zDm) (h2:zBY (zAN 32 S)=E) (h3:zCQ F (zAN 32 S)=E) (h4:zBJ (zDn F S)=Q) (h5:¬(12 < crS F S∨400 < (zAT F S).length)) (hN:2 ^ crS F S=N)
  (h6:zAI F re lo (crS F S) (zAT F S) N=ZS):rqR F re lo S=(ZS,if ZS=[] then 3 else 0):=by
 subst hN;unfold rqR;rw [if_neg (by rw [h0];simp),if_neg h1,if_neg (by rw [h2];simp),if_neg (by rw [h3];simp),if_neg (by rw [h4];simp),if_neg h5,h6]
 by_cases e:ZS=[]
 ·rw [if_pos e,if_pos e,e]
 ·rw [if_neg e,if_neg e]
theorem zSY {l:List Bi} (hf:∀x∈l,0≤x.f) {i:Nat} (hi:i < l.length) (h:zRt l (ba l i)=Q):zBJ l=E:=by
 cases e:zBJ l with
 | false=>rfl
 | true=>have:=(((zHb hf).1 e).1 i hi).1;rw [h] at this;cases this
theorem zSZ {l:List Bi} (hf:∀x∈l,0≤x.f) {i k:Nat} (hi:i < l.length) (hk:k < i) (h:zEU (ba l i) (ba l k)=Q):zBJ l=E:=by
 cases e:zBJ l with
 | false=>rfl
 | true=>have:=(((zHb hf).1 e).1 i hi).2 k hk;rw [h] at this;cases this
theorem zTa {l:List Bi} (hf:∀x∈l,0≤x.f) (h:zCN l % 2≠0):zBJ l=E:=by
 cases e:zBJ l with
 | false=>rfl
 | true=>exact absurd ((zHb hf).1 e).2 h
theorem zVz {l:List Bi} {i:Nat} (h:i < l.length):l.take (i+1)=l.take i++[ba l i]:=by rw [List.take_add_one,zCK h];rfl
def SgnTo (cr nu j:Nat) (ZU:List Int):Prop:=ZU.length=cr∧∀i,i < j→i < cr→ZU[i]? = Z (sgD cr nu i)
theorem SgnTo.all {cr nu:Nat} {ZU:List Int} (h:SgnTo cr nu cr ZU):ZU=zRu cr nu:=by
 refine List.ext_getElem? fun i=>?_
 by_cases hi:i < cr
 ·rw [h.2 i hi hi,zJO hi]
 ·rw [List.getElem?_eq_none (by rw [h.1];omega),List.getElem?_eq_none (by simp [zRu];omega)]
theorem SgnTo.put {cr nu j:Nat} {ZU:List Int} (h:SgnTo cr nu j ZU) (_hj:j < cr) {x:Int} (hx:sgD cr nu j=x):SgnTo cr nu (j+1) (ZU.set j x):=by
 refine ⟨by rw [List.length_set];exact h.1,fun i hi hc=>?_⟩;rw [List.getElem?_set];by_cases e:j=i
 ·subst e;rw [if_pos rfl,h.1,if_pos hc,hx]
 ·rw [if_neg e];exact h.2 i (by omega) hc
theorem CodesOwn.farSet {w:World} {base g:Nat} {K:Int} {A:Option Addr} {n c:Nat} {Es:List Ce} (h:CodesOwn w base K A n c Es) (hA:∀k,blk A=Z k→k≠g) (hE:∀e∈Es,∀k,blk e.A=Z k→k≠g) (q:Nat) (u:Value):CodesOwn (w.setCell ⟨g,q,U⟩ u) base K A n c Es:=by
 refine ⟨h.row.farSet q u hA,fun e he=>?_,h.cap⟩;obtain ⟨h1,h2⟩:=h.ok e he;refine ⟨h1.kept (row:=Z g) (zBp _ _) (fun k hk e2=>hE e he k hk (Option.some.inj e2).symm),fun k hk=>?_⟩;obtain ⟨h3,h4⟩:=h2 k hk;exact ⟨by simpa [World.setCell] using h3,h4⟩
structure RqW (Y V:World) (g cr:Nat) (ZU:List Int) (base:Nat) (K:Int) (A:Option Addr) (n c:Nat) (Es:List Ce):Prop where
 sg:OwnI V Y.heap.size g cr ZU
 co:CodesOwn V base K A n c Es
 fa:∀k,blk A=Z k→k≠g∧Y.heap.size≤k
 fe:∀e∈Es,∀k,blk e.A=Z k→k≠g
 old:Below Y.heap.size Y V
section
variable {Y V V':World} {g cr:Nat} {ZU:List Int} {base:Nat} {K:Int} {A:Option Addr} {n c:Nat} {Es:List Ce}
theorem RqW.next (h:RqW Y V g cr ZU base K A n c Es) (hb:Below V.heap.size V V'):RqW Y V' g cr ZU base K A n c Es :=
 ⟨h.sg.below hb h.sg.lt,h.co.below hb,h.fa,h.fe,zAa h.old hb h.old.size⟩
theorem RqW.store (h:RqW Y V g cr ZU base K A n c Es) (q:Nat) (x:Int):RqW Y (V.setCell ⟨g,q,U⟩ (D J x)) g cr (ZU.set q x) base K A n c Es :=
 ⟨h.sg.stored q x,h.co.farSet (fun k hk=>(h.fa k hk).1) h.fe q _,h.fa,h.fe,h.old.setCell (p:=⟨g,q,U⟩) h.sg.base _⟩
theorem RqW.push {A':Option Addr} {N c':Nat} (h:RqW Y V g cr ZU base K A n c Es) (e:Ce) (he:Lets V e.A e.n e.L∧∀k,blk e.A=Z k→k < V.heap.size∧blk A≠Z k) (hcp:e.n≤e.c) (hne:∀k,blk e.A=Z k→k≠g)
  (hr:Row V' base 2 A' N c' ((Es++[e]).flatMap (zQw K))) (hg:V.grownBy V' (blk A)) (hl:∀k,blk A'=Z k→blk A=Z k∨V.heap.size≤k):RqW Y V' g cr ZU base K A' N c' (Es++[e]):=by
 have hgl:=h.sg.lt;have hos:=h.old.size;refine ⟨⟨h.sg.blk.grown hg (fun e2=>(h.fa g e2.symm).1 rfl),h.sg.base,h.sg.len⟩,h.co.push e he hcp hr hg hl,fun k hk=>?_,fun x hx k hk=>?_,?_⟩
 ·rcases hl k hk with e1 | e1
  ·exact h.fa k e1
  ·exact ⟨by omega,by omega⟩
 ·rcases List.mem_append.1 hx with e1 | e1
  ·exact h.fe x e1 k hk
  ·rw [List.mem_singleton.1 e1] at hk;exact hne k hk
 ·exact h.old.trans ((Below.refl _ _).grown hg h.old.size fun k hk=>(h.fa k hk).2)
end
end Go.Proofs.YtlmdfmnbcndhoaaGreatDoor
namespace Go.Proofs.YtlmdfmnbcndhoaaGreatDoor
open Go.RowKit
theorem zIa {n:Nat} {b:Bool} (h:decide (n≤60)=b) (A:Option Addr) (c:Nat) (re lo:Int) (w:World) :
  Calls Tryz.prog 15 #[frV A n c re lo] w fun e w'=>e=.returned (G b)∧Below w.heap.size w w':=by
 subst h;exact zQF A n c re lo w
end Go.Proofs.YtlmdfmnbcndhoaaGreatDoor
namespace Go.Proofs.YtlmdfmnbcndhoaaGreatDoor
open Go.RowKit
theorem zLf {B:Nat} {a b:World} {o:Obj} (hB:B≤b.heap.size) (h:Below B a b):Below B a (b.alloc o):=h.alloc hB o
theorem zTb {A:Option Addr} {n c:Nat} {F:List Fg} {re lo:Int} {S:List UInt8} {Cs:List (List Lt)} {ZT:Int} (h:rqR F re lo S=(Cs,ZT)) (w:World) (hA:Fgs w A n F) (hc:n≤c) (ht:Tabs w) :
  Calls Tryz.prog 37 #[frV A n c re lo,W (bA S)] w (zJN w (n:Int) Cs ZT):=by
 have:=zCS ⟨A,n,c,F,re,lo⟩ S w hA hc ht;simp only at this;rw [h] at this;exact this
theorem zQV {w:World} {base:Nat} {K:Int} {B:Option Addr} {m d:Nat} {Es:List Ce} {i:Nat} {e:Ce} (h:CodesOwn w base K B m d Es) (hi:Es[i]? = Z e) :
  ∃g o,B=Z ⟨g,o,U⟩∧g < w.heap.size∧w.cell? ⟨g,o+i*2,U⟩=Z (D J K)∧w.cell? ⟨g,o+i*2+1,U⟩=Z (H e.A e.n e.c)∧Lets w e.A e.n e.L:=by
 have hlt:i < m:=by rw [←h.len];exact (List.getElem?_eq_some_iff.1 hi).1
 obtain ⟨g,o,rfl,_,hg⟩:=h.row.form (by omega);have q0:=h.row.cell (j:=i*2+0) (by rw [zEL (zQw K) 2 (fun _=>rfl) Es i 0 e hi (by omega)];rfl);have q1:=h.row.cell (j:=i*2+1) (by rw [zEL (zQw K) 2 (fun _=>rfl) Es i 1 e hi (by omega)];rfl);exact ⟨g,o,rfl,hg,q0,q1,(h.ok e (List.mem_of_getElem? hi)).1⟩
end Go.Proofs.YtlmdfmnbcndhoaaGreatDoor
namespace Go.Proofs.YtlmdfmnbcndhoaaGreatDoor
def lsB (a b:Lt):Bool :=
 if a.kind≠b.kind then decide (a.kind < b.kind) else if a.gate≠b.gate then decide (a.gate < b.gate) else if a.rank≠b.rank then decide (a.rank < b.rank)
 else if a.id≠b.id then decide (a.id < b.id) else if a.over≠b.over then b.over else decide (a.sign < b.sign)
def bfB:List Lt→List Lt→Bool
 | a :: A,b :: B=>if a=b then bfB A B else lsB a b
 | _,_=>E
def pick (best:List Lt) (y:List Lt):List Lt:=if bfB y best then y else best
end Go.Proofs.YtlmdfmnbcndhoaaGreatDoor
namespace Go.Proofs.YtlmdfmnbcndhoaaGreatDoor
open Go.RowKit
theorem zBl (b o f:Nat) (h:f < 6) (w:World):(Instr.fieldAt 76 (.pointer (Z ⟨b,o,U⟩)) f).run Tryz.prog w=.ok (.pointer (Z ⟨b,o+f,U⟩)) w:=by
 rcases (show f=0∨f=1∨f=2∨f=3∨f=4∨f=5 by omega) with rfl | rfl | rfl | rfl | rfl | rfl<;>go_simp
theorem zQW (b o f:Nat) (h:f < 2) (w:World):(Instr.fieldAt 55 (.pointer (Z ⟨b,o,U⟩)) f).run Tryz.prog w=.ok (.pointer (Z ⟨b,o+f,U⟩)) w:=by
 rcases (show f=0∨f=1 by omega) with rfl | rfl<;>go_simp
theorem zBh {p:Addr} {v:Int} {w:World} (h:w.cell? p=Z (D J v)):(Instr.loadAt 3 (.pointer (Z p))).run Tryz.prog w=.ok (D J v) w:=by go_simp
theorem zEV {p:Addr} {v:Int} {w:World} (h:w.cell? p=Z (D J v)):(Instr.loadAt 74 (.pointer (Z p))).run Tryz.prog w=.ok (D J v) w:=by go_simp
theorem zIb {p:Addr} {v:Bool} {w:World} (h:w.cell? p=Z (G v)):(Instr.loadAt 4 (.pointer (Z p))).run Tryz.prog w=.ok (G v) w:=by go_simp
theorem zJW {b o:Nat} {K:Int} {A:Option Addr} {n c:Nat} {w:World} (h0:w.cell? ⟨b,o,U⟩=Z (D J K)) (h1:w.cell? ⟨b,o+1,U⟩=Z (H A n c)):(Instr.loadAt 55 (.pointer (Z ⟨b,o,U⟩))).run Tryz.prog w=.ok (.agg #[D J K,H A n c]) w:=by go_simp
section
variable {x y:Operand} {w:World} {X Y:Int} {b:Bool} {t:TypeId}
theorem zEE (h:(X != Y)=b):(do eqGuard .neq 3 x y (D J X) (D J Y);binOp .neq 3 (D J X) (D J Y):Sem Value).run Tryz.prog w=.ok (G b) w:=by subst h;go_simp
theorem zIR (h:(X==Y)=b):(do eqGuard .eql 3 x y (D J X) (D J Y);binOp .eql 3 (D J X) (D J Y):Sem Value).run Tryz.prog w=.ok (G b) w:=by subst h;go_simp
theorem zMm (h:(X==Y)=b):(do eqGuard .eql 74 x y (D J X) (D J Y);binOp .eql 74 (D J X) (D J Y):Sem Value).run Tryz.prog w=.ok (G b) w:=by subst h;go_simp
theorem zQX {X Y:Bool} (h:(X != Y)=b):(do eqGuard .neq 4 x y (G X) (G Y);binOp .neq 4 (G X) (G Y):Sem Value).run Tryz.prog w=.ok (G b) w:=by subst h;go_simp;cases X<;>cases Y<;>rfl
theorem zQY (h:decide (X < Y)=b):(do eqGuard .lss 3 x y (D J X) (D J Y);binOp .lss 3 (D J X) (D J Y):Sem Value).run Tryz.prog w=.ok (G b) w:=by subst h;go_simp
theorem zQZ (h:decide (Y < X)=b):(do eqGuard .gtr 3 x y (D J X) (D J Y);binOp .gtr 3 (D J X) (D J Y):Sem Value).run Tryz.prog w=.ok (G b) w:=by subst h;go_simp
theorem zVA (n:Nat) (h:n≤1000000):(do eqGuard .quo 3 x y (D J (n:Int)) (D J 2);binOp .quo 3 (D J (n:Int)) (D J 2):Sem Value).run Tryz.prog w=.ok (D J ((n / 2:Nat):Int)) w:=by
 have v2:IntKind.i64.wrap ((n:Int) / 2)=(n:Int) / 2:=IntWalk.i64_in _ (by omega);go_simp
end
theorem zXV (vs:Array Value) (w:World):(callFunc 169 vs).run Tryz.prog w=.ok (.enter 169 vs) w:=by go_simp
theorem zRa (vs:Array Value) (w:World):(callFunc 132 vs).run Tryz.prog w=.ok (.enter 132 vs) w:=by go_simp
theorem zTc (vs:Array Value) (w:World):(callFunc 170 vs).run Tryz.prog w=.ok (.enter 170 vs) w:=by go_simp
end Go.Proofs.YtlmdfmnbcndhoaaGreatDoor
namespace Go.Proofs.YtlmdfmnbcndhoaaGreatDoor
open Go.RowKit
theorem zOq {f:Nat→Nat} {k:Nat} {s:List Bool} {x:Nat} (h:sat s x=Q):zBz f k s x=([],s):=by
 cases k with
 | zero=>rfl
 | succ k=>unfold zBz;rw [if_pos h]
theorem zOr {f:Nat→Nat} {k:Nat} {s:List Bool} {x:Nat} (h:sat s x=E):zBz f (k+1) s x=(x :: (zBz f k (s.set x Q) (f x)).1,(zBz f k (s.set x Q) (f x)).2):=by
 conv=>lhs;unfold zBz
 rw [if_neg (by rw [h];simp)]
theorem zOs {f:Nat→Nat} {d k:Nat} {s:List Bool} (h:sat s d=Q):zBc f (List.range' d (k+1)) s=zBc f (List.range' (d+1) k) s:=by
 rw [List.range'_succ];conv=>lhs;unfold zBc
 rw [if_pos h]
theorem zRb {f:Nat→Nat} {d k:Nat} {s:List Bool} (h:sat s d=E):zBc f (List.range' d (k+1)) s=(zBz f s.length s d).1 :: zBc f (List.range' (d+1) k) (zBz f s.length s d).2:=by
 rw [List.range'_succ];conv=>lhs;unfold zBc
 rw [if_neg (by rw [h];simp)]
theorem zOt:(Tryz.prog.info? 79).map (fun i=>(i.zero,i.size,i.bytes))=Z (Z (H U 0 0),1,24):=by kernel_rfl
def zTO:Value→Nat
 | H _ n _=>n
 | _=>0
theorem zWX {w:World} {ops:Array Oper} {rest:List Oper} {o:Oper} {a:Act} {ZS:Exit→Act→World→Prop} (hgd:o.guard=U) (s x:Operand)
  (ho:o.op=.call { callee:=.builtin .append,args:=#[s,x],argTypes:=#[177,177] })
  {base:Nat} {A:Option Addr} {n c:Nat} {vs:List SV} (hst:Row w base 1 A n c (vs.map SV.val)) (B:Option Addr) (m d:Nat) (hs:a.eval s=H A n c)
  (hx:a.eval x=H (Z ⟨w.heap.size,0,U⟩) 1 1) (N:Nat) (hN:n+1=N) (hn:N≤1000000) (hbase:base≤w.heap.size)
  (h:∀A' c' w',Row w' base 1 A' N c' ((vs++[(⟨B,m,d⟩:SV)]).map SV.val)→w.grownBy w' (blk A)→(∀k,blk A'=Z k→blk A=Z k∨w.heap.size≤k)→wpList Tryz.prog ops ZS rest (a.put o.dst (H A' N c')) w') :
  wpList Tryz.prog ops ZS (o :: rest) a (w.alloc (.cells #[H B m d] 79)):=by
 obtain ⟨i0,hi,aT,az,bt⟩:=info_parts zOt
 refine zOy hgd s x 177 ho 79 i0 _ 1 24 Tryz.underlying177 hi aT az bt rfl (by decide) (hst.alloc _) (Src.new (m:=1) (cs:=[H B m d]) rfl)
  (by intro u hu;simp at hu;subst hu;rfl) hs hx N hN (by unfold maxLen;omega) (by omega) (by simp;omega) ?_
 intro A' c' w' h1 h2 h3 _;refine h A' c' w' (by rw [List.map_append];exact h1) (zAb (World.grownBy_alloc w _ _) h2) (fun k hk=>?_);rcases h3 k hk with h | h
 ·exact .inl h
 ·right;simp at h;omega
set_option maxRecDepth 100000 in
set_option maxHeartbeats 3200000 in
theorem zRc (K:Int) (A:Option Addr) (n c:Nat) (L:List Lt) (w:World) (hA:Lets w A n L) (g:Good K L) (fN:n≤1000) :
  Calls Tryz.prog 135 #[.agg #[D J K,H A n c]] w fun e w'=>∃A' c' vs,e=.returned (.slice A' (zBK L).length c')∧Wks w' w.heap.size A' (zBK L).length c' vs ((zBK L).map zEG)∧Below w.heap.size w w':=by
 have aA:=qH hA.len;have hbx:=Boxed.refl w K A n c;obtain ⟨m,hm⟩:∃m,m=(axL L).length:=⟨_,rfl⟩
 have hmn:m≤n:=by rw [hm,zEJ,aA.out];exact zIe L n
 obtain ⟨N,hN⟩:∃N,N=zBS L:=⟨_,rfl⟩
 have xc:N=2*n+2*m:=by rw [hN,hm];unfold zBS;rw [aA.out]
 have tL:N≤17592186044416:=by omega
 have HM:=qH hm;have HN:=qH hN;have vb:=qH xc;have hW:Hid ([]++zBc (zAG L (axL L)) (List.range' 0 (N-0)) (List.replicate N E)=zBK L):=by
  show _=_;rw [List.nil_append,Nat.sub_zero,←List.range_eq_range',hN];rfl
 clear hm hN xc;go_enter Tryz.func135,Tryz.ntmps135;go_wp2_with fail
 refine (zSk K A n c L _ (hA.below hbx.below)).mono ?_;rintro e w1 ⟨A1,c1,rfl,el,ah⟩;rw [←HM.out] at el ⊢;have hX:=el.ints;have fC:=hbx.more ah;have k0:=fC.c0;have k1:=fC.c1;clear el ah hbx;go_wp2_with (at_make;refine zMs rfl _ _ rfl N _ rfl rfl (by have:=vb.out;omega) tL (Nat.le_refl _) ?_;intro ws lq nB hzs)
 clear k0 k1;have fE:=hA.below fC.below;go_loopw [3,6] (fun v3 v6 wr=>∃(d q:Nat) (s:List Bool) (A2:Option Addr) (c2:Nat) (vs:List SV) (Ws:List (List Nat)),d≤N∧q≤d∧v6=D J d∧v3=H A2 q c2∧Wks wr (w1.heap.size+1) A2 q c2 vs (Ws.map zEG)∧OwnB wr w1.heap.size w1.heap.size N s∧Below w1.heap.size w1 wr∧Hid (Ws++zBc (zAG L (axL L)) (List.range' d (N-d)) s=zBK L)) (fun _ v6 _=>N-(intOf v6).toNat)
 case atStart=>exact ⟨0,0,List.replicate N E,U,0,[],[],Nat.zero_le _,Nat.le_refl _,rfl,rfl,Wks.nil _ _,lq,nB,hW⟩
 case round =>
  obtain ⟨d,q,s,A2,c2,vs,Ws,hd,hqd,rfl,rfl,hwk,hs,hbw,HW⟩:=hrel;clear lq hW nB;by_cases hdN:d < N
  ·have hcs:=hs.cell hdN;have i0:(0:Int)≤(d:Int):=by omega
   have i1:(d:Int) < (N:Int):=by omega
   cases hsd:sat s d with
   | true =>
    rw [hsd] at hcs
    have C0:=qH (show Ws++zBc (zAG L (axL L)) (List.range' (d+1) (N-(d+1))) s=zBK L by
     rw [←HW.out,show N-d=N-(d+1)+1 by omega,zOs hsd])
    clear hsd HW;go_wp2_with fail
    go_roundw
    case rel=>exact ⟨d+1,q,s,A2,c2,vs,Ws,by omega,by omega,by go_num,rfl,hwk,hs,hbw,C0⟩
    case measure=>simp [intOf];omega
   | false =>
    rw [hsd] at hcs
    have xi:=qH (show Ws++(zBz (zAG L (axL L)) N s d).1 :: zBc (zAG L (axL L)) (List.range' (d+1) (N-(d+1))) (zBz (zAG L (axL L)) N s d).2=zBK L by
     rw [←HW.out,show N-d=N-(d+1)+1 by omega,zRb hsd,hs.len])
    clear hsd HW;have AW:unN s≤N:=by rw [←hs.len];exact zTp s
    have Bj:w1.heap.size < wr.heap.size:=hs.lt;go_wp2_with fail
    obtain ⟨wo,rfl⟩:∃wo:World,wo=wr:=⟨_,rfl⟩
    go_loopw [7,8] (fun v7 v8 wi=>∃(x p cP k:Nat) (AP:Option Addr) (P:List Nat) (si:List Bool),x < N∧v8=D J x∧v7=H AP p cP∧Own wi wo.heap.size AP p cP (zEG P)∧OwnB wi w1.heap.size w1.heap.size N si∧wo.grownBy wi (Z w1.heap.size)∧Below w1.heap.size w1 wi∧unN si≤k∧p+unN si=unN s∧Hid (P++(zBz (zAG L (axL L)) k si x).1=(zBz (zAG L (axL L)) N s d).1∧(zBz (zAG L (axL L)) k si x).2=(zBz (zAG L (axL L)) N s d).2)) (fun v7 _ _=>N-zTO v7)
    case atStart=>exact ⟨d,0,0,N,U,[],s,hdN,rfl,rfl,Own.nil _ _,hs,World.grownBy.refl _ _,hbw,AW,by omega,qH ⟨rfl,rfl⟩⟩
    case round =>
     obtain ⟨x,p,cP,k,AP,P,si,hx,rfl,rfl,dE,hsi,hgr,hbi,huk,hpu,HP⟩:=hrel;have j0:(0:Int)≤(x:Int):=by omega
     have j1:(x:Int) < (N:Int):=by omega
     have hcx:=hsi.cell hx;have hfx:=hsi.frozen x;have hszi:=hgr.size
     cases hsx:sat si x with
     | true =>
      rw [hsx] at hcx;have jC:=HP.out;rw [zOq hsx] at jC;have gI:=qH jC;clear hsx HP jC;have hwki:=hwk.kept hgr (by omega);have rF:=dE.ints;have hpc:=dE.cap;have hq1:q+1≤1000000:=by have:=vb.out;omega
      have BG:w1.heap.size+1≤wr.heap.size:=by omega
      go_wp2_with (at_builtin;refine zWX rfl _ _ rfl hwki.row AP p cP rfl rfl (q+1) rfl hq1 BG ?_)
      intro A3 c3 w3 oy dL rL;have vN:=hwki.push (v:=⟨AP,p,cP⟩) (by rw [List.map_append];exact oy) rfl dL rL rF hpc (fun k hk=>⟨by have:=(dE.lt k hk).1;omega,(dE.lt k hk).2,fun e=>by have:=(hwk.row.lt k e).2;have:=(dE.lt k hk).1;omega⟩)
      have AZ:=hsi.kept dL (by
       intro e
       have:=(hwki.row.lt _ e.symm).1
       omega)
      have ac:Below w1.heap.size w1 w3:=zAa hbi (B:=w1.heap.size) (C:=w1.heap.size+1) ((Below.refl _ _).grown dL (by omega) (fun k hk=>(hwki.row.lt k hk).1)) (by omega)
      have tO:=qH (show (Ws++[P])++zBc (zAG L (axL L)) (List.range' (d+1) (N-(d+1))) si=zBK L by
       rw [←xi.out,←gI.out.1,←gI.out.2];simp)
      have hmap:Ws.map zEG++[zEG P]=(Ws++[P]).map zEG:=by simp
      rw [hmap] at vN;clear oy dL rL hwki rF dE hsi hgr hbi hwk hs hbw hmap gI xi hcx hfx hcs;go_wp2_with fail
      go_roundw
      case rel=>exact ⟨d+1,q+1,si,A3,c3,_,_,by omega,by omega,by go_num,rfl,vN,AZ,ac,tO⟩
      case measure=>simp [intOf];omega
     | false =>
      rw [hsx] at hcx;obtain ⟨k,rfl⟩:∃k',k=k'+1:=⟨k-1,by have:=zPm hsx;omega⟩
      have hus:=zJk hsx;have jC:=HP.out;rw [zOr hsx] at jC
      have gI:=qH (show (P++[x])++(zBz (zAG L (axL L)) k (si.set x Q) (zAG L (axL L) x)).1=(zBz (zAG L (axL L)) N s d).1∧(zBz (zAG L (axL L)) k (si.set x Q) (zAG L (axL L) x)).2=(zBz (zAG L (axL L)) N s d).2 by
       simpa using jC)
      clear hsx HP jC;have vM:I64 (x:Int):=⟨by omega,by omega⟩;have CZ:=qH vM;clear vM;have g1:=zAg (World.grownBy.refl wr (Z w1.heap.size)) (p:=⟨w1.heap.size,x,U⟩) (.inl rfl) (G Q)
      have rE:Own (wr.setCell ⟨w1.heap.size,x,U⟩ (G Q)) wo.heap.size AP p cP (zEG P):=dE.kept g1 (by
       cases hb:blk AP with
       | none=>exact .inl rfl
       | some q=>exact .inr (by have:=(dE.lt q hb).1;simp;omega))
      have uH:=hsi.stored x Q;have EJ:=zAg hgr (p:=⟨w1.heap.size,x,U⟩) (.inl rfl) (G Q);have dT:=hbi.setCell (p:=⟨w1.heap.size,x,U⟩) (Nat.le_refl _) (G Q);have vP:(wr.setCell ⟨w1.heap.size,x,U⟩ (G Q)).heap.size=wr.heap.size:=by simp
      have A9:p < 17592186044416:=by omega
      clear g1 dE hsi hgr hbi;go_wp2_with (at_builtin;refine zXq rfl _ _ rfl rE (x:Int) rfl wr.heap.size vP rfl CZ.out A9 (by omega) ?_)
      intro A4 c4 w4 hown4 aj _ _;have de:=uH.below aj Bj;have dF:=zAm EJ aj (Nat.le_refl _);have jx:=zAa dT aj (by omega);have hmap:zEG P++[(x:Int)]=zEG (P++[x]):=by simp [zEG]
      rw [hmap] at hown4;have np:zAG L (axL L) x < N:=by rw [HN.out];exact g.into (by rw [←HN.out];exact hx)
      clear rE uH EJ dT aj hmap hcx hfx vP;have k0:=(fC.moreB jx (by have:=fC.size;omega)).c0;have k1:=(fC.moreB jx (by have:=fC.size;omega)).c1;go_wp2_with fail
      refine (zSm K x A A1 n c m c1 L _ (fE.below jx) g (hX.below jx) (by rw [←HN.out];exact hx)).mono ?_;rintro e w5 ⟨rfl,ai⟩;have sK:=de.below ai de.lt;have iE:=zAm dF ai dF.size;have vZ:=hown4.below ai;have tD:=zAa jx ai (by have:=jx.size;omega);clear de dF hown4 jx ai k0 k1;generalize zAG L (axL L) x=x' at np gI ⊢;have hsl:(si.set x Q).length=N:=sK.len;go_wp2_with fail
      go_roundw
      case rel=>exact ⟨x',p+1,c4,k,A4,P++[x],si.set x Q,np,rfl,rfl,vZ,sK,iE,tD,by omega,by omega,gI⟩
      case measure=>simp [zTO];omega
  ·have BA:d=N:=by omega
   subst BA;have nE:Ws=zBK L:=by
    have:=HW.out;rw [Nat.sub_self] at this;simpa [zBc] using this
   have hq:q=(zBK L).length:=by rw [←nE,←hwk.len];simp
   rw [nE] at hwk;subst hq;clear nE HW;go_wp2_with fail
   go_ret;exact ⟨_,_,vs,rfl,hwk.mono (by have:=fC.size;omega),zAa fC.below hbw (by have:=fC.size;omega)⟩
end Go.Proofs.YtlmdfmnbcndhoaaGreatDoor
