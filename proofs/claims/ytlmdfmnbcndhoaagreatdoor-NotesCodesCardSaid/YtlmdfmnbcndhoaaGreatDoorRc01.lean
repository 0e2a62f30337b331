/-
  Lemmas, part 1. Conditions: each theorem's own.
-/
import Derived.Test.YtlmdfmnbcndhoaaGreatDoorProg
import Derived.WalkKit
import Derived.Deep.QuietTactic
import Derived.BigQuiet
import Derived.Lib.Hide
import Derived.Laws.OwnMore
import Derived.Maps.AppendAt
import Derived.Deep.AppendLies
import Derived.Deep.LoopGhost
import Derived.Deep.DeepFit
import Derived.Deep.DeepMust
import Derived.Outline
import Derived.Lib.ItoaNum
open Go.Value renaming bool→G,int→D,slice→H
open Go.IntKind renaming i64→J
open Option renaming none→U,some→Z
open Bool renaming false→E,true→Q
namespace Go.Proofs.YtlmdfmnbcndhoaaGreatDoor
open Go.RowKit
theorem qH {p:Prop} (h:p):Hid p:=Lib.hid h
def Drawn (w w':World):Prop:=∃m,w'=w.drewN m
theorem Drawn.refl (w:World):Drawn w w:=⟨0,rfl⟩
theorem zOB (w:World) (m:Nat):Drawn w (w.drewN m):=⟨m,rfl⟩
theorem zAe {B:Nat} {a w:World} (h:Below B a w) (n:Nat):Below B a (w.drewN n):=⟨h.os,h.tape,h.output,h.size,h.block⟩
theorem zAa {B C:Nat} {a b c:World} (h:Below B a b) (k:Below C b c) (hB:B≤C):Below B a c:=h.trans (k.mono hB)
theorem zCR (a:Addr) (n:Nat):(a.add n).block=a.block:=by unfold Addr.add;split<;>rfl
theorem zNs (a:Addr) (i j:Nat):(a.add i).add j=a.add (i+j):=by
 unfold Addr.add;by_cases hi:i=0<;>by_cases hj:j=0<;>simp [hi,hj,Nat.add_assoc]
def I64 (x:Int):Prop:=-9223372036854775808≤x∧x≤9223372036854775807
def Ints (w:World) (A:Option Addr) (n:Nat) (L:List Int):Prop :=
 L.length=n∧n≤17592186044416∧(∀x∈L,I64 x) ∧
 (0 < n→∃ad,A=Z ad∧ad.block < w.heap.size∧∀j x,L[j]? = Z x→w.cell? (ad.add j)=Z (D J x))
theorem Ints.len {w:World} {A:Option Addr} {n:Nat} {L:List Int} (h:Ints w A n L):L.length=n:=h.1
theorem Ints.le {w:World} {A:Option Addr} {n:Nat} {L:List Int} (h:Ints w A n L):n≤17592186044416:=h.2.1
theorem Ints.fits {w:World} {A:Option Addr} {n:Nat} {L:List Int} (h:Ints w A n L):∀x∈L,I64 x:=h.2.2.1
theorem Ints.at_ {w:World} {A:Option Addr} {n k:Nat} {L:List Int} (h:Ints w A n L) (hk:k < n) :
  ∃ad x,A=Z ad∧Hid (L[k]? = Z x)∧-9223372036854775808≤x∧x≤9223372036854775807∧w.cell? (ad.add k)=Z (D J x):=by
 obtain ⟨hl,_,hf,hc⟩:=h;obtain ⟨ad,e,_,hcell⟩:=hc (by omega);have hkl:k < L.length:=by omega
 have hx:L[k]? = Z L[k]:=List.getElem?_eq_getElem hkl;have:=hf L[k] (List.getElem_mem hkl);exact ⟨ad,L[k],e,hx,this.1,this.2,hcell k _ hx⟩
theorem Ints.keep {w w':World} {A:Option Addr} {n:Nat} {L:List Int} (h:Ints w A n L) (hs:w.heap.size≤w'.heap.size)
  (hk:∀p:Addr,p.block < w.heap.size→w'.cell? p=w.cell? p):Ints w' A n L :=
 ⟨h.1,h.2.1,h.2.2.1,fun hn=>by
  obtain ⟨ad,e,hb,hc⟩:=h.2.2.2 hn
  exact ⟨ad,e,by omega,fun j x hx=>(hk _ (by rw [zCR];exact hb)).trans (hc j x hx)⟩⟩
theorem Ints.below {w w':World} {A:Option Addr} {n:Nat} {L:List Int} (h:Ints w A n L) (hb:Below w.heap.size w w'):Ints w' A n L :=
 h.keep hb.size fun _ hp=>hb.cell hp
theorem Ints.alloc {w:World} {A:Option Addr} {n:Nat} {L:List Int} (h:Ints w A n L) (o:Obj):Ints (w.alloc o) A n L :=
 h.below ((Below.refl _ _).alloc (Nat.le_refl _) o)
theorem zAi {a b:Bool} (h:a=b):Ending.returned (G a)=.returned (G b):=by rw [h]
theorem zAu {k:IntKind} {a b:Int} (h:a=b):Ending.returned (D k a)=.returned (D k b):=by rw [h]
end Go.Proofs.YtlmdfmnbcndhoaaGreatDoor
namespace Go.Proofs.YtlmdfmnbcndhoaaGreatDoor
open Go.RowKit
structure Fg where
 p:Int
 r:Bool
 d:Int
instance : DecidableEq Fg := fun a b =>
 if h:a.p=b.p∧a.r=b.r∧a.d=b.d then .isTrue (by cases a;cases b;simp at h;simp [h])
 else .isFalse (fun e=>h (by subst e;simp))
def fgB (x y:Fg):Bool:=x.p==y.p&&x.r==y.r&&x.d==y.d
theorem zLk {x y:Fg}:fgB x y=Q↔x=y:=by
 cases x;cases y
 simp [fgB,and_assoc]
theorem zMp (x:Fg):fgB x x=Q:=zLk.2 rfl
def df:Fg:=⟨0,E,0⟩
def fa (L:List Fg) (i:Nat):Fg:=(L[i]?).getD df
theorem zXo {L:List Fg} {i:Nat} {x:Fg} (h:L[i]? = Z x):fa L i=x:=by unfold fa;rw [h];rfl
theorem zKa {L:List Fg} {i:Nat} (h:i < L.length):L[i]? = Z (fa L i):=by unfold fa;rw [List.getElem?_eq_getElem h];rfl
def zAM:List Fg→Fg→Nat
 | [],_=>0
 | x :: L,f=>if x=f then 1 else if zAM L f=0 then 0 else zAM L f+1
theorem zEY {f:Fg}:∀{L:List Fg},(∀j:Nat,L[j]?≠Z f)→zAM L f=0
 | [],_=>rfl
 | x :: L,h=>by
  have h0:x≠f:=fun e=>h 0 (by rw [e];rfl)
  have h1:zAM L f=0:=zEY fun j e=>h (j+1) (by simpa using e)
  rw [zAM,if_neg h0,if_pos h1]
theorem zHd {f:Fg}:∀{L:List Fg} {i:Nat},L[i]? = Z f→(∀j,j < i→L[j]?≠Z f)→zAM L f=i+1
 | [],i,h,_=>by simp at h
 | x :: L,0,h,_=>by
  have:x=f:=by simpa using h
  rw [zAM,if_pos this]
 | x :: L,i+1,h,hj=>by
  have h0:x≠f:=fun e=>hj 0 (by omega) (by rw [e];rfl)
  have h1:zAM L f=i+1:=zHd (by simpa using h) fun j hji e=>hj (j+1) (by omega) (by simpa using e)
  rw [zAM,if_neg h0,h1,if_neg (by omega)]
theorem zHe {f:Fg}:∀{L:List Fg} {i:Nat},zAM L f=i+1→L[i]? = Z f∧∀j,j < i→L[j]?≠Z f
 | [],i,h=>by simp [zAM] at h
 | x :: L,i,h=>by
  rw [zAM] at h;by_cases h0:x=f
  ·rw [if_pos h0] at h;obtain rfl:i=0:=by omega
   exact ⟨by rw [h0];rfl,fun j hj=>by omega⟩
  ·rw [if_neg h0] at h;by_cases h1:zAM L f=0
   ·rw [if_pos h1] at h;omega
   ·rw [if_neg h1] at h;obtain ⟨k,rfl⟩:∃k,i=k+1:=⟨i-1,by omega⟩
    obtain ⟨h2,h3⟩:=zHe (L:=L) (i:=k) (f:=f) (by omega);refine ⟨by simpa using h2,fun j hj=>?_⟩;rcases j with _ | j
    ·intro e;exact h0 (by simpa using e)
    ·intro e;exact h3 j (by omega) (by simpa using e)
theorem zKb {f:Fg} {L:List Fg} (h:zAM L f=0):∀j:Nat,L[j]?≠Z f:=by
 intro j e;have hx:∃i:Nat,L[i]? = Z f∧∀j:Nat,j < i→L[j]?≠Z f:=by
  induction j using Nat.strongRecOn with
  | _ j ih =>
   by_cases hm:∃k:Nat,k < j∧L[k]? = Z f
   ·obtain ⟨k,hk,hkf⟩:=hm;exact ih k hk hkf
   ·exact ⟨j,e,fun k hk e2=>hm ⟨k,hk,e2⟩⟩
 obtain ⟨i,h1,h2⟩:=hx;have:=zHd h1 h2;omega
theorem zDo {f:Fg} {L:List Fg}:zAM L f≤L.length:=by
 cases h:zAM L f with
 | zero=>omega
 | succ i=>have:=(List.getElem?_eq_some_iff.1 (zHe h).1).1;omega
theorem zOC {L:List Fg} {i:Nat} (hi:i < L.length):zAM (L.take i) (fa L i)=0↔zAM L (fa L i)=i+1:=by
 constructor
 ·intro h;refine zHd (zKa hi) fun j hj e=>?_
  have:=zKb h j;rw [List.getElem?_take_of_lt hj] at this;exact this e
 ·intro h;refine zEY fun j e=>?_
  rw [List.getElem?_take] at e;split at e
  ·rename_i hj;exact (zHe h).2 j hj e
  ·cases e
def zAo (f:Fg):Bool:=decide (1≤f.p)&&decide (f.p≤9)&&decide (0≤f.d)&&decide (f.d≤6)
theorem zAs {f:Fg}:zAo f=Q↔1≤f.p∧f.p≤9∧0≤f.d∧f.d≤6:=by simp [zAo,and_assoc]
def zEZ (L:List Fg) (i:Nat):Bool:=zAo (fa L i)&&decide (zAM (L.take i) (fa L i)=0)
def frOk (L:List Fg) (re lo:Int):Prop:=L.length≤40∧0≤re∧re≤40∧1≤lo∧lo≤20∧∀i,i < L.length→zEZ L i=Q
def frB (L:List Fg) (re lo:Int):Bool :=
 decide (L.length≤40)&&decide (0≤re)&&decide (re≤40)&&decide (1≤lo)&&decide (lo≤20)&&(List.range L.length).all fun i=>zEZ L i
theorem zCT {L:List Fg} {re lo:Int}:frB L re lo=Q↔frOk L re lo:=by simp [frB,frOk,and_assoc]
theorem frOk.there {L:List Fg} {re lo:Int} (h:frOk L re lo) {i:Nat} (hi:i < L.length):zAo (fa L i)=Q:=by
 have:=h.2.2.2.2.2 i hi;unfold zEZ at this;simp only [Bool.and_eq_true] at this;exact this.1
def zAl (f:Fg):List UInt8:=(if f.p=1 then [] else Lib.itoa f.p)++(if f.r then 82 else 76) :: Lib.itoa f.d
end Go.Proofs.YtlmdfmnbcndhoaaGreatDoor
namespace Go.Proofs.YtlmdfmnbcndhoaaGreatDoor
open Go.RowKit
theorem zLl:(Tryz.prog.info? 3).map (fun i=>(i.zero,i.size,i.bytes))=Z (Z (D J 0),1,8):=by kernel_rfl
structure Own (w:World) (base:Nat) (A:Option Addr) (n c:Nat) (L:List Int):Prop where
 row:w.ownsRow base 3 1 (H A n c) n (L.map (Value.int J))
 len:L.length=n
 le:n≤17592186044416
 fits:∀x∈L,I64 x
def blk:Option Addr→Option Nat
 | some a=>Z a.block
 | none=>U
theorem zFM (A:Option Addr) (n c:Nat):Value.ownBlock (H A n c)=blk A:=by cases A<;>rfl
section
variable {w w':World} {base:Nat} {A:Option Addr} {n c:Nat} {L:List Int}
theorem Own.nil (w:World) (base:Nat):Own w base U 0 0 []:=⟨World.ownsRow_nil _ _ _ _,rfl,by omega,by simp⟩
theorem Own.ints (h:Own w base A n c L):Ints w A n L:=by
 refine ⟨h.len,h.le,h.fits,fun hn=>?_⟩;obtain ⟨g,cap,hv,_,hlt⟩:=h.row.form hn;have hA:A=Z ⟨g,0,U⟩:=by injection hv
 subst hA;refine ⟨_,rfl,hlt,fun j x hx=>?_⟩;exact h.row.cells (g:=g) rfl j _ (by rw [List.getElem?_map,hx];rfl)
theorem Own.alloc (h:Own w base A n c L) (o:Obj):Own (w.alloc o) base A n c L:=⟨h.row.alloc o,h.len,h.le,h.fits⟩
theorem Own.drew (h:Own w base A n c L):Own w.drew base A n c L:=⟨h.row,h.len,h.le,h.fits⟩
theorem Own.lt (h:Own w base A n c L):∀k,blk A=Z k→base≤k∧k < w.heap.size:=fun k hk=>h.row.lt k (by rw [zFM];exact hk)
theorem Own.kept {row:Option Nat} (h:Own w base A n c L) (hg:w.grownBy w' row) (hne:blk A=U∨blk A≠row):Own w' base A n c L :=
 ⟨h.row.kept hg (by rw [zFM];exact hne),h.len,h.le,h.fits⟩
theorem Own.below (h:Own w base A n c L) (hb:Below w.heap.size w w'):Own w' base A n c L:=by
 refine h.kept (row:=U) ⟨hb.os,hb.tape,hb.output,hb.size,fun k hk _=>hb.block k hk⟩ ?_
 cases blk A
 ·exact .inl rfl
 ·exact .inr (by simp)
theorem Own.mono {base':Nat} (h:Own w base A n c L) (hb:base'≤base):Own w base' A n c L:=by
 refine ⟨⟨h.row.1,?_⟩,h.len,h.le,h.fits⟩;rcases h.row.2 with h1 | ⟨g,cap,cur,hv,hg,r⟩
 ·exact .inl h1
 ·exact .inr ⟨g,cap,cur,hv,by omega,r⟩
theorem Own.cap (h:Own w base A n c L):n≤c:=by
 rcases h.row.2 with ⟨h1,h2⟩ | ⟨g,cap,cur,hv,_,_,h2,_⟩
 ·omega
 ·injection hv with _ _ h3;omega
end
theorem app1 {w:World} {ops:Array Oper} {rest:List Oper} {o:Oper} {a:Act} {ZS:Exit→Act→World→Prop} (hgd:o.guard=U) (s x:Operand)
  (ho:o.op=.call { callee:=.builtin .append,args:=#[s,x],argTypes:=#[79,79] })
  {base:Nat} {A:Option Addr} {n c:Nat} {L:List Int} (hown:Own w base A n c L) (y:Int) (hs:a.eval s=H A n c)
  {ad:Addr} {cc:Nat} (hx:a.eval x=H (Z ad) 1 cc) (hcell:w.cell? ad=Z (D J y)) (hy:I64 y) (hn:n < 17592186044416) (hbase:base≤w.heap.size)
  (h:∀A' c' w',Own w' base A' (n+1) c' (L++[y])→Below base w w'→w.grownBy w' (blk A)→(blk A'=blk A∨blk A'=Z w.heap.size)→wpList Tryz.prog ops ZS rest (a.put o.dst (H A' (n+1) c')) w') :
  wpList Tryz.prog ops ZS (o :: rest) a w:=by
 obtain ⟨i0,hi,aT,az,bt⟩:=info_parts zLl;have hnews:∀j u,([Value.int J y]:List Value)[j]? = Z u→w.cell? (ad.add j)=Z u:=by
  intro j u hj
  match j,hj with
  | 0,hj=>simp at hj;subst hj;simpa [Addr.add] using hcell
 refine wpList_append_lies w hgd s x 79 ho base 3 i0 (D J 0) 1 8 Tryz.underlying79 hi aT az bt rfl (by decide) (H A n c) n _ hs hown.row ad 1 cc [D J y] hx rfl hnews
  (by intro u hu;simp at hu;subst hu;rfl) (by decide) (by unfold maxLen;omega) (by omega) hbase w.heap.size rfl ?_
 intro g cap w' h1 h2 h3 h4;rw [zFM] at h2 h3;refine h _ _ _ ⟨by simpa using h1,by simp [hown.len],by omega,?_⟩ ((Below.refl _ _).grown h2 hbase (fun k hk=>(hown.lt k hk).1)) h2 ?_
 ·intro z hz;rcases List.mem_append.1 hz with hz | hz
  ·exact hown.fits z hz
  ·simp at hz;subst hz;exact hy
 ·rcases h3 with h3 | h3
  ·exact .inl (by rw [h3];rfl)
  ·exact .inr (by rw [←h3];rfl)
theorem zXp {w:World} {ops:Array Oper} {rest:List Oper} {o:Oper} {a:Act} {ZS:Exit→Act→World→Prop} (hgd:o.guard=U) (s x:Operand)
  (ho:o.op=.call { callee:=.builtin .append,args:=#[s,x],argTypes:=#[79,79] })
  {base:Nat} {A:Option Addr} {n c:Nat} {L:List Int} (hown:Own w base A n c L) (y:Int) (hs:a.eval s=H A n c)
  (hx:a.eval x=H (Z ⟨w.heap.size,0,U⟩) 1 1) (hy:I64 y) (hn:n < 17592186044416) (hbase:base≤w.heap.size)
  (h:∀A' c' w',Own w' base A' (n+1) c' (L++[y])→Below base w w'→(w.alloc (.cells #[D J y] 3)).grownBy w' (blk A)→(blk A'=blk A∨blk A'=Z (w.heap.size+1))→wpList Tryz.prog ops ZS rest (a.put o.dst (H A' (n+1) c')) w') :
  wpList Tryz.prog ops ZS (o :: rest) a (w.alloc (.cells #[D J y] 3)) :=
 app1 hgd s x ho (hown.alloc _) y hs hx (by rw [World.cell?_alloc_at _ _ _ _ rfl];rfl) hy hn (by simp;omega) fun A' c' w' h1 h2 h3 h4 =>
  h A' c' w' h1 (((Below.refl _ _).alloc hbase _).trans h2) h3 (by simpa using h4)
theorem zXq {w:World} {ops:Array Oper} {rest:List Oper} {o:Oper} {a:Act} {ZS:Exit→Act→World→Prop} (hgd:o.guard=U) (s x:Operand)
  (ho:o.op=.call { callee:=.builtin .append,args:=#[s,x],argTypes:=#[79,79] })
  {base:Nat} {A:Option Addr} {n c:Nat} {L:List Int} (hown:Own w base A n c L) (y:Int) (hs:a.eval s=H A n c)
  (ZW:Nat) (hH:w.heap.size=ZW) (hx:a.eval x=H (Z ⟨ZW,0,U⟩) 1 1) (hy:I64 y) (hn:n < 17592186044416) (hbase:base≤w.heap.size)
  (h:∀A' c' w',Own w' base A' (n+1) c' (L++[y])→Below base w w'→(w.alloc (.cells #[D J y] 3)).grownBy w' (blk A)→(blk A'=blk A∨blk A'=Z (w.heap.size+1))→wpList Tryz.prog ops ZS rest (a.put o.dst (H A' (n+1) c')) w') :
  wpList Tryz.prog ops ZS (o :: rest) a (w.alloc (.cells #[D J y] 3)) :=
 zXp hgd s x ho hown y hs (by rw [hH];exact hx) hy hn hbase h
theorem zFN {P:Program} (w:World) (base:Nat) (t ty e:TypeId) (i:TypeInfo) (size:Nat) (ht:P.underlying t=Z (.slice e)) (hi:P.info? e=Z i)
  (v:Value) (n:Nat) (xs:List Value) (hown:w.ownsRow base e size v n xs) (c:Nat):(Builtin.append_ #[t,t] ty #[v,H U 0 c]).run P w=.ok v w:=by
 rcases hown.2 with ⟨rfl,rfl⟩ | ⟨g,cap,cur,rfl,_,_,hnc,_⟩
 ·simp [Builtin.append_,run_underlying ht,sizeOf,typeInfo,hi,Builtin.lenOf,Builtin.firstCells]
 ·simp [Builtin.append_,run_underlying ht,sizeOf,typeInfo,hi,Builtin.lenOf,Builtin.firstCells,hnc,storeCells]
theorem zRv {w:World} {base:Nat} {A:Option Addr} {n c:Nat} {L:List Int} (hown:Own w base A n c L) {B:Option Addr} {m d:Nat} {M:List Int} (hB:Ints w B m M)
  (hn:n+m≤17592186044416) (hbase:base≤w.heap.size) :
  ∃A' c' w',(Builtin.append_ #[79,79] 79 #[H A n c,H B m d]).run Tryz.prog w=.ok (H A' (n+m) c') w'∧Own w' base A' (n+m) c' (L++M)∧Below base w w'∧w.grownBy w' (blk A)∧(blk A'=blk A∨blk A'=Z w.heap.size):=by
 obtain ⟨i0,hi,aT,az,bt⟩:=info_parts zLl;have hfit:∀x∈L++M,I64 x:=fun z hz=>(List.mem_append.1 hz).elim (hown.fits z) (hB.fits z)
 have hlen:(L++M).length=n+m:=by rw [List.length_append,hown.len,hB.len]
 rcases B with _ | ad
 ·have hm:m=0:=by
   rcases Nat.eq_zero_or_pos m with h0 | h0
   ·exact h0
   ·obtain ⟨ad,h,_⟩:=hB.2.2.2 h0
    cases h
  subst hm;have hM:M=[]:=List.eq_nil_of_length_eq_zero hB.len;subst hM;exact ⟨A,c,w,zFN w base _ _ _ i0 1 Tryz.underlying79 hi _ n _ hown.row d,by simpa using hown,Below.refl _ _,World.grownBy.refl w _,.inl rfl⟩
 ·have hcells:∀j u,(M.map (Value.int J))[j]? = Z u→w.cell? (ad.add j)=Z u:=by
   intro j u hu;rw [List.getElem?_map] at hu;obtain ⟨x,hx,rfl⟩:=Option.map_eq_some_iff.1 hu;have hjm:j < M.length:=(List.getElem?_eq_some_iff.1 hx).1;have hpos:0 < m:=by have:=hB.len;omega
   obtain ⟨ad',h,_,hc⟩:=hB.2.2.2 hpos;obtain rfl:=Option.some.inj h;exact hc j x hx
  obtain ⟨v',w',hrun,h2,h3,h4,h5⟩:=run_append_own_at (P:=Tryz.prog) w base 79 79 3 i0 (D J 0) 1 8 Tryz.underlying79 hi aT az bt rfl (by decide) _ n _ hown.row ad m d (M.map (Value.int J)) (by simp [hB.len]) hcells
   (ints_oneCell _ _) (by unfold maxLen;omega) (by omega) hbase
  have hform:∃A' c',v'=H A' (n+m) c':=by
   rcases h2.2 with ⟨hv,hz⟩ | ⟨g,cap,cur,hv,_⟩
   ·rw [hz];exact ⟨U,0,hv⟩
   ·exact ⟨_,_,hv⟩
  obtain ⟨A',c',rfl⟩:=hform;rw [zFM] at h3;simp only [zFM] at h5;exact ⟨A',c',w',hrun,⟨by simpa using h2,hlen,hn,hfit⟩,(Below.refl _ _).grown h3 hbase (fun k hk=>(hown.lt k hk).1),h3,h5⟩
theorem zTR {w:World} {o:Oper} {a:Act} {K:Act→World→Prop} {ZS:Exit→Act→World→Prop} (s x:Operand)
  (ho:o.op=.call { callee:=.builtin .append,args:=#[s,x],argTypes:=#[79,79] }) (hty:o.type=79)
  {base:Nat} {A:Option Addr} {n c:Nat} {L:List Int} (hown:Own w base A n c L) {B:Option Addr} {m d:Nat} {M:List Int} (hB:Ints w B m M) (hs:a.eval s=H A n c)
  (hx:a.eval x=H B m d) (N:Nat) (hN:n+m=N) (hn:N≤17592186044416) (hbase:base≤w.heap.size)
  (h:∀A' c' w',Own w' base A' N c' (L++M)→Below base w w'→w.grownBy w' (blk A)→(blk A'=blk A∨blk A'=Z w.heap.size)→K (a.put o.dst (H A' N c')) w') :
  o.wp Tryz.prog a w K ZS:=by
 subst hN;obtain ⟨A',c',w',hrun,h1,h2,h3,h4⟩:=zRv (d:=d) hown hB hn hbase;unfold Oper.wp execOp;simp only [ho,hty,resolve,invoke,builtin,Sem.run_bind,Sem.run_pure,Result.andThen_ok,List.map_toArray,List.map_cons,List.map_nil,hs,hx,hrun];exact h A' c' w' h1 h2 h3 h4
theorem zXr {w:World} {ops:Array Oper} {o:Oper} {a:Act} {K:Act→World→Prop} {ZS:Exit→Act→World→Prop} {ZT:Prop} (hgd:o.guard=U) (s x:Operand)
  (ho:o.op=.call { callee:=.builtin .append,args:=#[s,x],argTypes:=#[79,79] }) (hty:o.type=79)
  {base:Nat} {A:Option Addr} {n c:Nat} {L:List Int} (hown:Own w base A n c L) {B:Option Addr} {m d:Nat} {M:List Int} (hB:Ints w B m M) (hs:a.eval s=H A n c)
  (hx:a.eval x=H B m d) (N:Nat) (hN:n+m=N) (hn:N≤17592186044416) (hbase:base≤w.heap.size)
  (h:∀A' c' w',Own w' base A' N c' (L++M)→Below base w w'→w.grownBy w' (blk A)→(blk A'=blk A∨blk A'=Z w.heap.size)→K (a.put o.dst (H A' N c')) w') :
  if Region.wanted o (yielded ops a.tmps)=Q then Oper.wp Tryz.prog o a w K ZS else ZT:=by
 have hw:Region.wanted o (yielded ops a.tmps)=Q:=by simp [Region.wanted,hgd]
 rw [if_pos hw];exact zTR s x ho hty hown hB hs hx N hN hn hbase h
theorem Ints.cut {w:World} {A:Option Addr} {n i j c:Nat} {L:List Int} (h:Ints w A n L) (hij:i≤j) (hj:j≤n) (hc:n≤c) :
  Ints w (if c=i then A else A.map (·.add i)) (j-i) ((L.take j).drop i):=by
 have hl:=h.len;refine ⟨by simp [hl];omega,by have:=h.le;omega,fun x hx=>h.fits x (List.mem_of_mem_take (List.mem_of_mem_drop hx)),fun hn=>?_⟩;obtain ⟨ad,rfl,hb,hcell⟩:=h.2.2.2 (by omega);rw [if_neg (by omega)];refine ⟨ad.add i,rfl,by rw [zCR];exact hb,fun t x hx=>?_⟩;rw [zNs];rw [List.getElem?_drop,List.getElem?_take] at hx;split at hx
 ·exact hcell _ x hx
 ·cases hx
theorem Ints.from {w:World} {A:Option Addr} {n i c:Nat} {L:List Int} (h:Ints w A n L) (hi:i≤n) (hc:n≤c) :
  Ints w (if c=i then A else A.map (·.add i)) (n-i) (L.drop i):=by
 have:=h.cut (i:=i) (j:=n) hi (Nat.le_refl _) hc
 rwa [List.take_of_length_le (by rw [h.len];exact Nat.le_refl _)] at this
theorem Ints.to {w:World} {A:Option Addr} {n i:Nat} {L:List Int} (h:Ints w A n L) (hi:i≤n):Ints w A i (L.take i):=by
 refine ⟨by simp [h.len];omega,by have:=h.le;omega,fun x hx=>h.fits x (List.mem_of_mem_take hx),fun hn=>?_⟩;obtain ⟨ad,rfl,hb,hcell⟩:=h.2.2.2 (by omega);refine ⟨ad,rfl,hb,fun t x hx=>hcell t x ?_⟩;rw [List.getElem?_take] at hx;split at hx
 ·exact hx
 ·cases hx
end Go.Proofs.YtlmdfmnbcndhoaaGreatDoor
namespace Go.Proofs.YtlmdfmnbcndhoaaGreatDoor
def NoneTo (p:Nat→Bool) (n:Nat):Prop:=∀i,i < n→p i=E
theorem NoneTo.zero (p:Nat→Bool):NoneTo p 0:=fun i h=>by omega
theorem NoneTo.succ {p:Nat→Bool} {n:Nat} (h:NoneTo p n) (hn:p n=E):NoneTo p (n+1):=fun i hi=>by
 by_cases e:i=n
 ·subst e;exact hn
 ·exact h i (by omega)
def zGo (p:Nat→Bool) (n:Nat):Int:=match (List.range n).find? p with
 | some i=>i
 | none=>-1
theorem zHf {p:Nat→Bool} {n:Nat} (h:NoneTo p n):(List.range n).find? p=U:=by
 rw [List.find?_eq_none];intro i hi;rw [List.mem_range] at hi;rw [h i hi];simp
theorem zMq {p:Nat→Bool} {n k:Nat} (h:NoneTo p k) (hk:p k=Q) (hn:k < n):(List.range n).find? p=Z k:=by
 induction n with
 | zero=>omega
 | succ n ih =>
  rw [List.range_succ,List.find?_append];by_cases e:k < n
  ·rw [ih e];rfl
  ·have:k=n:=by omega
   subst this;rw [zHf h];simp [hk]
theorem zEF {p:Nat→Bool} {n:Nat} (h:NoneTo p n):zGo p n = -1:=by unfold zGo;rw [zHf h]
theorem zFO {p:Nat→Bool} {n k:Nat} (h:NoneTo p k) (hk:p k=Q) (hn:k < n):zGo p n=k:=by unfold zGo;rw [zMq h hk hn]
theorem zKc (p:Nat→Bool) (n:Nat):(zGo p n = -1∧NoneTo p n)∨∃k,k < n∧zGo p n=(k:Int)∧NoneTo p k∧p k=Q:=by
 induction n with
 | zero=>exact .inl ⟨zEF (NoneTo.zero p),NoneTo.zero p⟩
 | succ n ih =>
  rcases ih with ⟨_,h⟩ | ⟨k,hk,he,hn,hp⟩
  ·cases hp:p n with
   | false=>exact .inl ⟨zEF (h.succ hp),h.succ hp⟩
   | true=>exact .inr ⟨n,by omega,zFO h hp (by omega),h,hp⟩
  ·exact .inr ⟨k,by omega,zFO hn hp (by omega),hn,hp⟩
def zDp (p:Nat→Bool) (n:Nat):Bool:=(List.range n).all p
theorem zNt (p:Nat→Bool) (n:Nat):zDp p (n+1)=(zDp p n&&p n):=by
 unfold zDp;rw [List.range_succ];simp
theorem zNu {p:Nat→Bool} {n:Nat} (h:zDp p n=Q) (hn:p n=Q):zDp p (n+1)=Q:=by rw [zNt,h,hn];rfl
theorem zDq {p:Nat→Bool} {n k:Nat} (hk:k < n) (h:p k=E):zDp p n=E:=by
 unfold zDp;rw [List.all_eq_false];exact ⟨k,List.mem_range.2 hk,by simp [h]⟩
theorem zAF {p:Nat→Bool} {n:Nat}:zDp p n=Q↔∀i,i < n→p i=Q:=by
 unfold zDp;rw [List.all_eq_true];exact ⟨fun h i hi=>h i (List.mem_range.2 hi),fun h i hi=>h i (List.mem_range.1 hi)⟩
def zAf (p:Nat→Bool):Nat→Nat
 | 0=>0
 | n+1=>zAf p n+(if p n then 1 else 0)
theorem zBs (p:Nat→Bool) (n:Nat):zAf p n≤n:=by
 induction n with
 | zero=>exact Nat.le_refl _
 | succ n ih=>unfold zAf;split<;>omega
theorem zAA {p:Nat→Bool} {n:Nat} (h:p n=Q):zAf p (n+1)=zAf p n+1:=by simp [zAf,h]
theorem zAp {p:Nat→Bool} {n:Nat} (h:p n=E):zAf p (n+1)=zAf p n:=by simp [zAf,h]
end Go.Proofs.YtlmdfmnbcndhoaaGreatDoor
namespace Go.Proofs.YtlmdfmnbcndhoaaGreatDoor
theorem zFa {p q:Nat→Bool} {n:Nat} (h:∀m,m < n→p m=q m):zAf p n=zAf q n:=by
 induction n with
 | zero=>rfl
 | succ n ih =>
  unfold zAf;rw [ih (fun m hm=>h m (by omega)),h n (by omega)]
theorem zIS {p:Nat→Bool} {n:Nat} (h:∀m,m < n→p m=E):zAf p n=0:=by
 induction n with
 | zero=>rfl
 | succ n ih=>rw [zAp (h n (by omega))];exact ih (fun m hm=>h m (by omega))
theorem zTn {p q:Nat→Bool} {n:Nat} (h:∀m,m < n→p m=Q→q m=Q):zAf p n≤zAf q n:=by
 induction n with
 | zero=>exact Nat.le_refl _
 | succ n ih =>
  have:=ih (fun m hm=>h m (by omega));have h2:=h n (by omega);unfold zAf
  cases hp:p n<;>cases hq:q n<;>simp [hp,hq] at h2 ⊢<;>omega
theorem zTS {p q:Nat→Bool} {n i:Nat} (h:∀m,m < n→p m=Q→q m=Q) (hi:i < n) (hq:q i=Q) (hp:p i=E):zAf p n+1≤zAf q n:=by
 induction n with
 | zero=>omega
 | succ n ih =>
  by_cases e:i=n
  ·subst e;rw [zAp hp,zAA hq];have:=zTn (n:=i) (fun m hm=>h m (by omega));omega
  ·have:=ih (fun m hm=>h m (by omega)) (by omega);have h2:=h n (by omega);unfold zAf
   cases hp:p n<;>cases hq:q n<;>simp [hp,hq] at h2 ⊢<;>omega
theorem zIt {p:Nat→Bool} {n i:Nat} (hi:i < n) (hp:p i=Q) (h:∀m,m < n→p m=Q→m=i):zAf p n=1:=by
 induction n with
 | zero=>omega
 | succ n ih =>
  by_cases e:i=n
  ·subst e;rw [zAA hp,zIS];intro m hm
   cases hq:p m with
   | false=>rfl
   | true=>have:=h m (by omega) hq;omega
  ·have hn:p n=E:=by
    cases hq:p n with
    | false=>rfl
    | true=>have:=h n (by omega) hq;omega
   rw [zAp hn];exact ih (by omega) (fun m hm=>h m (by omega))
theorem zOD {p q r:Nat→Bool} {n:Nat} (h:∀m,m < n→r m=(p m||q m)) (hd:∀m,m < n→¬(p m=Q∧q m=Q)):zAf r n=zAf p n+zAf q n:=by
 induction n with
 | zero=>rfl
 | succ n ih =>
  have:=ih (fun m hm=>h m (by omega)) (fun m hm=>hd m (by omega));have h2:=h n (by omega);have h3:=hd n (by omega);unfold zAf
  cases hp:p n<;>cases hq:q n<;>simp [hp,hq] at h2 h3<;>simp [h2]<;>omega
theorem zKd {p:Nat→Bool} {n i:Nat} (hi:i < n) (hp:p i=Q):0 < zAf p n:=by
 have h:∀m,m < n→(fun _:Nat=>E) m=Q→p m=Q:=fun _ _ e=>by cases e
 have:=zTS h hi hp rfl;omega
theorem zTT {p:Nat→Bool} {n:Nat} (h:0 < zAf p n):∃i,i < n∧p i=Q:=by
 induction n with
 | zero=>exact absurd h (by simp [zAf])
 | succ n ih =>
  cases hp:p n with
  | true=>exact ⟨n,by omega,hp⟩
  | false =>
   rw [zAp hp] at h;obtain ⟨i,hi,hpi⟩:=ih h;exact ⟨i,by omega,hpi⟩
theorem zOE {p:Nat→Bool} {n i j:Nat} (h:zAf p n≤1) (hi:i < n) (hj:j < n) (hpi:p i=Q) (hpj:p j=Q):i=j:=by
 rcases Nat.decEq i j with e | e
 ·have h1:zAf (fun m=>decide (m=i)) n=1:=zIt hi (by simp) (by intro m _ hm;simpa using hm);have h2:=zTS (p:=fun m=>decide (m=i)) (q:=p) (n:=n) (i:=j) (fun m _ hm=>by simp at hm;subst hm;exact hpi) hj hpj (by simp;omega);omega
 ·exact e
theorem zTU {p q:Nat→Bool} {n:Nat} (h:∀m,m < n→p m=Q→q m=Q) (e:zAf q n≤zAf p n):∀m,m < n→q m=Q→p m=Q:=by
 intro m hm hq
 cases hp:p m with
 | true=>rfl
 | false=>have:=zTS h hm hq hp;omega
def zGJ (f:Nat→Nat):Nat→Nat
 | 0=>0
 | n+1=>zGJ f n+f n
theorem zRw (f g:Nat→Nat) (n:Nat):zGJ (fun i=>f i+g i) n=zGJ f n+zGJ g n:=by
 induction n with
 | zero=>rfl
 | succ n ih=>simp only [zGJ];rw [ih];omega
theorem zEg {f g:Nat→Nat} {n:Nat} (h:∀i,i < n→f i=g i):zGJ f n=zGJ g n:=by
 induction n with
 | zero=>rfl
 | succ n ih=>simp only [zGJ];rw [ih (fun i hi=>h i (by omega)),h n (by omega)]
theorem zHg {f:Nat→Nat} {n:Nat} (h:∀i,i < n→f i=0):zGJ f n=0:=by
 induction n with
 | zero=>rfl
 | succ n ih=>simp only [zGJ];rw [ih (fun i hi=>h i (by omega)),h n (by omega)]
theorem zRx {f:Nat→Nat} {n i:Nat} (hi:i < n) (h:∀j,j < n→j≠i→f j=0):zGJ f n=f i:=by
 induction n with
 | zero=>omega
 | succ n ih =>
  simp only [zGJ];by_cases e:i=n
  ·subst e;rw [zHg (fun j hj=>h j (by omega) (by omega))];omega
  ·rw [ih (by omega) (fun j hj hne=>h j (by omega) hne),h n (by omega) (fun h'=>e h'.symm)];omega
theorem zTV {f:Nat→Nat} {n c:Nat} (h:∀i,i < n→f i≤c):zGJ f n≤n*c:=by
 induction n with
 | zero=>simp [zGJ]
 | succ n ih =>
  simp only [zGJ];have:=ih (fun i hi=>h i (by omega));have h2:=h n (by omega);rw [Nat.add_mul];omega
theorem zOF {f:Nat→Nat} {n c:Nat} (h:∀i,i < n→f i≤c) (e:n*c≤zGJ f n):∀i,i < n→f i=c:=by
 induction n with
 | zero=>intro i hi;omega
 | succ n ih =>
  simp only [zGJ] at e;have h1:=zTV (f:=f) (n:=n) (c:=c) (fun i hi=>h i (by omega));have h2:=h n (by omega);rw [Nat.add_mul] at e;intro i hi;by_cases e':i=n
  ·subst e';omega
  ·exact ih (fun i hi=>h i (by omega)) (by omega) i (by omega)
theorem zOG {f:Nat→Nat} {n:Nat} (h:∀i,i < n→f i % 2=0):zGJ f n % 2=0:=by
 induction n with
 | zero=>rfl
 | succ n ih =>
  have:=ih (fun i hi=>h i (by omega));have h2:=h n (by omega);simp only [zGJ];omega
theorem zEh {p:Nat→Bool} {c:Nat→Nat} {n k:Nat} (h:∀m,m < n→p m=Q→c m < k):zAf p n=zGJ (fun d=>zAf (fun m=>p m&&c m==d) n) k:=by
 induction n with
 | zero=>exact (zHg (fun _ _=>rfl)).symm
 | succ n ih =>
  have ih':=ih (fun m hm=>h m (by omega));simp only [zAf];rw [zRw,ih']
  congr 1
  by_cases hp:p n=Q
  ·rw [if_pos hp,zRx (i:=c n) (h n (by omega) hp) (by
    intro j _ hj
    have:¬c n=j:=fun e=>hj e.symm
    simp [this])]
   simp [hp]
  ·rw [if_neg hp];exact (zHg (fun _ _=>by simp [hp])).symm
theorem zVL {p:Nat→Bool} {f:Nat→Int} {n:Nat} (hb:∀m,m < n→p m=Q→1≤f m∧f m≤zAf p n) (hd:∀i j,i < n→j < n→p i=Q→p j=Q→f i=f j→i=j) :
  ∀v:Nat,v≤zAf p n→zAf (fun m=>p m&&decide (f m≤(v:Int))) n=v:=by
 have step:∀v:Nat,zAf (fun m=>p m&&decide (f m≤((v+1:Nat):Int))) n≤zAf (fun m=>p m&&decide (f m≤(v:Int))) n+1:=by
  intro v;rw [zOD (p:=fun m=>p m&&decide (f m≤(v:Int))) (q:=fun m=>p m&&decide (f m=((v+1:Nat):Int)))]
  ·refine Nat.add_le_add_left ?_ _;by_cases hx:∃k,k < n∧(p k&&decide (f k=((v+1:Nat):Int)))=Q
   ·obtain ⟨k,hk,hp⟩:=hx;simp at hp;refine Nat.le_of_eq (zIt hk (by simp [hp]) fun m hm hpm=>?_);simp at hpm;exact hd m k hm hk hpm.1 hp.1 (by omega)
   ·rw [zIS]
    ·omega
    ·intro m hm
     cases hq:(p m&&decide (f m=((v+1:Nat):Int))) with
     | false=>rfl
     | true=>exact absurd ⟨m,hm,hq⟩ hx
  ·intro m _
   cases p m
   ·rfl
   ·simp only [Bool.true_and];rw [←Bool.decide_or];apply decide_eq_decide.2;omega
  ·intro m _ ⟨h1,h2⟩;simp at h1 h2;omega
 have h0:zAf (fun m=>p m&&decide (f m≤((0:Nat):Int))) n=0:=zIS fun m hm=>by
  cases hp:p m with
  | false=>rfl
  | true =>
   have:=(hb m hm hp).1;have:¬f m≤((0:Nat):Int):=by omega
   simp only [this,decide_false,Bool.and_false]
 have hup:∀v k:Nat,zAf (fun m=>p m&&decide (f m≤((v+k:Nat):Int))) n≤zAf (fun m=>p m&&decide (f m≤(v:Int))) n+k:=by
  intro v k
  induction k with
  | zero=>exact Nat.le_refl _
  | succ k ih =>
   have:=step (v+k);rw [show v+(k+1)=v+k+1 by omega];omega
 have hall:zAf (fun m=>p m&&decide (f m≤((zAf p n:Nat):Int))) n=zAf p n:=zFa fun m hm=>by
  cases hp:p m with
  | false=>rfl
  | true=>have:=(hb m hm hp).2;simp [this]
 intro v hv;have a1:=hup 0 v;rw [Nat.zero_add] at a1;have a2:=hup v (zAf p n-v);rw [show v+(zAf p n-v)=zAf p n by omega,hall] at a2;omega
end Go.Proofs.YtlmdfmnbcndhoaaGreatDoor
namespace Go.Proofs.YtlmdfmnbcndhoaaGreatDoor
structure Lt where
 kind:Int
 gate:Int
 rank:Int
 id:Int
 sign:Int
 over:Bool
instance : DecidableEq Lt := fun a b =>
 if h:a.kind=b.kind∧a.gate=b.gate∧a.rank=b.rank∧a.id=b.id∧a.sign=b.sign∧a.over=b.over then
  .isTrue (by cases a;cases b;simp at h;simp [h])
 else .isFalse (fun e=>h (by subst e;simp))
def dl:Lt:=⟨0,0,0,0,0,E⟩
def la (L:List Lt) (i:Nat):Lt:=(L[i]?).getD dl
theorem zRy {L:List Lt} {i:Nat} {x:Lt} (h:L[i]? = Z x):la L i=x:=by unfold la;rw [h];rfl
def isP (l:Lt):Bool:=l.kind==1
def isC (l:Lt):Bool:=l.kind==2
theorem zOH {l:Lt} (h:isP l=Q):isC l=E:=by unfold isP at h;unfold isC;simp at h ⊢;omega
def pN (L:List Lt) (m:Nat):Nat:=zAf (fun i=>isP (la L i)) m
def cN (L:List Lt) (m:Nat):Nat:=zAf (fun i=>isC (la L i)) m
def gN (L:List Lt) (g:Int) (m:Nat):Nat:=zAf (fun i=>isP (la L i)&&(la L i).gate==g) m
def tN (L:List Lt) (d:Int) (m:Nat):Nat:=zAf (fun i=>isC (la L i)&&(la L i).id==d) m
def dwn (L:List Lt) (i:Nat):Bool:=pN L i % 2==0
def smB (l o:Lt):Bool:=o.kind==l.kind&&o.gate==l.gate&&o.rank==l.rank
def smN (L:List Lt) (l:Lt) (m:Nat):Nat:=zAf (fun j=>smB l (la L j)) m
def prB (l o:Lt):Bool:=o.kind==l.kind&&o.id==l.id&&o.sign==l.sign&&o.over != l.over
def prN (L:List Lt) (l:Lt) (m:Nat):Nat:=zAf (fun j=>prB l (la L j)) m
def rlB (K:Int) (L:List Lt) (l:Lt):Bool :=
 if l.kind=1 then decide (l.id=0∧l.sign=0∧l.over=E∧0≤l.gate∧l.gate≤K∧1≤l.rank∧l.rank≤(gN L l.gate L.length:Int)∧smN L l L.length=1)
 else if l.kind=2 then decide (l.gate=0∧l.rank=0∧(l.sign=1∨l.sign = -1)∧1≤l.id∧l.id≤((cN L L.length / 2:Nat):Int)∧prN L l L.length=1∧tN L l.id L.length=2)
 else E
def zBF (K:Int) (L:List Lt):Bool:=zDp (fun i=>rlB K L (la L i)) L.length
def lpB (K:Int) (l:Lt):Bool :=
 if l.kind=1 then decide (0≤l.gate∧l.gate≤K∧l.id=0∧l.sign=0∧l.over=E)
 else if l.kind=2 then decide (l.gate=0∧l.rank=0∧(l.sign=1∨l.sign = -1))
 else E
def zAB (K:Int) (L:List Lt):Bool:=zDp (fun i=>lpB K (la L i)) L.length
def keyB (a b:Lt):Bool:=a.gate==b.gate&&a.rank==b.rank
def rkB (L:List Lt) (i:Nat):Bool :=
 !isP (la L i)||(decide (1≤(la L i).rank∧(la L i).rank≤(gN L (la L i).gate L.length:Int))&&zDp (fun j=>!(isP (la L j)&&keyB (la L j) (la L i))) i)
def zCy (L:List Lt):Bool:=zDp (rkB L) L.length
def crB (L:List Lt) (i:Nat):Bool :=
 !isC (la L i)||(decide (1≤(la L i).id∧(la L i).id≤((cN L L.length / 2:Nat):Int))&&zDp (fun j=>!(isC (la L j)&&(la L j).id==(la L i).id)||((la L j).over != (la L i).over&&(la L j).sign==(la L i).sign)) i)
def zBR (L:List Lt):Bool:=decide (cN L L.length % 2=0)&&zDp (crB L) L.length
def nwB (L:List Lt) (i:Nat):Bool:=isC (la L i)&&zDp (fun j=>!(isC (la L j)&&(la L j).id==(la L i).id)) i
def dN (L:List Lt) (m:Nat):Nat:=zAf (nwB L) m
def zFK (a b:Lt):Bool:=decide (a.gate < b.gate)||(a.gate==b.gate&&decide (a.rank < b.rank))
def zKe (L:List Lt) (i:Nat):List Nat→List Nat
 | []=>[i]
 | x :: X=>if zFK (la L x) (la L i) then x :: zKe L i X else i :: x :: X
def zJY (L:List Lt):Nat→List Nat
 | 0=>[]
 | m+1=>if isP (la L m) then zKe L m (zJY L m) else zJY L m
def axL (L:List Lt):List Nat:=zJY L L.length
def zGA (L:List Lt) (i:Nat):Nat:=((List.range L.length).find? (fun j=>j != i&&isC (la L j)&&(la L j).id==(la L i).id)).getD i
def zTW (X:List Nat) (v:Nat):Nat:=X.findIdx (·==v)
def xat (X:List Nat) (i:Nat):Nat:=(X[i]?).getD 0
def zBx (n i:Nat) (f:Bool):Nat:=if f then 2*i else 2*((i+n-1) % n)+1
def zBC (n d:Nat):Nat:=if d % 2=0 then (d / 2+1) % n else d / 2
def zAG (L:List Lt) (X:List Nat) (d:Nat):Nat :=
 if 2*L.length≤d then
  if d % 2=0 then zBx L.length (xat X (((d-2*L.length) / 2+1) % X.length)) (!dwn L (xat X (((d-2*L.length) / 2+1) % X.length)))
  else zBx L.length (xat X ((d-2*L.length) / 2)) (dwn L (xat X ((d-2*L.length) / 2)))
 else if isC (la L (zBC L.length d)) then zBx L.length (zGA L (zBC L.length d)) ((d % 2==0)==((la L (zBC L.length d)).over==((la L (zBC L.length d)).sign==1)))
 else if dwn L (zBC L.length d)==(d % 2==0) then 2*L.length+2*zTW X (zBC L.length d)
 else 2*L.length+2*((zTW X (zBC L.length d)+X.length-1) % X.length)+1
def sat (s:List Bool) (x:Nat):Bool:=(s[x]?).getD Q
def zBz (f:Nat→Nat):Nat→List Bool→Nat→List Nat×List Bool
 | 0,s,_=>([],s)
 | k+1,s,x=>if sat s x then ([],s) else (x :: (zBz f k (s.set x Q) (f x)).1,(zBz f k (s.set x Q) (f x)).2)
def zBc (f:Nat→Nat):List Nat→List Bool→List (List Nat)
 | [],_=>[]
 | d :: ds,s=>if sat s d then zBc f ds s else (zBz f s.length s d).1 :: zBc f ds (zBz f s.length s d).2
def zBS (L:List Lt):Nat:=2*L.length+2*(axL L).length
def zBK (L:List Lt):List (List Nat):=zBc (zAG L (axL L)) (List.range (zBS L)) (List.replicate (zBS L) E)
def zKf (L:List Lt):Bool:=(zBK L).length==pN L L.length+cN L L.length / 2+2
def zBd (K:Int) (L:List Lt):Bool:=isP (la L 0)&&decide (pN L L.length % 2=0)&&zBF K L&&zKf L
def zAy (K:Int) (L:List Lt):Int :=
 if 400 < L.length∨200 < cN L L.length then 7 else if K < 0∨40 < K then 2 else if L.length=0 then 0 else if zBd K L then 0 else 3
end Go.Proofs.YtlmdfmnbcndhoaaGreatDoor
