/-
  The words in which this seat's contracts speak of memory: a slice of ints that reads as a list, worlds that differ by draws alone; and small laws on them. No condition.
  Fingers and frames as plain data: names, numbers on the axis, valid frames. No program.
  A slice of ints that the call itself has made: the word 'Own', and the laws of append in that word. No condition.
  Plain lemmas on lists: searches over a range of numbers. No program in sight.
  Plain: counting the numbers below n that meet a test; sums over them. No walk.
  Plain: codes as lists of letters; the tests of a code, its axis, its walks. No walk of the program.
  Slices of letters in memory: the word 'Lets'. No condition.
  Contracts: the counts of passes and visits, of the program and of the document. Conditions: the code's letters read.
-/
import Derived.Test.YtlmdfmnbcndhoaaGreatDoorProg
import Derived.WalkKit
import Derived.Deep.QuietTactic
import Derived.BigQuiet
import Derived.Lib.Hide
import Derived.Laws.OwnMore
import Derived.Maps.AppendAt
import Derived.Deep.AppendLies
import Derived.Deep.LoopGhost
import Derived.Deep.DeepFit
import Derived.Deep.DeepMust
import Derived.Outline
import Derived.Lib.ItoaNum
namespace Go.Proofs.YtlmdfmnbcndhoaaGreatDoor
open Go.RowKit
/-- w' is w behind some draws. -/
def Drawn (w w':World):Prop:=∃m,w'=w.drewN m
theorem Drawn.refl (w:World):Drawn w w:=⟨0,rfl⟩
theorem Drawn.drewN {w w':World} (h:Drawn w w') (k:Nat):Drawn w (w'.drewN k):=by
 obtain ⟨m,rfl⟩:=h
 exact ⟨m+k,by rw [World.drewN_drewN]⟩
theorem drawn1 (w:World) (m:Nat):Drawn w (w.drewN m):=⟨m,rfl⟩
theorem drawn2 (w:World) (m n:Nat):Drawn w ((w.drewN m).drewN n):=(drawn1 w m).drewN n
theorem Drawn.below {w w':World} (h:Drawn w w') (B:Nat):Below B w w':=by
 obtain ⟨m,rfl⟩:=h
 exact ⟨rfl,rfl,rfl,Nat.le_refl _,fun _ _=>rfl⟩
theorem zAe {B:Nat} {a w:World} (h:Below B a w) (n:Nat):Below B a (w.drewN n):=⟨h.os,h.tape,h.output,h.size,h.block⟩
theorem zAa {B C:Nat} {a b c:World} (h:Below B a b) (k:Below C b c) (hB:B≤C):Below B a c:=h.trans (k.mono hB)
theorem block_of_add (a:Addr) (n:Nat):(a.add n).block=a.block:=by unfold Addr.add;split<;>rfl
/-- x fits an int. -/
def I64 (x:Int):Prop:=-9223372036854775808≤x∧x≤9223372036854775807
/-- The slice '.slice A n c' reads as the list L of ints. -/
def Ints (w:World) (A:Option Addr) (n:Nat) (L:List Int):Prop :=
 L.length=n∧n≤17592186044416∧(∀x∈L,I64 x) ∧
 (0 < n→∃ad,A=some ad∧ad.block < w.heap.size∧∀j x,L[j]? = some x→w.cell? (ad.add j)=some (.int .i64 x))
theorem Ints.len {w:World} {A:Option Addr} {n:Nat} {L:List Int} (h:Ints w A n L):L.length=n:=h.1
theorem Ints.le {w:World} {A:Option Addr} {n:Nat} {L:List Int} (h:Ints w A n L):n≤17592186044416:=h.2.1
/-- Inside a round: the address, the element, its cell. -/
theorem Ints.at_ {w:World} {A:Option Addr} {n k:Nat} {L:List Int} (h:Ints w A n L) (hk:k < n) :
  ∃ad x,A=some ad∧Hid (L[k]? = some x)∧-9223372036854775808≤x∧x≤9223372036854775807∧w.cell? (ad.add k)=some (.int .i64 x):=by
 obtain ⟨hl,_,hf,hc⟩:=h
 obtain ⟨ad,e,_,hcell⟩:=hc (by omega)
 have hkl:k < L.length:=by omega
 have hx:L[k]? = some L[k]:=List.getElem?_eq_getElem hkl
 have:=hf L[k] (List.getElem_mem hkl)
 exact ⟨ad,L[k],e,hx,this.1,this.2,hcell k _ hx⟩
/-- Another element of a slice whose address is known. -/
theorem Ints.also {w:World} {ad:Addr} {n k:Nat} {L:List Int} (h:Ints w (some ad) n L) (hk:k < n) :
  ∃x,Hid (L[k]? = some x)∧-9223372036854775808≤x∧x≤9223372036854775807∧w.cell? (ad.add k)=some (.int .i64 x):=by
 obtain ⟨ad',x,e,h1,h2,h3,h4⟩:=h.at_ hk
 obtain rfl:=Option.some.inj e
 exact ⟨x,h1,h2,h3,h4⟩
theorem Ints.keep {w w':World} {A:Option Addr} {n:Nat} {L:List Int} (h:Ints w A n L) (hs:w.heap.size≤w'.heap.size)
  (hk:∀p:Addr,p.block < w.heap.size→w'.cell? p=w.cell? p):Ints w' A n L :=
 ⟨h.1,h.2.1,h.2.2.1,fun hn=>by
  obtain ⟨ad,e,hb,hc⟩:=h.2.2.2 hn
  exact ⟨ad,e,by omega,fun j x hx=>(hk _ (by rw [block_of_add];exact hb)).trans (hc j x hx)⟩⟩
theorem Ints.below {w w':World} {A:Option Addr} {n:Nat} {L:List Int} (h:Ints w A n L) (hb:Below w.heap.size w w'):Ints w' A n L :=
 h.keep hb.size fun _ hp=>hb.cell hp
theorem all_false_of {α:Type} (p:α→Bool) (L:List α) (k:Nat) (x:α) (hx:L[k]? = some x) (h:p x=false):L.all p=false:=by
 rw [List.all_eq_false]
 exact ⟨x,List.mem_of_getElem? hx,by simp [h]⟩
theorem zAg {a b:Bool} (h:a=b):Ending.returned (.bool a)=.returned (.bool b):=by rw [h]
theorem zBI {k:IntKind} {a b:Int} (h:a=b):Ending.returned (.int k a)=.returned (.int k b):=by rw [h]
end Go.Proofs.YtlmdfmnbcndhoaaGreatDoor
namespace Go.Proofs.YtlmdfmnbcndhoaaGreatDoor
open Go.RowKit
structure Fg where
 p:Int
 r:Bool
 d:Int
instance:DecidableEq Fg:=fun a b =>
 if h:a.p=b.p∧a.r=b.r∧a.d=b.d then .isTrue (by cases a;cases b;simp at h;simp [h])
 else .isFalse (fun e=>h (by subst e;simp))
def fgB (x y:Fg):Bool:=x.p==y.p&&x.r==y.r&&x.d==y.d
theorem fgB_iff {x y:Fg}:fgB x y=true↔x=y:=by
 cases x;cases y
 simp [fgB,and_assoc]
theorem fgB_self (x:Fg):fgB x x=true:=fgB_iff.2 rfl
def df:Fg:=⟨0,false,0⟩
def fa (L:List Fg) (i:Nat):Fg:=(L[i]?).getD df
theorem fa_of {L:List Fg} {i:Nat} {x:Fg} (h:L[i]? = some x):fa L i=x:=by unfold fa;rw [h];rfl
theorem fa_get {L:List Fg} {i:Nat} (h:i < L.length):L[i]? = some (fa L i):=by unfold fa;rw [List.getElem?_eq_getElem h];rfl
/-- The number of a finger in a list, 0 if it is not there. -/
def idxF:List Fg→Fg→Nat
 | [],_=>0
 | x :: L,f=>if x=f then 1 else if idxF L f=0 then 0 else idxF L f+1
theorem zGq {f:Fg}:∀{L:List Fg},(∀j:Nat,L[j]?≠some f)→idxF L f=0
 | [],_=>rfl
 | x :: L,h=>by
  have h0:x≠f:=fun e=>h 0 (by rw [e];rfl)
  have h1:idxF L f=0:=zGq fun j e=>h (j+1) (by simpa using e)
  rw [idxF,if_neg h0,if_pos h1]
theorem idxF_at {f:Fg}:∀{L:List Fg} {i:Nat},L[i]? = some f→(∀j,j < i→L[j]?≠some f)→idxF L f=i+1
 | [],i,h,_=>by simp at h
 | x :: L,0,h,_=>by
  have:x=f:=by simpa using h
  rw [idxF,if_pos this]
 | x :: L,i+1,h,hj=>by
  have h0:x≠f:=fun e=>hj 0 (by omega) (by rw [e];rfl)
  have h1:idxF L f=i+1:=idxF_at (by simpa using h) fun j hji e=>hj (j+1) (by omega) (by simpa using e)
  rw [idxF,if_neg h0,h1,if_neg (by omega)]
theorem idxF_is {f:Fg}:∀{L:List Fg} {i:Nat},idxF L f=i+1→L[i]? = some f∧∀j,j < i→L[j]?≠some f
 | [],i,h=>by simp [idxF] at h
 | x :: L,i,h=>by
  rw [idxF] at h
  by_cases h0:x=f
  ·rw [if_pos h0] at h
   obtain rfl:i=0:=by omega
   exact ⟨by rw [h0];rfl,fun j hj=>by omega⟩
  ·rw [if_neg h0] at h
   by_cases h1:idxF L f=0
   ·rw [if_pos h1] at h;omega
   ·rw [if_neg h1] at h
    obtain ⟨k,rfl⟩:∃k,i=k+1:=⟨i-1,by omega⟩
    obtain ⟨h2,h3⟩:=idxF_is (L:=L) (i:=k) (f:=f) (by omega)
    refine ⟨by simpa using h2,fun j hj=>?_⟩
    rcases j with _ | j
    ·intro e;exact h0 (by simpa using e)
    ·intro e;exact h3 j (by omega) (by simpa using e)
theorem idxF_zero {f:Fg} {L:List Fg} (h:idxF L f=0):∀j:Nat,L[j]?≠some f:=by
 intro j e
 have hx:∃i:Nat,L[i]? = some f∧∀j:Nat,j < i→L[j]?≠some f:=by
  induction j using Nat.strongRecOn with
  | _ j ih =>
   by_cases hm:∃k:Nat,k < j∧L[k]? = some f
   ·obtain ⟨k,hk,hkf⟩:=hm
    exact ih k hk hkf
   ·exact ⟨j,e,fun k hk e2=>hm ⟨k,hk,e2⟩⟩
 obtain ⟨i,h1,h2⟩:=hx
 have:=idxF_at h1 h2
 omega
theorem zFp {f:Fg} {L:List Fg}:idxF L f≤L.length:=by
 cases h:idxF L f with
 | zero=>omega
 | succ i=>have:=(List.getElem?_eq_some_iff.1 (idxF_is h).1).1;omega
theorem idxF_take {L:List Fg} {i:Nat} (hi:i < L.length):idxF (L.take i) (fa L i)=0↔idxF L (fa L i)=i+1:=by
 constructor
 ·intro h
  refine idxF_at (fa_get hi) fun j hj e=>?_
  have:=idxF_zero h j
  rw [List.getElem?_take_of_lt hj] at this
  exact this e
 ·intro h
  refine zGq fun j e=>?_
  rw [List.getElem?_take] at e
  split at e
  ·rename_i hj;exact (idxF_is h).2 j hj e
  ·cases e
/-- There is such a finger. -/
def zAw (f:Fg):Bool:=decide (1≤f.p)&&decide (f.p≤9)&&decide (0≤f.d)&&decide (f.d≤6)
theorem zAQ {f:Fg}:zAw f=true↔1≤f.p∧f.p≤9∧0≤f.d∧f.d≤6:=by simp [zAw,and_assoc]
def goodF (L:List Fg) (i:Nat):Bool:=zAw (fa L i)&&decide (idxF (L.take i) (fa L i)=0)
/-- The frame is valid. -/
def frOk (L:List Fg) (re lo:Int):Prop:=L.length≤40∧0≤re∧re≤40∧1≤lo∧lo≤20∧∀i,i < L.length→goodF L i=true
def frB (L:List Fg) (re lo:Int):Bool :=
 decide (L.length≤40)&&decide (0≤re)&&decide (re≤40)&&decide (1≤lo)&&decide (lo≤20)&&(List.range L.length).all fun i=>goodF L i
theorem zCo {L:List Fg} {re lo:Int}:frB L re lo=true↔frOk L re lo:=by simp [frB,frOk,and_assoc]
theorem frOk.there {L:List Fg} {re lo:Int} (h:frOk L re lo) {i:Nat} (hi:i < L.length):zAw (fa L i)=true:=by
 have:=h.2.2.2.2.2 i hi
 unfold goodF at this
 simp only [Bool.and_eq_true] at this
 exact this.1
/-- The name of a finger. -/
def zAn (f:Fg):List UInt8:=(if f.p=1 then [] else Lib.itoa f.p)++(if f.r then 82 else 76) :: Lib.itoa f.d
end Go.Proofs.YtlmdfmnbcndhoaaGreatDoor
namespace Go.Proofs.YtlmdfmnbcndhoaaGreatDoor
open Go.RowKit
theorem intInfo:(Tryz.prog.info? 3).map (fun i=>(i.zero,i.size,i.bytes))=some (some (.int .i64 0),1,8):=by kernel_rfl
/-- The slice '.slice A n c' lies at the head of a block of the call's own (from base on), or is nil; it reads as L. -/
structure Own (w:World) (base:Nat) (A:Option Addr) (n c:Nat) (L:List Int):Prop where
 row:w.ownsRow base 3 1 (.slice A n c) n (L.map (Value.int .i64))
 len:L.length=n
 le:n≤17592186044416
 fits:∀x∈L,I64 x
def blk:Option Addr→Option Nat
 | some a=>some a.block
 | none=>none
theorem blk_own (A:Option Addr) (n c:Nat):Value.ownBlock (.slice A n c)=blk A:=by cases A<;>rfl
section
variable {w w':World} {base:Nat} {A:Option Addr} {n c:Nat} {L:List Int}
theorem Own.nil (w:World) (base:Nat):Own w base none 0 0 []:=⟨World.ownsRow_nil _ _ _ _,rfl,by omega,by simp⟩
theorem Own.ints (h:Own w base A n c L):Ints w A n L:=by
 refine ⟨h.len,h.le,h.fits,fun hn=>?_⟩
 obtain ⟨g,cap,hv,_,hlt⟩:=h.row.form hn
 have hA:A=some ⟨g,0,none⟩:=by injection hv
 subst hA
 refine ⟨_,rfl,hlt,fun j x hx=>?_⟩
 exact h.row.cells (g:=g) rfl j _ (by rw [List.getElem?_map,hx];rfl)
theorem Own.alloc (h:Own w base A n c L) (o:Obj):Own (w.alloc o) base A n c L:=⟨h.row.alloc o,h.len,h.le,h.fits⟩
theorem Own.lt (h:Own w base A n c L):∀k,blk A=some k→base≤k∧k < w.heap.size:=fun k hk=>h.row.lt k (by rw [blk_own];exact hk)
theorem Own.mono {base':Nat} (h:Own w base A n c L) (hb:base'≤base):Own w base' A n c L:=by
 refine ⟨⟨h.row.1,?_⟩,h.len,h.le,h.fits⟩
 rcases h.row.2 with h1 | ⟨g,cap,cur,hv,hg,r⟩
 ·exact .inl h1
 ·exact .inr ⟨g,cap,cur,hv,by omega,r⟩
end
/-- 'append(out, y)'. -/
theorem app1 {w:World} {ops:Array Oper} {rest:List Oper} {o:Oper} {a:Act} {Q:Exit→Act→World→Prop} (hgd:o.guard=none) (s x:Operand)
  (ho:o.op=.call { callee:=.builtin .append,args:=#[s,x],argTypes:=#[79,79] })
  {base:Nat} {A:Option Addr} {n c:Nat} {L:List Int} (hown:Own w base A n c L) (y:Int) (hs:a.eval s=.slice A n c)
  {ad:Addr} {cc:Nat} (hx:a.eval x=.slice (some ad) 1 cc) (hcell:w.cell? ad=some (.int .i64 y)) (hy:I64 y) (hn:n < 17592186044416) (hbase:base≤w.heap.size)
  (h:∀A' c' w',Own w' base A' (n+1) c' (L++[y])→Below base w w'→w.grownBy w' (blk A)→(blk A'=blk A∨blk A'=some w.heap.size)→wpList Tryz.prog ops Q rest (a.put o.dst (.slice A' (n+1) c')) w') :
  wpList Tryz.prog ops Q (o :: rest) a w:=by
 obtain ⟨i0,hi,hz0,hz1,hz2⟩:=info_parts intInfo
 have hnews:∀j u,([Value.int .i64 y]:List Value)[j]? = some u→w.cell? (ad.add j)=some u:=by
  intro j u hj
  match j,hj with
  | 0,hj=>simp at hj;subst hj;simpa [Addr.add] using hcell
 refine wpList_append_lies w hgd s x 79 ho base 3 i0 (.int .i64 0) 1 8 Tryz.underlying79 hi hz0 hz1 hz2 rfl (by decide) (.slice A n c) n _ hs hown.row ad 1 cc [.int .i64 y] hx rfl hnews
  (by intro u hu;simp at hu;subst hu;rfl) (by decide) (by unfold maxLen;omega) (by omega) hbase w.heap.size rfl ?_
 intro g cap w' h1 h2 h3 h4
 rw [blk_own] at h2 h3
 refine h _ _ _ ⟨by simpa using h1,by simp [hown.len],by omega,?_⟩ ((Below.refl _ _).grown h2 hbase (fun k hk=>(hown.lt k hk).1)) h2 ?_
 ·intro z hz
  rcases List.mem_append.1 hz with hz | hz
  ·exact hown.fits z hz
  ·simp at hz;subst hz;exact hy
 ·rcases h3 with h3 | h3
  ·exact .inl (by rw [h3];rfl)
  ·exact .inr (by rw [←h3];rfl)
end Go.Proofs.YtlmdfmnbcndhoaaGreatDoor
namespace Go.Proofs.YtlmdfmnbcndhoaaGreatDoor
/-- No number below n meets p. -/
def NoneTo (p:Nat→Bool) (n:Nat):Prop:=∀i,i < n→p i=false
theorem NoneTo.zero (p:Nat→Bool):NoneTo p 0:=fun i h=>by omega
theorem NoneTo.succ {p:Nat→Bool} {n:Nat} (h:NoneTo p n) (hn:p n=false):NoneTo p (n+1):=fun i hi=>by
 by_cases e:i=n
 ·subst e;exact hn
 ·exact h i (by omega)
/-- The first number below n that meets p, or -1. -/
def zDu (p:Nat→Bool) (n:Nat):Int:=match (List.range n).find? p with
 | some i=>i
 | none=>-1
theorem find_none {p:Nat→Bool} {n:Nat} (h:NoneTo p n):(List.range n).find? p=none:=by
 rw [List.find?_eq_none]
 intro i hi
 rw [List.mem_range] at hi
 rw [h i hi];simp
theorem find_hit {p:Nat→Bool} {n k:Nat} (h:NoneTo p k) (hk:p k=true) (hn:k < n):(List.range n).find? p=some k:=by
 induction n with
 | zero=>omega
 | succ n ih =>
  rw [List.range_succ,List.find?_append]
  by_cases e:k < n
  ·rw [ih e];rfl
  ·have:k=n:=by omega
   subst this
   rw [find_none h]
   simp [hk]
theorem zCp {p:Nat→Bool} {n:Nat} (h:NoneTo p n):zDu p n = -1:=by unfold zDu;rw [find_none h]
theorem zCI {p:Nat→Bool} {n k:Nat} (h:NoneTo p k) (hk:p k=true) (hn:k < n):zDu p n=k:=by unfold zDu;rw [find_hit h hk hn]
theorem zFL (p:Nat→Bool) (n:Nat):(zDu p n = -1∧NoneTo p n)∨∃k,k < n∧zDu p n=(k:Int)∧NoneTo p k∧p k=true:=by
 induction n with
 | zero=>exact .inl ⟨zCp (NoneTo.zero p),NoneTo.zero p⟩
 | succ n ih =>
  rcases ih with ⟨_,h⟩ | ⟨k,hk,he,hn,hp⟩
  ·cases hp:p n with
   | false=>exact .inl ⟨zCp (h.succ hp),h.succ hp⟩
   | true=>exact .inr ⟨n,by omega,zCI h hp (by omega),h,hp⟩
  ·exact .inr ⟨k,by omega,zCI hn hp (by omega),hn,hp⟩
/-- All numbers below n meet p. -/
def zEo (p:Nat→Bool) (n:Nat):Bool:=(List.range n).all p
theorem zEE {p:Nat→Bool} {n k:Nat} (hk:k < n) (h:p k=false):zEo p n=false:=by
 unfold zEo
 rw [List.all_eq_false]
 exact ⟨k,List.mem_range.2 hk,by simp [h]⟩
theorem zAk {p:Nat→Bool} {n:Nat}:zEo p n=true↔∀i,i < n→p i=true:=by
 unfold zEo
 rw [List.all_eq_true]
 exact ⟨fun h i hi=>h i (List.mem_range.2 hi),fun h i hi=>h i (List.mem_range.1 hi)⟩
/-- How many numbers below n meet p. -/
def zAc (p:Nat→Bool):Nat→Nat
 | 0=>0
 | n+1=>zAc p n+(if p n then 1 else 0)
theorem zCJ (p:Nat→Bool) (n:Nat):zAc p n≤n:=by
 induction n with
 | zero=>exact Nat.le_refl _
 | succ n ih=>unfold zAc;split<;>omega
theorem zAj {p:Nat→Bool} {n:Nat} (h:p n=true):zAc p (n+1)=zAc p n+1:=by simp [zAc,h]
theorem zAi {p:Nat→Bool} {n:Nat} (h:p n=false):zAc p (n+1)=zAc p n:=by simp [zAc,h]
end Go.Proofs.YtlmdfmnbcndhoaaGreatDoor
namespace Go.Proofs.YtlmdfmnbcndhoaaGreatDoor
theorem zAW {p q:Nat→Bool} {n:Nat} (h:∀m,m < n→p m=q m):zAc p n=zAc q n:=by
 induction n with
 | zero=>rfl
 | succ n ih =>
  unfold zAc
  rw [ih (fun m hm=>h m (by omega)),h n (by omega)]
theorem zEp {p:Nat→Bool} {n:Nat} (h:∀m,m < n→p m=false):zAc p n=0:=by
 induction n with
 | zero=>rfl
 | succ n ih=>rw [zAi (h n (by omega))];exact ih (fun m hm=>h m (by omega))
theorem ct_sub {p q:Nat→Bool} {n:Nat} (h:∀m,m < n→p m=true→q m=true):zAc p n≤zAc q n:=by
 induction n with
 | zero=>exact Nat.le_refl _
 | succ n ih =>
  have:=ih (fun m hm=>h m (by omega))
  have h2:=h n (by omega)
  unfold zAc
  cases hp:p n<;>cases hq:q n<;>simp [hp,hq] at h2 ⊢<;>omega
theorem ct_lt {p q:Nat→Bool} {n i:Nat} (h:∀m,m < n→p m=true→q m=true) (hi:i < n) (hq:q i=true) (hp:p i=false):zAc p n+1≤zAc q n:=by
 induction n with
 | zero=>omega
 | succ n ih =>
  by_cases e:i=n
  ·subst e
   rw [zAi hp,zAj hq]
   have:=ct_sub (n:=i) (fun m hm=>h m (by omega))
   omega
  ·have:=ih (fun m hm=>h m (by omega)) (by omega)
   have h2:=h n (by omega)
   unfold zAc
   cases hp:p n<;>cases hq:q n<;>simp [hp,hq] at h2 ⊢<;>omega
theorem zEF {p:Nat→Bool} {n i:Nat} (hi:i < n) (hp:p i=true) (h:∀m,m < n→p m=true→m=i):zAc p n=1:=by
 induction n with
 | zero=>omega
 | succ n ih =>
  by_cases e:i=n
  ·subst e
   rw [zAj hp,zEp]
   intro m hm
   cases hq:p m with
   | false=>rfl
   | true=>have:=h m (by omega) hq;omega
  ·have hn:p n=false:=by
    cases hq:p n with
    | false=>rfl
    | true=>have:=h n (by omega) hq;omega
   rw [zAi hn]
   exact ih (by omega) (fun m hm=>h m (by omega))
theorem zGr {p q r:Nat→Bool} {n:Nat} (h:∀m,m < n→r m=(p m||q m)) (hd:∀m,m < n→¬(p m=true∧q m=true)):zAc r n=zAc p n+zAc q n:=by
 induction n with
 | zero=>rfl
 | succ n ih =>
  have:=ih (fun m hm=>h m (by omega)) (fun m hm=>hd m (by omega))
  have h2:=h n (by omega)
  have h3:=hd n (by omega)
  unfold zAc
  cases hp:p n<;>cases hq:q n<;>simp [hp,hq] at h2 h3<;>simp [h2]<;>omega
theorem zHD {p:Nat→Bool} {n i:Nat} (hi:i < n) (hp:p i=true):0 < zAc p n:=by
 have h:∀m,m < n→(fun _:Nat=>false) m=true→p m=true:=fun _ _ e=>by cases e
 have:=ct_lt h hi hp rfl
 omega
theorem ct_ex {p:Nat→Bool} {n:Nat} (h:0 < zAc p n):∃i,i < n∧p i=true:=by
 induction n with
 | zero=>exact absurd h (by simp [zAc])
 | succ n ih =>
  cases hp:p n with
  | true=>exact ⟨n,by omega,hp⟩
  | false =>
   rw [zAi hp] at h
   obtain ⟨i,hi,hpi⟩:=ih h
   exact ⟨i,by omega,hpi⟩
/-- At most one number meets p: all that meet it are equal. -/
theorem ct_uniq {p:Nat→Bool} {n i j:Nat} (h:zAc p n≤1) (hi:i < n) (hj:j < n) (hpi:p i=true) (hpj:p j=true):i=j:=by
 rcases Nat.decEq i j with e | e
 ·have h1:zAc (fun m=>decide (m=i)) n=1:=zEF hi (by simp) (by intro m _ hm;simpa using hm)
  have h2:=ct_lt (p:=fun m=>decide (m=i)) (q:=p) (n:=n) (i:=j) (fun m _ hm=>by simp at hm;subst hm;exact hpi) hj hpj (by simp;omega)
  omega
 ·exact e
/-- A part that is as large as the whole is the whole. -/
theorem ct_full {p q:Nat→Bool} {n:Nat} (h:∀m,m < n→p m=true→q m=true) (e:zAc q n≤zAc p n):∀m,m < n→q m=true→p m=true:=by
 intro m hm hq
 cases hp:p m with
 | true=>rfl
 | false=>have:=ct_lt h hm hq hp;omega
theorem ct_ge (p:Nat→Bool) {m n:Nat} (h:m≤n):zAc p m≤zAc p n:=by
 obtain ⟨k,rfl⟩:∃k,n=m+k:=⟨n-m,by omega⟩
 clear h
 induction k with
 | zero=>exact Nat.le_refl _
 | succ k ih=>exact Nat.le_trans ih (Nat.le_add_right _ _)
/-- A sum of natural numbers over the numbers below n. -/
def sumN (f:Nat→Nat):Nat→Nat
 | 0=>0
 | n+1=>sumN f n+f n
theorem sumN_add (f g:Nat→Nat) (n:Nat):sumN (fun i=>f i+g i) n=sumN f n+sumN g n:=by
 induction n with
 | zero=>rfl
 | succ n ih=>simp only [sumN];rw [ih];omega
theorem zCK {f g:Nat→Nat} {n:Nat} (h:∀i,i < n→f i=g i):sumN f n=sumN g n:=by
 induction n with
 | zero=>rfl
 | succ n ih=>simp only [sumN];rw [ih (fun i hi=>h i (by omega)),h n (by omega)]
theorem zGs {f:Nat→Nat} {n:Nat} (h:∀i,i < n→f i=0):sumN f n=0:=by
 induction n with
 | zero=>rfl
 | succ n ih=>simp only [sumN];rw [ih (fun i hi=>h i (by omega)),h n (by omega)]
theorem sumN_one {f:Nat→Nat} {n i:Nat} (hi:i < n) (h:∀j,j < n→j≠i→f j=0):sumN f n=f i:=by
 induction n with
 | zero=>omega
 | succ n ih =>
  simp only [sumN]
  by_cases e:i=n
  ·subst e;rw [zGs (fun j hj=>h j (by omega) (by omega))];omega
  ·rw [ih (by omega) (fun j hj hne=>h j (by omega) hne),h n (by omega) (fun h'=>e h'.symm)];omega
theorem sumN_le {f:Nat→Nat} {n c:Nat} (h:∀i,i < n→f i≤c):sumN f n≤n*c:=by
 induction n with
 | zero=>simp [sumN]
 | succ n ih =>
  simp only [sumN]
  have:=ih (fun i hi=>h i (by omega))
  have h2:=h n (by omega)
  rw [Nat.add_mul];omega
/-- A sum that is as large as its bounds allow: each term is as large. -/
theorem sumN_full {f:Nat→Nat} {n c:Nat} (h:∀i,i < n→f i≤c) (e:n*c≤sumN f n):∀i,i < n→f i=c:=by
 induction n with
 | zero=>intro i hi;omega
 | succ n ih =>
  simp only [sumN] at e
  have h1:=sumN_le (f:=f) (n:=n) (c:=c) (fun i hi=>h i (by omega))
  have h2:=h n (by omega)
  rw [Nat.add_mul] at e
  intro i hi
  by_cases e':i=n
  ·subst e';omega
  ·exact ih (fun i hi=>h i (by omega)) (by omega) i (by omega)
theorem sumN_even {f:Nat→Nat} {n:Nat} (h:∀i,i < n→f i % 2=0):sumN f n % 2=0:=by
 induction n with
 | zero=>rfl
 | succ n ih =>
  have:=ih (fun i hi=>h i (by omega))
  have h2:=h n (by omega)
  simp only [sumN];omega
/-- Counting by classes: each number that meets p has one class below k. -/
theorem zCi {p:Nat→Bool} {c:Nat→Nat} {n k:Nat} (h:∀m,m < n→p m=true→c m < k):zAc p n=sumN (fun d=>zAc (fun m=>p m&&c m==d) n) k:=by
 induction n with
 | zero=>exact (zGs (fun _ _=>rfl)).symm
 | succ n ih =>
  have ih':=ih (fun m hm=>h m (by omega))
  simp only [zAc]
  rw [sumN_add,ih']
  congr 1
  by_cases hp:p n=true
  ·rw [if_pos hp,sumN_one (i:=c n) (h n (by omega) hp) (by
    intro j _ hj
    have:¬c n=j:=fun e=>hj e.symm
    simp [this])]
   simp [hp]
  ·rw [if_neg hp]
   exact (zGs (fun _ _=>by simp [hp])).symm
/-- Distinct integers from 1 to their number: those up to v are v many. -/
theorem ct_low {p:Nat→Bool} {f:Nat→Int} {n:Nat} (hb:∀m,m < n→p m=true→1≤f m∧f m≤zAc p n) (hd:∀i j,i < n→j < n→p i=true→p j=true→f i=f j→i=j) :
  ∀v:Nat,v≤zAc p n→zAc (fun m=>p m&&decide (f m≤(v:Int))) n=v:=by
 have step:∀v:Nat,zAc (fun m=>p m&&decide (f m≤((v+1:Nat):Int))) n≤zAc (fun m=>p m&&decide (f m≤(v:Int))) n+1:=by
  intro v
  rw [zGr (p:=fun m=>p m&&decide (f m≤(v:Int))) (q:=fun m=>p m&&decide (f m=((v+1:Nat):Int)))]
  ·refine Nat.add_le_add_left ?_ _
   by_cases hx:∃k,k < n∧(p k&&decide (f k=((v+1:Nat):Int)))=true
   ·obtain ⟨k,hk,hp⟩:=hx
    simp at hp
    refine Nat.le_of_eq (zEF hk (by simp [hp]) fun m hm hpm=>?_)
    simp at hpm
    exact hd m k hm hk hpm.1 hp.1 (by omega)
   ·rw [zEp]
    ·omega
    ·intro m hm
     cases hq:(p m&&decide (f m=((v+1:Nat):Int))) with
     | false=>rfl
     | true=>exact absurd ⟨m,hm,hq⟩ hx
  ·intro m _
   cases p m
   ·rfl
   ·simp only [Bool.true_and]
    rw [←Bool.decide_or]
    apply decide_eq_decide.2
    omega
  ·intro m _ ⟨h1,h2⟩
   simp at h1 h2
   omega
 have h0:zAc (fun m=>p m&&decide (f m≤((0:Nat):Int))) n=0:=zEp fun m hm=>by
  cases hp:p m with
  | false=>rfl
  | true =>
   have:=(hb m hm hp).1
   have:¬f m≤((0:Nat):Int):=by omega
   simp only [this,decide_false,Bool.and_false]
 have hup:∀v k:Nat,zAc (fun m=>p m&&decide (f m≤((v+k:Nat):Int))) n≤zAc (fun m=>p m&&decide (f m≤(v:Int))) n+k:=by
  intro v k
  induction k with
  | zero=>exact Nat.le_refl _
  | succ k ih =>
   have:=step (v+k)
   rw [show v+(k+1)=v+k+1 by omega]
   omega
 have hall:zAc (fun m=>p m&&decide (f m≤((zAc p n:Nat):Int))) n=zAc p n:=zAW fun m hm=>by
  cases hp:p m with
  | false=>rfl
  | true=>have:=(hb m hm hp).2;simp [this]
 intro v hv
 have a1:=hup 0 v
 rw [Nat.zero_add] at a1
 have a2:=hup v (zAc p n-v)
 rw [show v+(zAc p n-v)=zAc p n by omega,hall] at a2
 have h0':zAc (fun m=>p m&&decide (f m≤((0:Nat):Int))) n=0:=h0
 omega
end Go.Proofs.YtlmdfmnbcndhoaaGreatDoor
namespace Go.Proofs.YtlmdfmnbcndhoaaGreatDoor
structure Lt where
 kind:Int
 gate:Int
 rank:Int
 id:Int
 sign:Int
 over:Bool
instance:DecidableEq Lt:=fun a b =>
 if h:a.kind=b.kind∧a.gate=b.gate∧a.rank=b.rank∧a.id=b.id∧a.sign=b.sign∧a.over=b.over then
  .isTrue (by cases a;cases b;simp at h;simp [h])
 else .isFalse (fun e=>h (by subst e;simp))
def dl:Lt:=⟨0,0,0,0,0,false⟩
def la (L:List Lt) (i:Nat):Lt:=(L[i]?).getD dl
theorem la_of {L:List Lt} {i:Nat} {x:Lt} (h:L[i]? = some x):la L i=x:=by unfold la;rw [h];rfl
def isP (l:Lt):Bool:=l.kind==1
def isC (l:Lt):Bool:=l.kind==2
theorem zBc {l:Lt} (h:isP l=true):isC l=false:=by unfold isP at h;unfold isC;simp at h ⊢;omega
/-- Passes, visits of crossings, passes of a gate, visits of one crossing, among the first m letters. -/
def pN (L:List Lt) (m:Nat):Nat:=zAc (fun i=>isP (la L i)) m
def cN (L:List Lt) (m:Nat):Nat:=zAc (fun i=>isC (la L i)) m
def gN (L:List Lt) (g:Int) (m:Nat):Nat:=zAc (fun i=>isP (la L i)&&(la L i).gate==g) m
def tN (L:List Lt) (d:Int) (m:Nat):Nat:=zAc (fun i=>isC (la L i)&&(la L i).id==d) m
def dwn (L:List Lt) (i:Nat):Bool:=pN L i % 2==0
def smB (l o:Lt):Bool:=o.kind==l.kind&&o.gate==l.gate&&o.rank==l.rank
def smN (L:List Lt) (l:Lt) (m:Nat):Nat:=zAc (fun j=>smB l (la L j)) m
def prB (l o:Lt):Bool:=o.kind==l.kind&&o.id==l.id&&o.sign==l.sign&&o.over != l.over
def prN (L:List Lt) (l:Lt) (m:Nat):Nat:=zAc (fun j=>prB l (la L j)) m
/-- The document's test of a letter. -/
def rlB (K:Int) (L:List Lt) (l:Lt):Bool :=
 if l.kind=1 then decide (l.id=0∧l.sign=0∧l.over=false∧0≤l.gate∧l.gate≤K∧1≤l.rank∧l.rank≤(gN L l.gate L.length:Int)∧smN L l L.length=1)
 else if l.kind=2 then decide (l.gate=0∧l.rank=0∧(l.sign=1∨l.sign = -1)∧1≤l.id∧l.id≤((cN L L.length / 2:Nat):Int)∧prN L l L.length=1∧tN L l.id L.length=2)
 else false
def zBJ (K:Int) (L:List Lt):Bool:=zEo (fun i=>rlB K L (la L i)) L.length
/-- The program's tests. -/
def lpB (K:Int) (l:Lt):Bool :=
 if l.kind=1 then decide (0≤l.gate∧l.gate≤K∧l.id=0∧l.sign=0∧l.over=false)
 else if l.kind=2 then decide (l.gate=0∧l.rank=0∧(l.sign=1∨l.sign = -1))
 else false
def zAx (K:Int) (L:List Lt):Bool:=zEo (fun i=>lpB K (la L i)) L.length
def keyB (a b:Lt):Bool:=a.gate==b.gate&&a.rank==b.rank
def rkB (L:List Lt) (i:Nat):Bool :=
 !isP (la L i)||(decide (1≤(la L i).rank∧(la L i).rank≤(gN L (la L i).gate L.length:Int))&&zEo (fun j=>!(isP (la L j)&&keyB (la L j) (la L i))) i)
def zCq (L:List Lt):Bool:=zEo (rkB L) L.length
def crB (L:List Lt) (i:Nat):Bool :=
 !isC (la L i)||(decide (1≤(la L i).id∧(la L i).id≤((cN L L.length / 2:Nat):Int))&&zEo (fun j=>!(isC (la L j)&&(la L j).id==(la L i).id)||((la L j).over != (la L i).over&&(la L j).sign==(la L i).sign)) i)
def zBB (L:List Lt):Bool:=decide (cN L L.length % 2=0)&&zEo (crB L) L.length
/-- The first visits of crossings. -/
def nwB (L:List Lt) (i:Nat):Bool:=isC (la L i)&&zEo (fun j=>!(isC (la L j)&&(la L j).id==(la L i).id)) i
def dN (L:List Lt) (m:Nat):Nat:=zAc (nwB L) m
/-- The passes from left to right. -/
def lftB (a b:Lt):Bool:=decide (a.gate < b.gate)||(a.gate==b.gate&&decide (a.rank < b.rank))
def insX (L:List Lt) (i:Nat):List Nat→List Nat
 | []=>[i]
 | x :: X=>if lftB (la L x) (la L i) then x :: insX L i X else i :: x :: X
def axTo (L:List Lt):Nat→List Nat
 | 0=>[]
 | m+1=>if isP (la L m) then insX L m (axTo L m) else axTo L m
def axL (L:List Lt):List Nat:=axTo L L.length
/-- The walk that always turns left. -/
def othN (L:List Lt) (i:Nat):Nat:=((List.range L.length).find? (fun j=>j != i&&isC (la L j)&&(la L j).id==(la L i).id)).getD i
def idxN (X:List Nat) (v:Nat):Nat:=X.findIdx (·==v)
def xat (X:List Nat) (i:Nat):Nat:=(X[i]?).getD 0
def zAC (n i:Nat) (f:Bool):Nat:=if f then 2*i else 2*((i+n-1) % n)+1
def zAy (n d:Nat):Nat:=if d % 2=0 then (d / 2+1) % n else d / 2
def zAV (L:List Lt) (X:List Nat) (d:Nat):Nat :=
 if 2*L.length≤d then
  if d % 2=0 then zAC L.length (xat X (((d-2*L.length) / 2+1) % X.length)) (!dwn L (xat X (((d-2*L.length) / 2+1) % X.length)))
  else zAC L.length (xat X ((d-2*L.length) / 2)) (dwn L (xat X ((d-2*L.length) / 2)))
 else if isC (la L (zAy L.length d)) then zAC L.length (othN L (zAy L.length d)) ((d % 2==0)==((la L (zAy L.length d)).over==((la L (zAy L.length d)).sign==1)))
 else if dwn L (zAy L.length d)==(d % 2==0) then 2*L.length+2*idxN X (zAy L.length d)
 else 2*L.length+2*((idxN X (zAy L.length d)+X.length-1) % X.length)+1
def sat (s:List Bool) (x:Nat):Bool:=(s[x]?).getD true
def zBF (f:Nat→Nat):Nat→List Bool→Nat→List Nat×List Bool
 | 0,s,_=>([],s)
 | k+1,s,x=>if sat s x then ([],s) else (x :: (zBF f k (s.set x true) (f x)).1,(zBF f k (s.set x true) (f x)).2)
def zAX (f:Nat→Nat):List Nat→List Bool→List (List Nat)
 | [],_=>[]
 | d :: ds,s=>if sat s d then zAX f ds s else (zBF f s.length s d).1 :: zAX f ds (zBF f s.length s d).2
def zAq (L:List Lt):Nat:=2*L.length+2*(axL L).length
def zCr (L:List Lt):List (List Nat):=zAX (zAV L (axL L)) (List.range (zAq L)) (List.replicate (zAq L) false)
def zFq (L:List Lt):Bool:=(zCr L).length==pN L L.length+cN L L.length / 2+2
/-- The error of a code: 0 OK, 2 ErrArg, 3 ErrCode, 7 ErrLong. -/
def zAo (K:Int) (L:List Lt):Bool:=isP (la L 0)&&decide (pN L L.length % 2=0)&&zBJ K L&&zFq L
def zAp (K:Int) (L:List Lt):Int :=
 if 400 < L.length∨200 < cN L L.length then 7 else if K < 0∨40 < K then 2 else if L.length=0 then 0 else if zAo K L then 0 else 3
end Go.Proofs.YtlmdfmnbcndhoaaGreatDoor
namespace Go.Proofs.YtlmdfmnbcndhoaaGreatDoor
open Go.RowKit
structure LtOk (l:Lt):Prop where
 kind:I64 l.kind
 gate:I64 l.gate
 rank:I64 l.rank
 id:I64 l.id
 sign:I64 l.sign
/-- The six cells of a letter. -/
structure LtAt (w:World) (g p:Nat) (l:Lt):Prop where
 kind:w.cell? ⟨g,p,none⟩=some (.int .i64 l.kind)
 gate:w.cell? ⟨g,p+1,none⟩=some (.int .i64 l.gate)
 rank:w.cell? ⟨g,p+2,none⟩=some (.int .i64 l.rank)
 id:w.cell? ⟨g,p+3,none⟩=some (.int .i64 l.id)
 sign:w.cell? ⟨g,p+4,none⟩=some (.int .i64 l.sign)
 over:w.cell? ⟨g,p+5,none⟩=some (.bool l.over)
/-- The slice '.slice A n c' reads as the list L of letters. -/
def Lets (w:World) (A:Option Addr) (n:Nat) (L:List Lt):Prop :=
 L.length=n∧n≤2932031007402∧(∀x∈L,LtOk x) ∧
 (0 < n→∃g o,A=some ⟨g,o,none⟩∧g < w.heap.size∧∀j x,L[j]? = some x→LtAt w g (o+j*6) x)
theorem LtAt.keep {w w':World} {g p:Nat} {l:Lt} (h:LtAt w g p l) (hk:∀q:Addr,q.block=g→w'.cell? q=w.cell? q):LtAt w' g p l :=
 ⟨(hk _ rfl).trans h.kind,(hk _ rfl).trans h.gate,(hk _ rfl).trans h.rank,(hk _ rfl).trans h.id,(hk _ rfl).trans h.sign,(hk _ rfl).trans h.over⟩
section
variable {w w':World} {A:Option Addr} {n:Nat} {L:List Lt}
theorem Lets.len (h:Lets w A n L):L.length=n:=h.1
theorem Lets.le (h:Lets w A n L):n≤2932031007402:=h.2.1
theorem Lets.fits (h:Lets w A n L):∀x∈L,LtOk x:=h.2.2.1
theorem Lets.nil (w:World) (A:Option Addr):Lets w A 0 []:=⟨rfl,by omega,by simp,fun h=>absurd h (by omega)⟩
/-- Inside a round: the address, the letter, its cells. -/
theorem Lets.at_ {k:Nat} (h:Lets w A n L) (hk:k < n):∃g o,A=some ⟨g,o,none⟩∧g < w.heap.size∧LtAt w g (o+k*6) (la L k)∧LtOk (la L k):=by
 obtain ⟨hl,_,hf,hc⟩:=h
 obtain ⟨g,o,e,hb,hcell⟩:=hc (by omega)
 have hx:L[k]? = some L[k]:=List.getElem?_eq_getElem (by omega)
 rw [la_of hx]
 exact ⟨g,o,e,hb,hcell k _ hx,hf _ (List.getElem_mem (by omega))⟩
/-- Another letter of a slice whose address is known. -/
theorem Lets.also {g o k:Nat} (h:Lets w (some ⟨g,o,none⟩) n L) (hk:k < n):LtAt w g (o+k*6) (la L k)∧LtOk (la L k):=by
 obtain ⟨g',o',e,_,h1,h2⟩:=h.at_ hk
 injection e with e
 injection e with e1 e2
 subst e1;subst e2
 exact ⟨h1,h2⟩
theorem Lets.keep (h:Lets w A n L) (hs:w.heap.size≤w'.heap.size) (hk:∀p:Addr,p.block < w.heap.size→w'.cell? p=w.cell? p):Lets w' A n L :=
 ⟨h.1,h.2.1,h.2.2.1,fun hn=>by
  obtain ⟨g,o,e,hb,hc⟩:=h.2.2.2 hn
  exact ⟨g,o,e,by omega,fun j x hx=>(hc j x hx).keep fun q hq=>hk q (by rw [hq];exact hb)⟩⟩
theorem Lets.below (h:Lets w A n L) (hb:Below w.heap.size w w'):Lets w' A n L:=h.keep hb.size fun _ hp=>hb.cell hp
theorem Lets.alloc (h:Lets w A n L) (o:Obj):Lets (w.alloc o) A n L:=h.below ((Below.refl _ _).alloc (Nat.le_refl _) o)
end
theorem isP_t {l:Lt} (h:l.kind=1):isP l=true:=by unfold isP;simp [h]
theorem isP_f {l:Lt} (h:¬l.kind=1):isP l=false:=by unfold isP;simp [h]
theorem isC_t {l:Lt} (h:l.kind=2):isC l=true:=by unfold isC;simp [h]
theorem isC_f {l:Lt} (h:¬l.kind=2):isC l=false:=by unfold isC;simp [h]
theorem pN_le (L:List Lt) (k:Nat):pN L k≤k:=zCJ _ _
theorem cN_le (L:List Lt) (k:Nat):cN L k≤k:=zCJ _ _
end Go.Proofs.YtlmdfmnbcndhoaaGreatDoor
namespace Go.Proofs.YtlmdfmnbcndhoaaGreatDoor
open Go.RowKit
set_option maxHeartbeats 400000 in
theorem code_Passes (K:Int) (A:Option Addr) (n c:Nat) (L:List Lt) (w:World) (hA:Lets w A n L) :
  Calls Tryz.prog 199 #[.agg #[.int .i64 K,.slice A n c]] w fun e w'=>e=.returned (.int .i64 (pN L n))∧Below w.heap.size w w':=by
 have hle:=hA.le
 go_enter Tryz.func199,Tryz.ntmps199
 go_wp2
 go_loopw [3,5,9] (fun v3 _ v9 wr=>∃k:Nat,k≤n∧v9=.int .i64 k∧v3=.int .i64 (pN L k)∧Below w.heap.size w wr) (fun _ _ i _=>n-(intOf i).toNat)
 case atStart=>exact ⟨0,Nat.zero_le _,rfl,rfl,(Below.refl _ _).alloc (Nat.le_refl _) _⟩
 case round =>
  obtain ⟨k,hk,rfl,rfl,hb⟩:=hrel
  have hpk:=pN_le L k
  by_cases hlt:k < n
  ·obtain ⟨g,o,rfl,hg,hx,hok⟩:=(hA.below hb).at_ hlt
   obtain ⟨h0,h1,h2,h3,h4,h5⟩:=hx
   by_cases hp:(la L k).kind=1
   ·have hs:=Lib.hid (show pN L (k+1)=pN L k+1 from zAj (isP_t hp))
    go_wp2_with fail
    go_roundw
    case rel=>exact ⟨k+1,by omega,by go_num,by rw [hs.out];go_num,hb.alloc hb.size _⟩
    case measure=>simp [intOf];omega
   ·have hs:=Lib.hid (show pN L (k+1)=pN L k from zAi (isP_f hp))
    have hp':((la L k).kind==1)=false:=by simpa using hp
    go_wp2_with fail
    go_roundw
    case rel=>exact ⟨k+1,by omega,by go_num,by rw [hs.out],hb.alloc hb.size _⟩
    case measure=>simp [intOf];omega
  ·go_wp2_with fail
   go_ret
   have hkn:k=n:=by omega
   subst hkn
   exact ⟨rfl,hb⟩
set_option maxHeartbeats 400000 in
theorem zBh (K:Int) (A:Option Addr) (n c:Nat) (L:List Lt) (w:World) (hA:Lets w A n L) :
  Calls Tryz.prog 91 #[.agg #[.int .i64 K,.slice A n c]] w fun e w'=>e=.returned (.int .i64 (cN L n))∧Below w.heap.size w w':=by
 have hle:=hA.le
 go_enter Tryz.func91,Tryz.ntmps91
 go_wp2
 go_loopw [3,5,9] (fun v3 _ v9 wr=>∃k:Nat,k≤n∧v9=.int .i64 k∧v3=.int .i64 (cN L k)∧Below w.heap.size w wr) (fun _ _ i _=>n-(intOf i).toNat)
 case atStart=>exact ⟨0,Nat.zero_le _,rfl,rfl,(Below.refl _ _).alloc (Nat.le_refl _) _⟩
 case round =>
  obtain ⟨k,hk,rfl,rfl,hb⟩:=hrel
  have hpk:=cN_le L k
  by_cases hlt:k < n
  ·obtain ⟨g,o,rfl,hg,hx,hok⟩:=(hA.below hb).at_ hlt
   obtain ⟨h0,h1,h2,h3,h4,h5⟩:=hx
   by_cases hp:(la L k).kind=2
   ·have hs:=Lib.hid (show cN L (k+1)=cN L k+1 from zAj (isC_t hp))
    go_wp2_with fail
    go_roundw
    case rel=>exact ⟨k+1,by omega,by go_num,by rw [hs.out];go_num,hb.alloc hb.size _⟩
    case measure=>simp [intOf];omega
   ·have hs:=Lib.hid (show cN L (k+1)=cN L k from zAi (isC_f hp))
    have hp':((la L k).kind==2)=false:=by simpa using hp
    go_wp2_with fail
    go_roundw
    case rel=>exact ⟨k+1,by omega,by go_num,by rw [hs.out],hb.alloc hb.size _⟩
    case measure=>simp [intOf];omega
  ·go_wp2_with fail
   go_ret
   have hkn:k=n:=by omega
   subst hkn
   exact ⟨rfl,hb⟩
end Go.Proofs.YtlmdfmnbcndhoaaGreatDoor
