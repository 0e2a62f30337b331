/-
  Lemmas for NotesLong, part 1: contracts and plain facts. Conditions: those that each theorem names.
-/
import Derived.Test.YtlmdfmnbcndhoaaGreatDoorProg
import Derived.WalkKit
import Derived.Deep.QuietTactic
import Derived.BigQuiet
import Derived.Lib.Hide
import Derived.Laws.OwnMore
import Derived.Maps.AppendAt
import Derived.Deep.AppendLies
import Derived.Deep.LoopGhost
import Derived.Deep.DeepFit
import Derived.Deep.DeepMust
import Derived.Outline
import Derived.Lib.ItoaNum
namespace Go.Proofs.YtlmdfmnbcndhoaaGreatDoor
open Go.RowKit
def Drawn (w w':World):Prop:=∃m,w'=w.drewN m
theorem Drawn.refl (w:World):Drawn w w:=⟨0,rfl⟩
theorem zOu (w:World) (m:Nat):Drawn w (w.drewN m):=⟨m,rfl⟩
theorem zAf {B:Nat} {a w:World} (h:Below B a w) (n:Nat):Below B a (w.drewN n):=⟨h.os,h.tape,h.output,h.size,h.block⟩
theorem zAa {B C:Nat} {a b c:World} (h:Below B a b) (k:Below C b c) (hB:B≤C):Below B a c:=h.trans (k.mono hB)
theorem zCM (a:Addr) (n:Nat):(a.add n).block=a.block:=by unfold Addr.add;split<;>rfl
theorem zNq (a:Addr) (i j:Nat):(a.add i).add j=a.add (i+j):=by
 unfold Addr.add;by_cases hi:i=0<;>by_cases hj:j=0<;>simp [hi,hj,Nat.add_assoc]
def I64 (x:Int):Prop:=-9223372036854775808≤x∧x≤9223372036854775807
def Ints (w:World) (A:Option Addr) (n:Nat) (L:List Int):Prop :=
 L.length=n∧n≤17592186044416∧(∀x∈L,I64 x) ∧
 (0 < n→∃ad,A=some ad∧ad.block < w.heap.size∧∀j x,L[j]? = some x→w.cell? (ad.add j)=some (.int .i64 x))
theorem Ints.len {w:World} {A:Option Addr} {n:Nat} {L:List Int} (h:Ints w A n L):L.length=n:=h.1
theorem Ints.le {w:World} {A:Option Addr} {n:Nat} {L:List Int} (h:Ints w A n L):n≤17592186044416:=h.2.1
theorem Ints.fits {w:World} {A:Option Addr} {n:Nat} {L:List Int} (h:Ints w A n L):∀x∈L,I64 x:=h.2.2.1
theorem Ints.at_ {w:World} {A:Option Addr} {n k:Nat} {L:List Int} (h:Ints w A n L) (hk:k < n) :
  ∃ad x,A=some ad∧Hid (L[k]? = some x)∧-9223372036854775808≤x∧x≤9223372036854775807∧w.cell? (ad.add k)=some (.int .i64 x):=by
 obtain ⟨hl,_,hf,hc⟩:=h;obtain ⟨ad,e,_,hcell⟩:=hc (by omega);have hkl:k < L.length:=by omega
 have hx:L[k]? = some L[k]:=List.getElem?_eq_getElem hkl;have:=hf L[k] (List.getElem_mem hkl);exact ⟨ad,L[k],e,hx,this.1,this.2,hcell k _ hx⟩
theorem Ints.keep {w w':World} {A:Option Addr} {n:Nat} {L:List Int} (h:Ints w A n L) (hs:w.heap.size≤w'.heap.size)
  (hk:∀p:Addr,p.block < w.heap.size→w'.cell? p=w.cell? p):Ints w' A n L :=
 ⟨h.1,h.2.1,h.2.2.1,fun hn=>by
  obtain ⟨ad,e,hb,hc⟩:=h.2.2.2 hn
  exact ⟨ad,e,by omega,fun j x hx=>(hk _ (by rw [zCM];exact hb)).trans (hc j x hx)⟩⟩
theorem Ints.below {w w':World} {A:Option Addr} {n:Nat} {L:List Int} (h:Ints w A n L) (hb:Below w.heap.size w w'):Ints w' A n L :=
 h.keep hb.size fun _ hp=>hb.cell hp
theorem Ints.alloc {w:World} {A:Option Addr} {n:Nat} {L:List Int} (h:Ints w A n L) (o:Obj):Ints (w.alloc o) A n L :=
 h.below ((Below.refl _ _).alloc (Nat.le_refl _) o)
theorem zAj {a b:Bool} (h:a=b):Ending.returned (.bool a)=.returned (.bool b):=by rw [h]
theorem zAo {k:IntKind} {a b:Int} (h:a=b):Ending.returned (.int k a)=.returned (.int k b):=by rw [h]
end Go.Proofs.YtlmdfmnbcndhoaaGreatDoor
namespace Go.Proofs.YtlmdfmnbcndhoaaGreatDoor
open Go.RowKit
structure Fg where
 p:Int
 r:Bool
 d:Int
instance : DecidableEq Fg := fun a b =>
 if h:a.p=b.p∧a.r=b.r∧a.d=b.d then .isTrue (by cases a;cases b;simp at h;simp [h])
 else .isFalse (fun e=>h (by subst e;simp))
def fgB (x y:Fg):Bool:=x.p==y.p&&x.r==y.r&&x.d==y.d
theorem zKZ {x y:Fg}:fgB x y=true↔x=y:=by
 cases x;cases y
 simp [fgB,and_assoc]
theorem zMl (x:Fg):fgB x x=true:=zKZ.2 rfl
def df:Fg:=⟨0,false,0⟩
def fa (L:List Fg) (i:Nat):Fg:=(L[i]?).getD df
theorem zVN {L:List Fg} {i:Nat} {x:Fg} (h:L[i]? = some x):fa L i=x:=by unfold fa;rw [h];rfl
theorem zMm {L:List Fg} {i:Nat} (h:i < L.length):L[i]? = some (fa L i):=by unfold fa;rw [List.getElem?_eq_getElem h];rfl
def zBb:List Fg→Fg→Nat
 | [],_=>0
 | x :: L,f=>if x=f then 1 else if zBb L f=0 then 0 else zBb L f+1
theorem zFe {f:Fg}:∀{L:List Fg},(∀j:Nat,L[j]?≠some f)→zBb L f=0
 | [],_=>rfl
 | x :: L,h=>by
  have h0:x≠f:=fun e=>h 0 (by rw [e];rfl)
  have h1:zBb L f=0:=zFe fun j e=>h (j+1) (by simpa using e)
  rw [zBb,if_neg h0,if_pos h1]
theorem zHc {f:Fg}:∀{L:List Fg} {i:Nat},L[i]? = some f→(∀j,j < i→L[j]?≠some f)→zBb L f=i+1
 | [],i,h,_=>by simp at h
 | x :: L,0,h,_=>by
  have:x=f:=by simpa using h
  rw [zBb,if_pos this]
 | x :: L,i+1,h,hj=>by
  have h0:x≠f:=fun e=>hj 0 (by omega) (by rw [e];rfl)
  have h1:zBb L f=i+1:=zHc (by simpa using h) fun j hji e=>hj (j+1) (by omega) (by simpa using e)
  rw [zBb,if_neg h0,h1,if_neg (by omega)]
theorem zIV {f:Fg}:∀{L:List Fg} {i:Nat},zBb L f=i+1→L[i]? = some f∧∀j,j < i→L[j]?≠some f
 | [],i,h=>by simp [zBb] at h
 | x :: L,i,h=>by
  rw [zBb] at h;by_cases h0:x=f
  ·rw [if_pos h0] at h;obtain rfl:i=0:=by omega
   exact ⟨by rw [h0];rfl,fun j hj=>by omega⟩
  ·rw [if_neg h0] at h;by_cases h1:zBb L f=0
   ·rw [if_pos h1] at h;omega
   ·rw [if_neg h1] at h;obtain ⟨k,rfl⟩:∃k,i=k+1:=⟨i-1,by omega⟩
    obtain ⟨h2,h3⟩:=zIV (L:=L) (i:=k) (f:=f) (by omega);refine ⟨by simpa using h2,fun j hj=>?_⟩;rcases j with _ | j
    ·intro e;exact h0 (by simpa using e)
    ·intro e;exact h3 j (by omega) (by simpa using e)
theorem zOv {f:Fg} {L:List Fg} (h:zBb L f=0):∀j:Nat,L[j]?≠some f:=by
 intro j e;have hx:∃i:Nat,L[i]? = some f∧∀j:Nat,j < i→L[j]?≠some f:=by
  induction j using Nat.strongRecOn with
  | _ j ih =>
   by_cases hm:∃k:Nat,k < j∧L[k]? = some f
   ·obtain ⟨k,hk,hkf⟩:=hm;exact ih k hk hkf
   ·exact ⟨j,e,fun k hk e2=>hm ⟨k,hk,e2⟩⟩
 obtain ⟨i,h1,h2⟩:=hx;have:=zHc h1 h2;omega
theorem zEH {f:Fg} {L:List Fg}:zBb L f≤L.length:=by
 cases h:zBb L f with
 | zero=>omega
 | succ i=>have:=(List.getElem?_eq_some_iff.1 (zIV h).1).1;omega
theorem zJY {L:List Fg} {i:Nat} (hi:i < L.length):zBb (L.take i) (fa L i)=0↔zBb L (fa L i)=i+1:=by
 constructor
 ·intro h;refine zHc (zMm hi) fun j hj e=>?_
  have:=zOv h j;rw [List.getElem?_take_of_lt hj] at this;exact this e
 ·intro h;refine zFe fun j e=>?_
  rw [List.getElem?_take] at e;split at e
  ·rename_i hj;exact (zIV h).2 j hj e
  ·cases e
def zAx (f:Fg):Bool:=decide (1≤f.p)&&decide (f.p≤9)&&decide (0≤f.d)&&decide (f.d≤6)
theorem zAP {f:Fg}:zAx f=true↔1≤f.p∧f.p≤9∧0≤f.d∧f.d≤6:=by simp [zAx,and_assoc]
def zEv (L:List Fg) (i:Nat):Bool:=zAx (fa L i)&&decide (zBb (L.take i) (fa L i)=0)
def frOk (L:List Fg) (re lo:Int):Prop:=L.length≤40∧0≤re∧re≤40∧1≤lo∧lo≤20∧∀i,i < L.length→zEv L i=true
def frB (L:List Fg) (re lo:Int):Bool :=
 decide (L.length≤40)&&decide (0≤re)&&decide (re≤40)&&decide (1≤lo)&&decide (lo≤20)&&(List.range L.length).all fun i=>zEv L i
theorem zCA {L:List Fg} {re lo:Int}:frB L re lo=true↔frOk L re lo:=by simp [frB,frOk,and_assoc]
theorem frOk.there {L:List Fg} {re lo:Int} (h:frOk L re lo) {i:Nat} (hi:i < L.length):zAx (fa L i)=true:=by
 have:=h.2.2.2.2.2 i hi;unfold zEv at this;simp only [Bool.and_eq_true] at this;exact this.1
def zAq (f:Fg):List UInt8:=(if f.p=1 then [] else Lib.itoa f.p)++(if f.r then 82 else 76) :: Lib.itoa f.d
end Go.Proofs.YtlmdfmnbcndhoaaGreatDoor
namespace Go.Proofs.YtlmdfmnbcndhoaaGreatDoor
open Go.RowKit
theorem zLa:(Tryz.prog.info? 3).map (fun i=>(i.zero,i.size,i.bytes))=some (some (.int .i64 0),1,8):=by kernel_rfl
structure Own (w:World) (base:Nat) (A:Option Addr) (n c:Nat) (L:List Int):Prop where
 row:w.ownsRow base 3 1 (.slice A n c) n (L.map (Value.int .i64))
 len:L.length=n
 le:n≤17592186044416
 fits:∀x∈L,I64 x
def blk:Option Addr→Option Nat
 | some a=>some a.block
 | none=>none
theorem zFU (A:Option Addr) (n c:Nat):Value.ownBlock (.slice A n c)=blk A:=by cases A<;>rfl
section
variable {w w':World} {base:Nat} {A:Option Addr} {n c:Nat} {L:List Int}
theorem Own.nil (w:World) (base:Nat):Own w base none 0 0 []:=⟨World.ownsRow_nil _ _ _ _,rfl,by omega,by simp⟩
theorem Own.ints (h:Own w base A n c L):Ints w A n L:=by
 refine ⟨h.len,h.le,h.fits,fun hn=>?_⟩;obtain ⟨g,cap,hv,_,hlt⟩:=h.row.form hn;have hA:A=some ⟨g,0,none⟩:=by injection hv
 subst hA;refine ⟨_,rfl,hlt,fun j x hx=>?_⟩;exact h.row.cells (g:=g) rfl j _ (by rw [List.getElem?_map,hx];rfl)
theorem Own.alloc (h:Own w base A n c L) (o:Obj):Own (w.alloc o) base A n c L:=⟨h.row.alloc o,h.len,h.le,h.fits⟩
theorem Own.drew (h:Own w base A n c L):Own w.drew base A n c L:=⟨h.row,h.len,h.le,h.fits⟩
theorem Own.lt (h:Own w base A n c L):∀k,blk A=some k→base≤k∧k < w.heap.size:=fun k hk=>h.row.lt k (by rw [zFU];exact hk)
theorem Own.kept {row:Option Nat} (h:Own w base A n c L) (hg:w.grownBy w' row) (hne:blk A=none∨blk A≠row):Own w' base A n c L :=
 ⟨h.row.kept hg (by rw [zFU];exact hne),h.len,h.le,h.fits⟩
theorem Own.below (h:Own w base A n c L) (hb:Below w.heap.size w w'):Own w' base A n c L:=by
 refine h.kept (row:=none) ⟨hb.os,hb.tape,hb.output,hb.size,fun k hk _=>hb.block k hk⟩ ?_
 cases blk A
 ·exact .inl rfl
 ·exact .inr (by simp)
theorem Own.mono {base':Nat} (h:Own w base A n c L) (hb:base'≤base):Own w base' A n c L:=by
 refine ⟨⟨h.row.1,?_⟩,h.len,h.le,h.fits⟩;rcases h.row.2 with h1 | ⟨g,cap,cur,hv,hg,r⟩
 ·exact .inl h1
 ·exact .inr ⟨g,cap,cur,hv,by omega,r⟩
theorem Own.cap (h:Own w base A n c L):n≤c:=by
 rcases h.row.2 with ⟨h1,h2⟩ | ⟨g,cap,cur,hv,_,_,h2,_⟩
 ·omega
 ·injection hv with _ _ h3;omega
end
theorem app1 {w:World} {ops:Array Oper} {rest:List Oper} {o:Oper} {a:Act} {Q:Exit→Act→World→Prop} (hgd:o.guard=none) (s x:Operand)
  (ho:o.op=.call { callee:=.builtin .append,args:=#[s,x],argTypes:=#[79,79] })
  {base:Nat} {A:Option Addr} {n c:Nat} {L:List Int} (hown:Own w base A n c L) (y:Int) (hs:a.eval s=.slice A n c)
  {ad:Addr} {cc:Nat} (hx:a.eval x=.slice (some ad) 1 cc) (hcell:w.cell? ad=some (.int .i64 y)) (hy:I64 y) (hn:n < 17592186044416) (hbase:base≤w.heap.size)
  (h:∀A' c' w',Own w' base A' (n+1) c' (L++[y])→Below base w w'→w.grownBy w' (blk A)→(blk A'=blk A∨blk A'=some w.heap.size)→wpList Tryz.prog ops Q rest (a.put o.dst (.slice A' (n+1) c')) w') :
  wpList Tryz.prog ops Q (o :: rest) a w:=by
 obtain ⟨i0,hi,hz0,hz1,hz2⟩:=info_parts zLa;have hnews:∀j u,([Value.int .i64 y]:List Value)[j]? = some u→w.cell? (ad.add j)=some u:=by
  intro j u hj
  match j,hj with
  | 0,hj=>simp at hj;subst hj;simpa [Addr.add] using hcell
 refine wpList_append_lies w hgd s x 79 ho base 3 i0 (.int .i64 0) 1 8 Tryz.underlying79 hi hz0 hz1 hz2 rfl (by decide) (.slice A n c) n _ hs hown.row ad 1 cc [.int .i64 y] hx rfl hnews
  (by intro u hu;simp at hu;subst hu;rfl) (by decide) (by unfold maxLen;omega) (by omega) hbase w.heap.size rfl ?_
 intro g cap w' h1 h2 h3 h4;rw [zFU] at h2 h3;refine h _ _ _ ⟨by simpa using h1,by simp [hown.len],by omega,?_⟩ ((Below.refl _ _).grown h2 hbase (fun k hk=>(hown.lt k hk).1)) h2 ?_
 ·intro z hz;rcases List.mem_append.1 hz with hz | hz
  ·exact hown.fits z hz
  ·simp at hz;subst hz;exact hy
 ·rcases h3 with h3 | h3
  ·exact .inl (by rw [h3];rfl)
  ·exact .inr (by rw [←h3];rfl)
theorem zVO {w:World} {ops:Array Oper} {rest:List Oper} {o:Oper} {a:Act} {Q:Exit→Act→World→Prop} (hgd:o.guard=none) (s x:Operand)
  (ho:o.op=.call { callee:=.builtin .append,args:=#[s,x],argTypes:=#[79,79] })
  {base:Nat} {A:Option Addr} {n c:Nat} {L:List Int} (hown:Own w base A n c L) (y:Int) (hs:a.eval s=.slice A n c)
  (hx:a.eval x=.slice (some ⟨w.heap.size,0,none⟩) 1 1) (hy:I64 y) (hn:n < 17592186044416) (hbase:base≤w.heap.size)
  (h:∀A' c' w',Own w' base A' (n+1) c' (L++[y])→Below base w w'→(w.alloc (.cells #[.int .i64 y] 3)).grownBy w' (blk A)→(blk A'=blk A∨blk A'=some (w.heap.size+1))→wpList Tryz.prog ops Q rest (a.put o.dst (.slice A' (n+1) c')) w') :
  wpList Tryz.prog ops Q (o :: rest) a (w.alloc (.cells #[.int .i64 y] 3)) :=
 app1 hgd s x ho (hown.alloc _) y hs hx (by rw [World.cell?_alloc_at _ _ _ _ rfl];rfl) hy hn (by simp;omega) fun A' c' w' h1 h2 h3 h4 =>
  h A' c' w' h1 (((Below.refl _ _).alloc hbase _).trans h2) h3 (by simpa using h4)
theorem zVP {w:World} {ops:Array Oper} {rest:List Oper} {o:Oper} {a:Act} {Q:Exit→Act→World→Prop} (hgd:o.guard=none) (s x:Operand)
  (ho:o.op=.call { callee:=.builtin .append,args:=#[s,x],argTypes:=#[79,79] })
  {base:Nat} {A:Option Addr} {n c:Nat} {L:List Int} (hown:Own w base A n c L) (y:Int) (hs:a.eval s=.slice A n c)
  (H:Nat) (hH:w.heap.size=H) (hx:a.eval x=.slice (some ⟨H,0,none⟩) 1 1) (hy:I64 y) (hn:n < 17592186044416) (hbase:base≤w.heap.size)
  (h:∀A' c' w',Own w' base A' (n+1) c' (L++[y])→Below base w w'→(w.alloc (.cells #[.int .i64 y] 3)).grownBy w' (blk A)→(blk A'=blk A∨blk A'=some (w.heap.size+1))→wpList Tryz.prog ops Q rest (a.put o.dst (.slice A' (n+1) c')) w') :
  wpList Tryz.prog ops Q (o :: rest) a (w.alloc (.cells #[.int .i64 y] 3)) :=
 zVO hgd s x ho hown y hs (by rw [hH];exact hx) hy hn hbase h
theorem zFV {P:Program} (w:World) (base:Nat) (t ty e:TypeId) (i:TypeInfo) (size:Nat) (ht:P.underlying t=some (.slice e)) (hi:P.info? e=some i)
  (v:Value) (n:Nat) (xs:List Value) (hown:w.ownsRow base e size v n xs) (c:Nat):(Builtin.append_ #[t,t] ty #[v,.slice none 0 c]).run P w=.ok v w:=by
 rcases hown.2 with ⟨rfl,rfl⟩ | ⟨g,cap,cur,rfl,_,_,hnc,_⟩
 ·simp [Builtin.append_,run_underlying ht,sizeOf,typeInfo,hi,Builtin.lenOf,Builtin.firstCells]
 ·simp [Builtin.append_,run_underlying ht,sizeOf,typeInfo,hi,Builtin.lenOf,Builtin.firstCells,hnc,storeCells]
theorem zQP {w:World} {base:Nat} {A:Option Addr} {n c:Nat} {L:List Int} (hown:Own w base A n c L) {B:Option Addr} {m d:Nat} {M:List Int} (hB:Ints w B m M)
  (hn:n+m≤17592186044416) (hbase:base≤w.heap.size) :
  ∃A' c' w',(Builtin.append_ #[79,79] 79 #[.slice A n c,.slice B m d]).run Tryz.prog w=.ok (.slice A' (n+m) c') w'∧Own w' base A' (n+m) c' (L++M)∧Below base w w'∧w.grownBy w' (blk A)∧(blk A'=blk A∨blk A'=some w.heap.size):=by
 obtain ⟨i0,hi,hz0,hz1,hz2⟩:=info_parts zLa;have hfit:∀x∈L++M,I64 x:=fun z hz=>(List.mem_append.1 hz).elim (hown.fits z) (hB.fits z)
 have hlen:(L++M).length=n+m:=by rw [List.length_append,hown.len,hB.len]
 rcases B with _ | ad
 ·have hm:m=0:=by
   rcases Nat.eq_zero_or_pos m with h0 | h0
   ·exact h0
   ·obtain ⟨ad,h,_⟩:=hB.2.2.2 h0
    cases h
  subst hm;have hM:M=[]:=List.eq_nil_of_length_eq_zero hB.len;subst hM;exact ⟨A,c,w,zFV w base _ _ _ i0 1 Tryz.underlying79 hi _ n _ hown.row d,by simpa using hown,Below.refl _ _,World.grownBy.refl w _,.inl rfl⟩
 ·have hcells:∀j u,(M.map (Value.int .i64))[j]? = some u→w.cell? (ad.add j)=some u:=by
   intro j u hu;rw [List.getElem?_map] at hu;obtain ⟨x,hx,rfl⟩:=Option.map_eq_some_iff.1 hu;have hjm:j < M.length:=(List.getElem?_eq_some_iff.1 hx).1;have hpos:0 < m:=by have:=hB.len;omega
   obtain ⟨ad',h,_,hc⟩:=hB.2.2.2 hpos;obtain rfl:=Option.some.inj h;exact hc j x hx
  obtain ⟨v',w',hrun,h2,h3,h4,h5⟩:=run_append_own_at (P:=Tryz.prog) w base 79 79 3 i0 (.int .i64 0) 1 8 Tryz.underlying79 hi hz0 hz1 hz2 rfl (by decide) _ n _ hown.row ad m d (M.map (Value.int .i64)) (by simp [hB.len]) hcells
   (ints_oneCell _ _) (by unfold maxLen;omega) (by omega) hbase
  have hform:∃A' c',v'=.slice A' (n+m) c':=by
   rcases h2.2 with ⟨hv,hz⟩ | ⟨g,cap,cur,hv,_⟩
   ·rw [hz];exact ⟨none,0,hv⟩
   ·exact ⟨_,_,hv⟩
  obtain ⟨A',c',rfl⟩:=hform;rw [zFU] at h3;simp only [zFU] at h5;exact ⟨A',c',w',hrun,⟨by simpa using h2,hlen,hn,hfit⟩,(Below.refl _ _).grown h3 hbase (fun k hk=>(hown.lt k hk).1),h3,h5⟩
theorem zTb {w:World} {o:Oper} {a:Act} {K:Act→World→Prop} {Q:Exit→Act→World→Prop} (s x:Operand)
  (ho:o.op=.call { callee:=.builtin .append,args:=#[s,x],argTypes:=#[79,79] }) (hty:o.type=79)
  {base:Nat} {A:Option Addr} {n c:Nat} {L:List Int} (hown:Own w base A n c L) {B:Option Addr} {m d:Nat} {M:List Int} (hB:Ints w B m M) (hs:a.eval s=.slice A n c)
  (hx:a.eval x=.slice B m d) (N:Nat) (hN:n+m=N) (hn:N≤17592186044416) (hbase:base≤w.heap.size)
  (h:∀A' c' w',Own w' base A' N c' (L++M)→Below base w w'→w.grownBy w' (blk A)→(blk A'=blk A∨blk A'=some w.heap.size)→K (a.put o.dst (.slice A' N c')) w') :
  o.wp Tryz.prog a w K Q:=by
 subst hN;obtain ⟨A',c',w',hrun,h1,h2,h3,h4⟩:=zQP (d:=d) hown hB hn hbase;unfold Oper.wp execOp;simp only [ho,hty,resolve,invoke,builtin,Sem.run_bind,Sem.run_pure,Result.andThen_ok,List.map_toArray,List.map_cons,List.map_nil,hs,hx,hrun];exact h A' c' w' h1 h2 h3 h4
theorem zVQ {w:World} {ops:Array Oper} {o:Oper} {a:Act} {K:Act→World→Prop} {Q:Exit→Act→World→Prop} {E:Prop} (hgd:o.guard=none) (s x:Operand)
  (ho:o.op=.call { callee:=.builtin .append,args:=#[s,x],argTypes:=#[79,79] }) (hty:o.type=79)
  {base:Nat} {A:Option Addr} {n c:Nat} {L:List Int} (hown:Own w base A n c L) {B:Option Addr} {m d:Nat} {M:List Int} (hB:Ints w B m M) (hs:a.eval s=.slice A n c)
  (hx:a.eval x=.slice B m d) (N:Nat) (hN:n+m=N) (hn:N≤17592186044416) (hbase:base≤w.heap.size)
  (h:∀A' c' w',Own w' base A' N c' (L++M)→Below base w w'→w.grownBy w' (blk A)→(blk A'=blk A∨blk A'=some w.heap.size)→K (a.put o.dst (.slice A' N c')) w') :
  if Region.wanted o (yielded ops a.tmps)=true then Oper.wp Tryz.prog o a w K Q else E:=by
 have hw:Region.wanted o (yielded ops a.tmps)=true:=by simp [Region.wanted,hgd]
 rw [if_pos hw];exact zTb s x ho hty hown hB hs hx N hN hn hbase h
theorem Ints.cut {w:World} {A:Option Addr} {n i j c:Nat} {L:List Int} (h:Ints w A n L) (hij:i≤j) (hj:j≤n) (hc:n≤c) :
  Ints w (if c=i then A else A.map (·.add i)) (j-i) ((L.take j).drop i):=by
 have hl:=h.len;refine ⟨by simp [hl];omega,by have:=h.le;omega,fun x hx=>h.fits x (List.mem_of_mem_take (List.mem_of_mem_drop hx)),fun hn=>?_⟩;obtain ⟨ad,rfl,hb,hcell⟩:=h.2.2.2 (by omega);rw [if_neg (by omega)];refine ⟨ad.add i,rfl,by rw [zCM];exact hb,fun t x hx=>?_⟩;rw [zNq];rw [List.getElem?_drop,List.getElem?_take] at hx;split at hx
 ·exact hcell _ x hx
 ·cases hx
theorem Ints.from {w:World} {A:Option Addr} {n i c:Nat} {L:List Int} (h:Ints w A n L) (hi:i≤n) (hc:n≤c) :
  Ints w (if c=i then A else A.map (·.add i)) (n-i) (L.drop i):=by
 have:=h.cut (i:=i) (j:=n) hi (Nat.le_refl _) hc
 rwa [List.take_of_length_le (by rw [h.len];exact Nat.le_refl _)] at this
theorem Ints.to {w:World} {A:Option Addr} {n i:Nat} {L:List Int} (h:Ints w A n L) (hi:i≤n):Ints w A i (L.take i):=by
 refine ⟨by simp [h.len];omega,by have:=h.le;omega,fun x hx=>h.fits x (List.mem_of_mem_take hx),fun hn=>?_⟩;obtain ⟨ad,rfl,hb,hcell⟩:=h.2.2.2 (by omega);refine ⟨ad,rfl,hb,fun t x hx=>hcell t x ?_⟩;rw [List.getElem?_take] at hx;split at hx
 ·exact hx
 ·cases hx
end Go.Proofs.YtlmdfmnbcndhoaaGreatDoor
namespace Go.Proofs.YtlmdfmnbcndhoaaGreatDoor
def NoneTo (p:Nat→Bool) (n:Nat):Prop:=∀i,i < n→p i=false
theorem NoneTo.zero (p:Nat→Bool):NoneTo p 0:=fun i h=>by omega
theorem NoneTo.succ {p:Nat→Bool} {n:Nat} (h:NoneTo p n) (hn:p n=false):NoneTo p (n+1):=fun i hi=>by
 by_cases e:i=n
 ·subst e;exact hn
 ·exact h i (by omega)
def zGv (p:Nat→Bool) (n:Nat):Int:=match (List.range n).find? p with
 | some i=>i
 | none=>-1
theorem zHd {p:Nat→Bool} {n:Nat} (h:NoneTo p n):(List.range n).find? p=none:=by
 rw [List.find?_eq_none];intro i hi;rw [List.mem_range] at hi;rw [h i hi];simp
theorem zMn {p:Nat→Bool} {n k:Nat} (h:NoneTo p k) (hk:p k=true) (hn:k < n):(List.range n).find? p=some k:=by
 induction n with
 | zero=>omega
 | succ n ih =>
  rw [List.range_succ,List.find?_append];by_cases e:k < n
  ·rw [ih e];rfl
  ·have:k=n:=by omega
   subst this;rw [zHd h];simp [hk]
theorem zEI {p:Nat→Bool} {n:Nat} (h:NoneTo p n):zGv p n = -1:=by unfold zGv;rw [zHd h]
theorem zFW {p:Nat→Bool} {n k:Nat} (h:NoneTo p k) (hk:p k=true) (hn:k < n):zGv p n=k:=by unfold zGv;rw [zMn h hk hn]
theorem zJZ (p:Nat→Bool) (n:Nat):(zGv p n = -1∧NoneTo p n)∨∃k,k < n∧zGv p n=(k:Int)∧NoneTo p k∧p k=true:=by
 induction n with
 | zero=>exact .inl ⟨zEI (NoneTo.zero p),NoneTo.zero p⟩
 | succ n ih =>
  rcases ih with ⟨_,h⟩ | ⟨k,hk,he,hn,hp⟩
  ·cases hp:p n with
   | false=>exact .inl ⟨zEI (h.succ hp),h.succ hp⟩
   | true=>exact .inr ⟨n,by omega,zFW h hp (by omega),h,hp⟩
  ·exact .inr ⟨k,by omega,zFW hn hp (by omega),hn,hp⟩
def zDl (p:Nat→Bool) (n:Nat):Bool:=(List.range n).all p
theorem zNr (p:Nat→Bool) (n:Nat):zDl p (n+1)=(zDl p n&&p n):=by
 unfold zDl;rw [List.range_succ];simp
theorem zNs {p:Nat→Bool} {n:Nat} (h:zDl p n=true) (hn:p n=true):zDl p (n+1)=true:=by rw [zNr,h,hn];rfl
theorem zDm {p:Nat→Bool} {n k:Nat} (hk:k < n) (h:p k=false):zDl p n=false:=by
 unfold zDl;rw [List.all_eq_false];exact ⟨k,List.mem_range.2 hk,by simp [h]⟩
theorem zAt {p:Nat→Bool} {n:Nat}:zDl p n=true↔∀i,i < n→p i=true:=by
 unfold zDl;rw [List.all_eq_true];exact ⟨fun h i hi=>h i (List.mem_range.2 hi),fun h i hi=>h i (List.mem_range.1 hi)⟩
def zAc (p:Nat→Bool):Nat→Nat
 | 0=>0
 | n+1=>zAc p n+(if p n then 1 else 0)
theorem zBv (p:Nat→Bool) (n:Nat):zAc p n≤n:=by
 induction n with
 | zero=>exact Nat.le_refl _
 | succ n ih=>unfold zAc;split<;>omega
theorem zAm {p:Nat→Bool} {n:Nat} (h:p n=true):zAc p (n+1)=zAc p n+1:=by simp [zAc,h]
theorem zAi {p:Nat→Bool} {n:Nat} (h:p n=false):zAc p (n+1)=zAc p n:=by simp [zAc,h]
end Go.Proofs.YtlmdfmnbcndhoaaGreatDoor
namespace Go.Proofs.YtlmdfmnbcndhoaaGreatDoor
theorem zBT {p q:Nat→Bool} {n:Nat} (h:∀m,m < n→p m=q m):zAc p n=zAc q n:=by
 induction n with
 | zero=>rfl
 | succ n ih =>
  unfold zAc;rw [ih (fun m hm=>h m (by omega)),h n (by omega)]
theorem zHe {p:Nat→Bool} {n:Nat} (h:∀m,m < n→p m=false):zAc p n=0:=by
 induction n with
 | zero=>rfl
 | succ n ih=>rw [zAi (h n (by omega))];exact ih (fun m hm=>h m (by omega))
theorem zMo {p q:Nat→Bool} {n:Nat} (h:∀m,m < n→p m=true→q m=true):zAc p n≤zAc q n:=by
 induction n with
 | zero=>exact Nat.le_refl _
 | succ n ih =>
  have:=ih (fun m hm=>h m (by omega));have h2:=h n (by omega);unfold zAc
  cases hp:p n<;>cases hq:q n<;>simp [hp,hq] at h2 ⊢<;>omega
theorem zOw {p q:Nat→Bool} {n i:Nat} (h:∀m,m < n→p m=true→q m=true) (hi:i < n) (hq:q i=true) (hp:p i=false):zAc p n+1≤zAc q n:=by
 induction n with
 | zero=>omega
 | succ n ih =>
  by_cases e:i=n
  ·subst e;rw [zAi hp,zAm hq];have:=zMo (n:=i) (fun m hm=>h m (by omega));omega
  ·have:=ih (fun m hm=>h m (by omega)) (by omega);have h2:=h n (by omega);unfold zAc
   cases hp:p n<;>cases hq:q n<;>simp [hp,hq] at h2 ⊢<;>omega
theorem zHf {p:Nat→Bool} {n i:Nat} (hi:i < n) (hp:p i=true) (h:∀m,m < n→p m=true→m=i):zAc p n=1:=by
 induction n with
 | zero=>omega
 | succ n ih =>
  by_cases e:i=n
  ·subst e;rw [zAm hp,zHe];intro m hm
   cases hq:p m with
   | false=>rfl
   | true=>have:=h m (by omega) hq;omega
  ·have hn:p n=false:=by
    cases hq:p n with
    | false=>rfl
    | true=>have:=h n (by omega) hq;omega
   rw [zAi hn];exact ih (by omega) (fun m hm=>h m (by omega))
theorem zHg {p q r:Nat→Bool} {n:Nat} (h:∀m,m < n→r m=(p m||q m)) (hd:∀m,m < n→¬(p m=true∧q m=true)):zAc r n=zAc p n+zAc q n:=by
 induction n with
 | zero=>rfl
 | succ n ih =>
  have:=ih (fun m hm=>h m (by omega)) (fun m hm=>hd m (by omega));have h2:=h n (by omega);have h3:=hd n (by omega);unfold zAc
  cases hp:p n<;>cases hq:q n<;>simp [hp,hq] at h2 h3<;>simp [h2]<;>omega
theorem zIv {p:Nat→Bool} {n i:Nat} (hi:i < n) (hp:p i=true):0 < zAc p n:=by
 have h:∀m,m < n→(fun _:Nat=>false) m=true→p m=true:=fun _ _ e=>by cases e
 have:=zOw h hi hp rfl;omega
theorem zNt {p:Nat→Bool} {n:Nat} (h:0 < zAc p n):∃i,i < n∧p i=true:=by
 induction n with
 | zero=>exact absurd h (by simp [zAc])
 | succ n ih =>
  cases hp:p n with
  | true=>exact ⟨n,by omega,hp⟩
  | false =>
   rw [zAi hp] at h;obtain ⟨i,hi,hpi⟩:=ih h;exact ⟨i,by omega,hpi⟩
theorem zOx {p:Nat→Bool} {n i j:Nat} (h:zAc p n≤1) (hi:i < n) (hj:j < n) (hpi:p i=true) (hpj:p j=true):i=j:=by
 rcases Nat.decEq i j with e | e
 ·have h1:zAc (fun m=>decide (m=i)) n=1:=zHf hi (by simp) (by intro m _ hm;simpa using hm);have h2:=zOw (p:=fun m=>decide (m=i)) (q:=p) (n:=n) (i:=j) (fun m _ hm=>by simp at hm;subst hm;exact hpi) hj hpj (by simp;omega);omega
 ·exact e
theorem zTc {p q:Nat→Bool} {n:Nat} (h:∀m,m < n→p m=true→q m=true) (e:zAc q n≤zAc p n):∀m,m < n→q m=true→p m=true:=by
 intro m hm hq
 cases hp:p m with
 | true=>rfl
 | false=>have:=zOw h hm hq hp;omega
theorem zUL (p:Nat→Bool) {m n:Nat} (h:m≤n):zAc p m≤zAc p n:=by
 obtain ⟨k,rfl⟩:∃k,n=m+k:=⟨n-m,by omega⟩
 clear h
 induction k with
 | zero=>exact Nat.le_refl _
 | succ k ih=>exact Nat.le_trans ih (Nat.le_add_right _ _)
def zGM (f:Nat→Nat):Nat→Nat
 | 0=>0
 | n+1=>zGM f n+f n
theorem zQQ (f g:Nat→Nat) (n:Nat):zGM (fun i=>f i+g i) n=zGM f n+zGM g n:=by
 induction n with
 | zero=>rfl
 | succ n ih=>simp only [zGM];rw [ih];omega
theorem zEk {f g:Nat→Nat} {n:Nat} (h:∀i,i < n→f i=g i):zGM f n=zGM g n:=by
 induction n with
 | zero=>rfl
 | succ n ih=>simp only [zGM];rw [ih (fun i hi=>h i (by omega)),h n (by omega)]
theorem zHh {f:Nat→Nat} {n:Nat} (h:∀i,i < n→f i=0):zGM f n=0:=by
 induction n with
 | zero=>rfl
 | succ n ih=>simp only [zGM];rw [ih (fun i hi=>h i (by omega)),h n (by omega)]
theorem zQR {f:Nat→Nat} {n i:Nat} (hi:i < n) (h:∀j,j < n→j≠i→f j=0):zGM f n=f i:=by
 induction n with
 | zero=>omega
 | succ n ih =>
  simp only [zGM];by_cases e:i=n
  ·subst e;rw [zHh (fun j hj=>h j (by omega) (by omega))];omega
  ·rw [ih (by omega) (fun j hj hne=>h j (by omega) hne),h n (by omega) (fun h'=>e h'.symm)];omega
theorem zTd {f:Nat→Nat} {n c:Nat} (h:∀i,i < n→f i≤c):zGM f n≤n*c:=by
 induction n with
 | zero=>simp [zGM]
 | succ n ih =>
  simp only [zGM];have:=ih (fun i hi=>h i (by omega));have h2:=h n (by omega);rw [Nat.add_mul];omega
theorem zOy {f:Nat→Nat} {n c:Nat} (h:∀i,i < n→f i≤c) (e:n*c≤zGM f n):∀i,i < n→f i=c:=by
 induction n with
 | zero=>intro i hi;omega
 | succ n ih =>
  simp only [zGM] at e;have h1:=zTd (f:=f) (n:=n) (c:=c) (fun i hi=>h i (by omega));have h2:=h n (by omega);rw [Nat.add_mul] at e;intro i hi;by_cases e':i=n
  ·subst e';omega
  ·exact ih (fun i hi=>h i (by omega)) (by omega) i (by omega)
theorem zOz {f:Nat→Nat} {n:Nat} (h:∀i,i < n→f i % 2=0):zGM f n % 2=0:=by
 induction n with
 | zero=>rfl
 | succ n ih =>
  have:=ih (fun i hi=>h i (by omega));have h2:=h n (by omega);simp only [zGM];omega
theorem zEl {p:Nat→Bool} {c:Nat→Nat} {n k:Nat} (h:∀m,m < n→p m=true→c m < k):zAc p n=zGM (fun d=>zAc (fun m=>p m&&c m==d) n) k:=by
 induction n with
 | zero=>exact (zHh (fun _ _=>rfl)).symm
 | succ n ih =>
  have ih':=ih (fun m hm=>h m (by omega));simp only [zAc];rw [zQQ,ih']
  congr 1
  by_cases hp:p n=true
  ·rw [if_pos hp,zQR (i:=c n) (h n (by omega) hp) (by
    intro j _ hj
    have:¬c n=j:=fun e=>hj e.symm
    simp [this])]
   simp [hp]
  ·rw [if_neg hp];exact (zHh (fun _ _=>by simp [hp])).symm
theorem zSF {p:Nat→Bool} {f:Nat→Int} {n:Nat} (hb:∀m,m < n→p m=true→1≤f m∧f m≤zAc p n) (hd:∀i j,i < n→j < n→p i=true→p j=true→f i=f j→i=j) :
  ∀v:Nat,v≤zAc p n→zAc (fun m=>p m&&decide (f m≤(v:Int))) n=v:=by
 have step:∀v:Nat,zAc (fun m=>p m&&decide (f m≤((v+1:Nat):Int))) n≤zAc (fun m=>p m&&decide (f m≤(v:Int))) n+1:=by
  intro v;rw [zHg (p:=fun m=>p m&&decide (f m≤(v:Int))) (q:=fun m=>p m&&decide (f m=((v+1:Nat):Int)))]
  ·refine Nat.add_le_add_left ?_ _;by_cases hx:∃k,k < n∧(p k&&decide (f k=((v+1:Nat):Int)))=true
   ·obtain ⟨k,hk,hp⟩:=hx;simp at hp;refine Nat.le_of_eq (zHf hk (by simp [hp]) fun m hm hpm=>?_);simp at hpm;exact hd m k hm hk hpm.1 hp.1 (by omega)
   ·rw [zHe]
    ·omega
    ·intro m hm
     cases hq:(p m&&decide (f m=((v+1:Nat):Int))) with
     | false=>rfl
     | true=>exact absurd ⟨m,hm,hq⟩ hx
  ·intro m _
   cases p m
   ·rfl
   ·simp only [Bool.true_and];rw [←Bool.decide_or];apply decide_eq_decide.2;omega
  ·intro m _ ⟨h1,h2⟩;simp at h1 h2;omega
 have h0:zAc (fun m=>p m&&decide (f m≤((0:Nat):Int))) n=0:=zHe fun m hm=>by
  cases hp:p m with
  | false=>rfl
  | true =>
   have:=(hb m hm hp).1;have:¬f m≤((0:Nat):Int):=by omega
   simp only [this,decide_false,Bool.and_false]
 have hup:∀v k:Nat,zAc (fun m=>p m&&decide (f m≤((v+k:Nat):Int))) n≤zAc (fun m=>p m&&decide (f m≤(v:Int))) n+k:=by
  intro v k
  induction k with
  | zero=>exact Nat.le_refl _
  | succ k ih =>
   have:=step (v+k);rw [show v+(k+1)=v+k+1 by omega];omega
 have hall:zAc (fun m=>p m&&decide (f m≤((zAc p n:Nat):Int))) n=zAc p n:=zBT fun m hm=>by
  cases hp:p m with
  | false=>rfl
  | true=>have:=(hb m hm hp).2;simp [this]
 intro v hv;have a1:=hup 0 v;rw [Nat.zero_add] at a1;have a2:=hup v (zAc p n-v);rw [show v+(zAc p n-v)=zAc p n by omega,hall] at a2;omega
end Go.Proofs.YtlmdfmnbcndhoaaGreatDoor
namespace Go.Proofs.YtlmdfmnbcndhoaaGreatDoor
structure Lt where
 kind:Int
 gate:Int
 rank:Int
 id:Int
 sign:Int
 over:Bool
instance : DecidableEq Lt := fun a b =>
 if h:a.kind=b.kind∧a.gate=b.gate∧a.rank=b.rank∧a.id=b.id∧a.sign=b.sign∧a.over=b.over then
  .isTrue (by cases a;cases b;simp at h;simp [h])
 else .isFalse (fun e=>h (by subst e;simp))
def dl:Lt:=⟨0,0,0,0,0,false⟩
def la (L:List Lt) (i:Nat):Lt:=(L[i]?).getD dl
theorem zQS {L:List Lt} {i:Nat} {x:Lt} (h:L[i]? = some x):la L i=x:=by unfold la;rw [h];rfl
def isP (l:Lt):Bool:=l.kind==1
def isC (l:Lt):Bool:=l.kind==2
theorem zCq {l:Lt} (h:isP l=true):isC l=false:=by unfold isP at h;unfold isC;simp at h ⊢;omega
def pN (L:List Lt) (m:Nat):Nat:=zAc (fun i=>isP (la L i)) m
def cN (L:List Lt) (m:Nat):Nat:=zAc (fun i=>isC (la L i)) m
def gN (L:List Lt) (g:Int) (m:Nat):Nat:=zAc (fun i=>isP (la L i)&&(la L i).gate==g) m
def tN (L:List Lt) (d:Int) (m:Nat):Nat:=zAc (fun i=>isC (la L i)&&(la L i).id==d) m
def dwn (L:List Lt) (i:Nat):Bool:=pN L i % 2==0
def smB (l o:Lt):Bool:=o.kind==l.kind&&o.gate==l.gate&&o.rank==l.rank
def smN (L:List Lt) (l:Lt) (m:Nat):Nat:=zAc (fun j=>smB l (la L j)) m
def prB (l o:Lt):Bool:=o.kind==l.kind&&o.id==l.id&&o.sign==l.sign&&o.over != l.over
def prN (L:List Lt) (l:Lt) (m:Nat):Nat:=zAc (fun j=>prB l (la L j)) m
def rlB (K:Int) (L:List Lt) (l:Lt):Bool :=
 if l.kind=1 then decide (l.id=0∧l.sign=0∧l.over=false∧0≤l.gate∧l.gate≤K∧1≤l.rank∧l.rank≤(gN L l.gate L.length:Int)∧smN L l L.length=1)
 else if l.kind=2 then decide (l.gate=0∧l.rank=0∧(l.sign=1∨l.sign = -1)∧1≤l.id∧l.id≤((cN L L.length / 2:Nat):Int)∧prN L l L.length=1∧tN L l.id L.length=2)
 else false
def zBF (K:Int) (L:List Lt):Bool:=zDl (fun i=>rlB K L (la L i)) L.length
def lpB (K:Int) (l:Lt):Bool :=
 if l.kind=1 then decide (0≤l.gate∧l.gate≤K∧l.id=0∧l.sign=0∧l.over=false)
 else if l.kind=2 then decide (l.gate=0∧l.rank=0∧(l.sign=1∨l.sign = -1))
 else false
def zAA (K:Int) (L:List Lt):Bool:=zDl (fun i=>lpB K (la L i)) L.length
def keyB (a b:Lt):Bool:=a.gate==b.gate&&a.rank==b.rank
def rkB (L:List Lt) (i:Nat):Bool :=
 !isP (la L i)||(decide (1≤(la L i).rank∧(la L i).rank≤(gN L (la L i).gate L.length:Int))&&zDl (fun j=>!(isP (la L j)&&keyB (la L j) (la L i))) i)
def zCB (L:List Lt):Bool:=zDl (rkB L) L.length
def crB (L:List Lt) (i:Nat):Bool :=
 !isC (la L i)||(decide (1≤(la L i).id∧(la L i).id≤((cN L L.length / 2:Nat):Int))&&zDl (fun j=>!(isC (la L j)&&(la L j).id==(la L i).id)||((la L j).over != (la L i).over&&(la L j).sign==(la L i).sign)) i)
def zBM (L:List Lt):Bool:=decide (cN L L.length % 2=0)&&zDl (crB L) L.length
def nwB (L:List Lt) (i:Nat):Bool:=isC (la L i)&&zDl (fun j=>!(isC (la L j)&&(la L j).id==(la L i).id)) i
def dN (L:List Lt) (m:Nat):Nat:=zAc (nwB L) m
def zEJ (a b:Lt):Bool:=decide (a.gate < b.gate)||(a.gate==b.gate&&decide (a.rank < b.rank))
def zKa (L:List Lt) (i:Nat):List Nat→List Nat
 | []=>[i]
 | x :: X=>if zEJ (la L x) (la L i) then x :: zKa L i X else i :: x :: X
def zJW (L:List Lt):Nat→List Nat
 | 0=>[]
 | m+1=>if isP (la L m) then zKa L m (zJW L m) else zJW L m
def axL (L:List Lt):List Nat:=zJW L L.length
def zCr (L:List Lt) (i:Nat):Nat:=((List.range L.length).find? (fun j=>j != i&&isC (la L j)&&(la L j).id==(la L i).id)).getD i
def zTe (X:List Nat) (v:Nat):Nat:=X.findIdx (·==v)
def xat (X:List Nat) (i:Nat):Nat:=(X[i]?).getD 0
def zAM (n i:Nat) (f:Bool):Nat:=if f then 2*i else 2*((i+n-1) % n)+1
def zAD (n d:Nat):Nat:=if d % 2=0 then (d / 2+1) % n else d / 2
def zAy (L:List Lt) (X:List Nat) (d:Nat):Nat :=
 if 2*L.length≤d then
  if d % 2=0 then zAM L.length (xat X (((d-2*L.length) / 2+1) % X.length)) (!dwn L (xat X (((d-2*L.length) / 2+1) % X.length)))
  else zAM L.length (xat X ((d-2*L.length) / 2)) (dwn L (xat X ((d-2*L.length) / 2)))
 else if isC (la L (zAD L.length d)) then zAM L.length (zCr L (zAD L.length d)) ((d % 2==0)==((la L (zAD L.length d)).over==((la L (zAD L.length d)).sign==1)))
 else if dwn L (zAD L.length d)==(d % 2==0) then 2*L.length+2*zTe X (zAD L.length d)
 else 2*L.length+2*((zTe X (zAD L.length d)+X.length-1) % X.length)+1
def sat (s:List Bool) (x:Nat):Bool:=(s[x]?).getD true
def zAX (f:Nat→Nat):Nat→List Bool→Nat→List Nat×List Bool
 | 0,s,_=>([],s)
 | k+1,s,x=>if sat s x then ([],s) else (x :: (zAX f k (s.set x true) (f x)).1,(zAX f k (s.set x true) (f x)).2)
def zAN (f:Nat→Nat):List Nat→List Bool→List (List Nat)
 | [],_=>[]
 | d :: ds,s=>if sat s d then zAN f ds s else (zAX f s.length s d).1 :: zAN f ds (zAX f s.length s d).2
def zAu (L:List Lt):Nat:=2*L.length+2*(axL L).length
def zBz (L:List Lt):List (List Nat):=zAN (zAy L (axL L)) (List.range (zAu L)) (List.replicate (zAu L) false)
def zFX (L:List Lt):Bool:=(zBz L).length==pN L L.length+cN L L.length / 2+2
def zAQ (K:Int) (L:List Lt):Bool:=isP (la L 0)&&decide (pN L L.length % 2=0)&&zBF K L&&zFX L
def zAB (K:Int) (L:List Lt):Int :=
 if 400 < L.length∨200 < cN L L.length then 7 else if K < 0∨40 < K then 2 else if L.length=0 then 0 else if zAQ K L then 0 else 3
end Go.Proofs.YtlmdfmnbcndhoaaGreatDoor
