/-
  Lemmas, part 3. Conditions: each theorem's own.
-/
import Derived.Test.YtlmdfmnbcndhoaaGreatDoorRi01
import Derived.Deep.Quiet
import Derived.Test.YtlmdfmnbcndhoaaGreatDoorRi02
import Derived.Shelf.Strings.OnBuilder
import Derived.Shelf.Small.Strs
import Derived.Shelf.Small.Wraps
import Derived.Shelf.LaysM
import Derived.Shelf.Strconv.Itoa3
import Derived.Shelf.Strings.Cut
import Derived.Shelf.Strings.Shaped
import Derived.Shelf.Strings.Split
import Derived.Test.YtlmdfmnbcndhoaaGreatDoorProg
import Derived.Lib.ItoaNum
import Derived.Lib.ItoaLen
import Derived.Lib.AtoiAll
import Derived.Lib.IndexMore
import Derived.Lib.IndexLaws
namespace Go.Proofs.YtlmdfmnbcndhoaaGreatDoor
open Go.RowKit
def frm (a:Act):List (Nat×Value)→Act
 | []=>a
 | p :: e=>(frm a e).put (some p.1) p.2
def look (r:Operand→Value) (e:List (Nat×Value)):Operand→Value
 | .tmp i=>(e.lookup i).getD (r (.tmp i))
 | x=>r x
def zGw (n:Nat) (e:List (Nat×Value)):Prop:=∀p∈e,p.1 < n
theorem zLG (a:Act):∀e:List (Nat×Value),(frm a e).tmps.size=a.tmps.size
 | []=>rfl
 | p :: e=>by
  show ((frm a e).tmps.setIfInBounds p.1 p.2).size=_;rw [Array.size_setIfInBounds,zLG a e]
theorem zIn {a:Act}:∀{e:List (Nat×Value)},zGw a.tmps.size e→(frm a e).eval=look a.eval e
 | [],_=>by funext x;cases x<;>rfl
 | p :: e,h=>by
  have ih:=zIn (a:=a) (e:=e) (fun q hq=>h q (List.mem_cons_of_mem _ hq));have hp:p.1 < (frm a e).tmps.size:=by rw [zLG];exact h p (List.mem_cons_self ..)
  funext x
  cases x with
  | tmp i =>
   have ihi:=congrFun ih (.tmp i);show ((frm a e).tmps.setIfInBounds p.1 p.2).getD i undef=((p :: e).lookup i).getD _
   change (frm a e).tmps.getD i undef=(e.lookup i).getD _ at ihi
   obtain ⟨d,v⟩:=p;by_cases hd:i=d
   ·subst hd;rw [List.lookup_cons_self];simp only [Array.getD_eq_getD_getElem?,Option.getD_some];rw [Array.getElem?_setIfInBounds_self_of_lt (by exact hp)];rfl
   ·rw [List.lookup_cons,show (i==d)=false by simpa using hd];simp only [Array.getD_eq_getD_getElem?] at ihi ⊢;rw [Array.getElem?_setIfInBounds_ne (fun h=>hd h.symm)];exact ihi
  | const v=>exact congrFun ih (.const v)
  | global g=>exact congrFun ih (.global g)
  | func f=>exact congrFun ih (.func f)
def zJt:Value→Option Bool
 | .bool b=>some b
 | _=>none
def zMJ (ops:Array Oper) (r:Operand→Value) (e:List (Nat×Value)) (o:Oper):Bool :=
 Region.wanted o fun j=>match (ops[j]?).bind (·.dst) with
  | some d=>zJt (look r e (.tmp d))
  | none=>none
def zQy (o:Oper) (v:Value) (e:List (Nat×Value)):List (Nat×Value):=match o.dst with
 | some d=>(d,v) :: e
 | none=>e
def wk (P:Program) (ops:Array Oper) (C:World→Prop) (Q:List (Nat×Value)→Prop) (r:Operand→Value):List Oper→List (Nat×Value)→Prop
 | [],e=>Q e
 | o :: l,e=>∃(b:Bool) (v:Value),zMJ ops r e o=b∧(b=true→∀w,C w→Oper.quietUpon P C w v ((execOp (look r e) o).run P w))∧wk P ops C Q r l (zQy o (cond b v undef) e)
theorem zJu {ops:Array Oper} {a:Act} {e:List (Nat×Value)} (h:zGw a.tmps.size e) (j:Nat):yielded ops (frm a e).tmps j=(match (ops[j]?).bind (·.dst) with
  | some d=>zJt (look a.eval e (.tmp d))
  | none=>none):=by
 unfold yielded
 cases hd:(ops[j]?).bind (·.dst) with
 | none=>rfl
 | some d =>
  have:=congrFun (zIn h) (.tmp d)
  change (frm a e).tmps.getD d undef=_ at this
  show (match (frm a e).tmps[d]? with | some (.bool b)=>some b | _=>none)=zJt (look a.eval e (.tmp d));rw [←this];simp only [Array.getD_eq_getD_getElem?]
  cases (frm a e).tmps[d]? with
  | none=>rfl
  | some v=>cases v<;>rfl
section
variable {P:Program} {ops:Array Oper} {C:World→Prop} {Q:List (Nat×Value)→Prop} {a:Act}
theorem zKC {n:Nat} {o:Oper} {v:Value} {e:List (Nat×Value)} (h:zGw n e) (ho:∀d,o.dst=some d→d < n):zGw n (zQy o v e):=by
 unfold zQy
 cases hd:o.dst with
 | none=>exact h
 | some d =>
  intro p hp;rcases List.mem_cons.1 hp with rfl | hp
  ·exact ho d hd
  ·exact h p hp
theorem zLH {R:Act→Prop} (hQ:∀e,zGw a.tmps.size e→Q e→R (frm a e)):∀(l:List Oper) (e:List (Nat×Value)),zGw a.tmps.size e→(∀o∈l,∀d,o.dst=some d→d < a.tmps.size) →
  wk P ops C Q a.eval l e→wpQuiet P ops C R l (frm a e)
 | [],e,he,_,h=>hQ e he h
 | o :: l,e,he,hl,⟨b,v,hw,hq,hk⟩=>by
  have hout:(frm a e).put o.dst (cond b v undef)=frm a (zQy o (cond b v undef) e):=by
   unfold zQy
   cases o.dst<;>rfl
  have ih:=zLH hQ l (zQy o (cond b v undef) e) (zKC he (hl o (List.mem_cons_self ..))) (fun o' ho'=>hl o' (List.mem_cons_of_mem _ ho')) hk;have hwant:Region.wanted o (yielded ops (frm a e).tmps)=b:=by
   rw [←hw];unfold zMJ;exact congrArg (Region.wanted o) (funext fun j=>zJu he j)
  unfold wpQuiet;rw [hwant];rw [←hout] at ih
  cases b with
  | true =>
   rw [if_pos rfl];refine ⟨v,fun w hC=>?_,ih⟩;unfold Oper.quietAt;rw [zIn he];exact hq rfl w hC
  | false =>
   rw [if_neg (by simp)];exact ih
def zUI (l:List Oper) (n:Nat):Bool:=l.all fun o=>match o.dst with
 | some d=>decide (d < n)
 | none=>true
theorem zMK {l:List Oper} {n:Nat} (h:zUI l n=true):∀o∈l,∀d,o.dst=some d→d < n:=by
 intro o ho d hd;have:=List.all_eq_true.1 h o ho;rw [hd] at this;simpa using this
theorem zNU {id:Nat} {Q':Exit→Act→World→Prop} {w:World} {l:List Oper} (n:Nat) (e:List (Nat×Value)) (hm:P.follows .mixedOrders=true) (hB:Region.lexB .any l.toArray=true)
  (hn:a.tmps.size=n) (hd:zUI l n=true) (he:zGw n e) (hf:frm a e=a) (hC:C { w with drawn:=w.drawn+1 })
  (h:∀r:Operand→Value,(∀v,r (.const v)=v)→(∀k,r (.func k)=.func (.func k) #[] #[])→wk P l.toArray C (fun e'=>∀w',C w'→Q' .normal (frm a e') w') r l e):(Code.region id l.toArray true).wp P Q' a w:=by
 refine wp_region_quiet hm hB hC ?_;subst hn;have:=zLH (R:=fun a'=>∀w',C w'→Q' .normal a' w') (fun e _ h=>h) l e he (zMK hd) (h a.eval (fun _=>rfl) (fun _=>rfl));rw [hf] at this;simpa using this
theorem zIo {d:Nat} {v:Value} {e:List (Nat×Value)} (hf:frm a e=a) (hd:d < a.tmps.size) (hv:a.tmps.getD d undef=v):frm a ((d,v) :: e)=a:=by
 show (frm a e).put (some d) v=a;rw [hf]
 cases a with
 | mk T D =>
  show Act.mk (T.setIfInBounds d v) D=_
  congr 1
  apply Array.ext_getElem?;intro i;rw [Array.getElem?_setIfInBounds];by_cases e:d=i
  ·subst e;rw [if_pos rfl]
   change d < T.size at hd
   rw [if_pos hd,←hv];simp [hd]
  ·rw [if_neg e]
variable {r:Operand→Value} {o:Oper} {l:List Oper} {e:List (Nat×Value)} {v:Value} {b g c:Bool} {j d:Nat}
theorem zJv (hg:o.guard=none) (hq:∀w,C w→Oper.quietUpon P C w v ((execOp (look r e) o).run P w)) (hk:wk P ops C Q r l (zQy o v e)):wk P ops C Q r (o :: l) e :=
 ⟨true,v,by unfold zMJ Region.wanted;rw [hg],fun _=>hq,hk⟩
theorem zHL (hw:zMJ ops r e o=b) (hq:b=true→∀w,C w→Oper.quietUpon P C w v ((execOp (look r e) o).run P w)) (hk:wk P ops C Q r l (zQy o (cond b v undef) e)):wk P ops C Q r (o :: l) e:=⟨b,v,hw,hq,hk⟩
theorem zHM (hg:o.guard=some (j,false)) (hd:(ops[j]?).bind (·.dst)=some d) (hl:look r e (.tmp d)=.bool b):zMJ ops r e o = !b:=by
 unfold zMJ Region.wanted;rw [hg];show ((match (ops[j]?).bind (·.dst) with | some d=>zJt (look r e (.tmp d)) | none=>none)==some false) = !b;rw [hd];show (zJt (look r e (.tmp d))==some false) = !b;rw [hl]
 cases b<;>rfl
end
section
variable {P:Program} {C:World→Prop} {ρ:Operand→Value} {o:Oper} {w:World} {x y:Operand} {v p q:Value} {s f:Nat} {B c:Bool}
theorem zSh (ho:o.op=.move x) (hx:ρ x=v):Oper.quietUpon P C w v ((execOp ρ o).run P w):=by
 unfold execOp;rw [ho];exact ⟨rfl,hx⟩
theorem q_or (ho:o.op=.pick x (.const (.bool true)) y) (hk:∀v,ρ (.const v)=v) (hx:ρ x=.bool B) (hy:ρ y=cond (!B) (.bool c) undef):Oper.quietUpon P C w (.bool (B||c)) ((execOp ρ o).run P w):=by
 unfold execOp;rw [ho];simp only [hx,hy,hk]
 cases B<;>exact ⟨rfl,rfl⟩
theorem cnd {g:Bool} {u:Value} (h:g=true):cond g v u=v:=by rw [h];rfl
theorem zQz {m:Sem Value} (hm:execOp ρ o=(do pure (.value (←m)))) (hr:m.run P w=.ok q w):Oper.quietUpon P C w q ((execOp ρ o).run P w):=by
 rw [hm,Sem.run_bind,hr];exact ⟨rfl,rfl⟩
theorem q_fa (ho:o.op=.fieldAddr s x f) (hx:ρ x=p) (hr:(Instr.fieldAt s p f).run P w=.ok q w):Oper.quietUpon P C w q ((execOp ρ o).run P w) :=
 zQz (m:=Instr.fieldAt s p f) (by unfold execOp;rw [ho,←hx]) hr
theorem zWf (ho:o.op=.load s x) (hx:ρ x=p) (hr:(Instr.loadAt s p).run P w=.ok q w):Oper.quietUpon P C w q ((execOp ρ o).run P w) :=
 zQz (m:=Instr.loadAt s p) (by unfold execOp;rw [ho,←hx]) hr
theorem map1 {v:Value} (hx:ρ x=v):#[x].map ρ=#[v]:=by simp [hx]
theorem map2 {v u:Value} (hx:ρ x=v) (hy:ρ y=u):#[x,y].map ρ=#[v,u]:=by simp [hx,hy]
theorem zSi {k:FuncId} {xs:Array Operand} {ts:Array TypeId} {vs:Array Value} (ho:o.op=.call { callee:=.value (.func k),args:=xs,argTypes:=ts }) (hk:ρ (.func k)=.func (.func k) #[] #[]) (hx:xs.map ρ=vs)
  (hr:(callFunc k vs).run P w=.ok (.enter k vs) w) (hc:Calls P k vs w fun e w''=>e=.returned v∧C w''):Oper.quietUpon P C w v ((execOp ρ o).run P w):=by
 have:(execOp ρ o).run P w=.ok (.enter k vs) w:=by
  unfold execOp;rw [ho];simp only [resolve,hk,hx];go_simp
 rw [this];exact ⟨rfl,hc⟩
end
end Go.Proofs.YtlmdfmnbcndhoaaGreatDoor
namespace Go.Proofs.YtlmdfmnbcndhoaaGreatDoor
open Go.RowKit
theorem zQA {x:Fg} {b:Bool} (h:zAm x=b) (w:World):Calls Tryz.prog 138 #[fgV x] w fun e w'=>e=.returned (.bool b)∧Below w.heap.size w w':=by
 subst h;exact zMH x w
theorem zKD {A:Option Addr} {n c:Nat} {L:List Fg} {f:Fg} {b:Bool} (h:decide (0 < zAG L f)=b) (w:World) (hA:Fgs w A n L) :
  Calls Tryz.prog 139 #[.slice A n c,fgV f] w fun e w'=>e=.returned (.bool b)∧Below w.heap.size w w':=by
 subst h;exact zFY A n c L f w hA
section
variable {P:Program} {C:World→Prop} {ρ:Operand→Value} {o:Oper} {w:World} {x y:Operand} {q:Value}
theorem zWg {u:UnOp} {t:TypeId} {X:Value} (ho:o.op=.unOp u t x) (hx:ρ x=X) (hr:(Op.unary u X).run P w=.ok q w):Oper.quietUpon P C w q ((execOp ρ o).run P w) :=
 zQz (m:=Op.unary u X) (by unfold execOp;rw [ho,←hx]) hr
theorem zWh {t:TypeId} {X I:Value} (ho:o.op=.slice t x none (some y) none) (hx:ρ x=X) (hy:ρ y=I) (hr:(Instr.sliceAt t X none (some I) none).run P w=.ok q w):Oper.quietUpon P C w q ((execOp ρ o).run P w) :=
 zQz (m:=Instr.sliceAt t X none (some I) none) (by unfold execOp;rw [ho,←hx,←hy];first | rfl | simp) hr
end
theorem zSU (b:Bool) (w:World):(Op.unary .not (.bool b)).run Tryz.prog w=.ok (.bool (!b)) w:=by go_simp
theorem zUJ (b:Nat) (w:World):(Instr.fieldAt 24 (.pointer (some ⟨b,0,none⟩)) 0).run Tryz.prog w=.ok (.pointer (some ⟨b,0,none⟩)) w:=by go_simp
theorem zUK {p:Addr} {A:Option Addr} {n c:Nat} {w:World} (h:w.cell? p=some (.slice A n c)):(Instr.loadAt 22 (.pointer (some p))).run Tryz.prog w=.ok (.slice A n c) w:=by go_simp
theorem zUL {b:Nat} {p d:Int} {r:Bool} {w:World} (h0:w.cell? ⟨b,0,none⟩=some (.int .i64 p)) (h1:w.cell? ⟨b,1,none⟩=some (.bool r)) (h2:w.cell? ⟨b,2,none⟩=some (.int .i64 d)):(Instr.loadAt 90 (.pointer (some ⟨b,0,none⟩))).run Tryz.prog w=.ok (.agg #[.int .i64 p,.bool r,.int .i64 d]) w:=by go_simp
theorem zUM {g o n c i:Nat} (h0:(0:Int)≤(i:Int)) (h1:(i:Int)≤(c:Int)) (w:World):(Instr.sliceAt 22 (.slice (some ⟨g,o,none⟩) n c) none (some (.int .i64 (i:Int))) none).run Tryz.prog w=.ok (.slice (some ⟨g,o,none⟩) i c) w:=by
 go_simp
theorem zQB (vs:Array Value) (w:World):(callFunc 138 vs).run Tryz.prog w=.ok (.enter 138 vs) w:=by go_simp
theorem zKE (vs:Array Value) (w:World):(callFunc 139 vs).run Tryz.prog w=.ok (.enter 139 vs) w:=by go_simp
theorem zSj {L:List Fg} {re lo:Int} (h:¬(L.length≤40∧0≤re∧re≤40∧1≤lo∧lo≤20)):frB L re lo=false:=by
 cases e:frB L re lo with
 | false=>rfl
 | true=>obtain ⟨h1,h2,h3,h4,h5,_⟩:=zCR.1 e;exact absurd ⟨h1,h2,h3,h4,h5⟩ h
theorem zKF {L:List Fg} {re lo:Int} {i:Nat} (hi:i < L.length) (h:zCQ L i=false):frB L re lo=false:=by
 cases e:frB L re lo with
 | false=>rfl
 | true=>have:=(zCR.1 e).2.2.2.2.2 i hi;rw [h] at this;cases this
set_option maxRecDepth 100000 in
set_option maxHeartbeats 3200000 in
theorem zML (A:Option Addr) (n c:Nat) (L:List Fg) (re lo:Int) (w:World) (hA:Fgs w A n L) (hc:n≤c) :
  Calls Tryz.prog 88 #[.agg #[.slice A n c,.int .i64 re,.int .i64 lo]] w fun e w'=>e=.returned (.bool (frB L re lo))∧Below w.heap.size w w':=by
 have hln:=hA.len;have hb0:Below w.heap.size w (w.alloc (.cells #[.slice A n c,.int .i64 re,.int .i64 lo] 24)):=(Below.refl _ _).alloc (Nat.le_refl _) _;by_cases hok:L.length≤40∧0≤re∧re≤40∧1≤lo∧lo≤20
 ·have HOK:=qH hok;have HL:=qH hln;have hn40:n≤40:=by omega
  have i0:¬(40:Int) < (n:Int):=by omega
  have i1:¬re < 0:=by omega
  have i2:¬40 < re:=by omega
  have i3:¬lo < 1:=by omega
  have i4:¬20 < lo:=by omega
  have hk0:Blk (w.alloc (.cells #[.slice A n c,.int .i64 re,.int .i64 lo] 24)) w.heap.size 24 #[.slice A n c,.int .i64 re,.int .i64 lo]:=Blk.new _ _ _;clear hok hln;go_enter Tryz.func88,Tryz.ntmps88;go_wp2_with fail
  generalize w.alloc (.cells #[.slice A n c,.int .i64 re,.int .i64 lo] 24)=W at hb0 hk0 ⊢;go_loopw [32] (fun v wr=>∃i:Nat,i≤n∧v=.int .i64 i∧Below W.heap.size W wr∧Hid (∀j:Nat,j < i→zCQ L j=true)) (fun v _=>n-(intOf v).toNat)
  case atStart=>exact ⟨0,Nat.zero_le _,rfl,Below.refl _ _,qH (fun j hj=>by omega)⟩
  case round =>
   obtain ⟨i,hi,rfl,hbr,HS⟩:=hrel;have hkr:=hk0.below hbr hk0.lt;have hbw:=zAa hb0 hbr hb0.size;by_cases hlt:i < n
   ·obtain ⟨g,o,rfl,hg,⟨x0,x1,x2⟩,_⟩:=(hA.below hbw).at_ hlt;have j0:(0:Int)≤(i:Int):=by omega
    have j1:(i:Int) < (n:Int):=by omega
    have j2:(i:Int)≤(c:Int):=by omega
    have hgd:zCQ L i=(zAm (fa L i)&&!(decide (0 < zAG (L.take i) (fa L i)))):=by
     unfold zCQ
     congr 1
     rw [←decide_not];simp
    generalize hx:fa L i=x at x0 x1 x2 hgd;obtain ⟨b1,hb1⟩:∃b,b=zAm x:=⟨_,rfl⟩
    obtain ⟨b2,hb2⟩:∃b,b=decide (0 < zAG (L.take i) x):=⟨_,rfl⟩
    rw [←hb1,←hb2] at hgd;have HG:=qH hgd;have HB1:=qH hb1.symm;have HB2:=qH hb2.symm;have hA4:=(hA.below hbw).alloc (.cells #[.int .i64 x.p,.bool x.r,.int .i64 x.d] 90);have hk4:Blk (wr.alloc (.cells #[.int .i64 x.p,.bool x.r,.int .i64 x.d] 90)) wr.heap.size 90 #[.int .i64 x.p,.bool x.r,.int .i64 x.d]:=Blk.new _ _ _;have hkf:=hkr.alloc (.cells #[.int .i64 x.p,.bool x.r,.int .i64 x.d] 90);have hb4:Below W.heap.size W (wr.alloc (.cells #[.int .i64 x.p,.bool x.r,.int .i64 x.d] 90)):=hbr.alloc hbr.size _;clear hgd hb1 hb2 hx;go_wp2_with fail
    clear hkr hbr hbw x0 x1 x2 hg;generalize wr.alloc (.cells #[.int .i64 x.p,.bool x.r,.int .i64 x.d] 90)=Y at hA4 hk4 hkf hb4 ⊢
    have KP:=fun wx (h:Below Y.heap.size Y wx)=>(show wx.cell? ⟨wr.heap.size,0,none⟩=some (.int .i64 x.p)∧wx.cell? ⟨wr.heap.size,1,none⟩=some (.bool x.r)∧wx.cell? ⟨wr.heap.size,2,none⟩=some (.int .i64 x.d)∧wx.cell? ⟨w.heap.size,0,none⟩=some (.slice (some ⟨g,o,none⟩) n c) from
     ⟨((hk4.below h hk4.lt).cell 0).trans rfl,((hk4.below h hk4.lt).cell 1).trans rfl,((hk4.below h hk4.lt).cell 2).trans rfl,((hkf.below h hkf.lt).cell 0).trans rfl⟩)
    have HT:=qH (hA4.take (i:=i) (by omega));refine zNU (C:=fun w'=>Below Y.heap.size Y w') 49 [(1,.pointer (some ⟨w.heap.size,0,none⟩)),(4,.pointer (some ⟨wr.heap.size,0,none⟩)),(3,.int .i64 (i:Int))] (by kernel_rfl) (by kernel_rfl) rfl (by kernel_rfl) (by intro q hq;simp at hq;rcases hq with rfl | rfl | rfl<;>simp) (zIo (zIo (zIo rfl (by simp) rfl) (by simp) rfl) (by simp) rfl) ((Below.refl _ _).drew) ?_;intro r hrc hrf;refine zJv (v:=fgV x) rfl (fun w' hC=>zWf (p:=.pointer (some ⟨wr.heap.size,0,none⟩)) rfl rfl (zUL (KP _ hC).1 (KP _ hC).2.1 (KP _ hC).2.2.1)) ?_;refine zJv (v:=.bool b1) rfl (fun w' hC=>zSi (vs:=#[fgV x]) rfl (hrf _) (map1 rfl) (zQB _ _) ((zQA HB1.out _).mono fun _ _ ⟨he,hb⟩=>⟨he,zAa hC hb hC.size⟩)) ?_;refine zJv (v:=.bool (!b1)) rfl (fun w' hC=>zWg (X:=.bool b1) rfl rfl (zSU _ _)) ?_;refine zJv (v:=.bool (!b1)) rfl (fun w' hC=>zSh rfl rfl) ?_;refine zHL (b:=!(!b1)) (v:=.pointer (some ⟨w.heap.size,0,none⟩)) (zHM rfl rfl rfl) (fun h w' hC=>q_fa (p:=.pointer (some ⟨w.heap.size,0,none⟩)) rfl rfl (zUJ _ _)) ?_;refine zHL (b:=!(!b1)) (v:=.slice (some ⟨g,o,none⟩) n c) (zHM rfl rfl rfl) (fun h w' hC=>zWf (p:=.pointer (some ⟨w.heap.size,0,none⟩)) rfl (cnd h) (zUK (KP _ hC).2.2.2)) ?_;refine zHL (b:=!(!b1)) (v:=.int .i64 (i:Int)) (zHM rfl rfl rfl) (fun h w' hC=>zSh rfl rfl) ?_;refine zHL (b:=!(!b1)) (v:=.slice (some ⟨g,o,none⟩) i c) (zHM rfl rfl rfl) (fun h w' hC=>zWh (X:=.slice (some ⟨g,o,none⟩) n c) (I:=.int .i64 (i:Int)) rfl (cnd h) (cnd h) (zUM j0 j2 _)) ?_;refine zHL (b:=!(!b1)) (v:=fgV x) (zHM rfl rfl rfl) (fun h w' hC=>zWf (p:=.pointer (some ⟨wr.heap.size,0,none⟩)) rfl rfl (zUL (KP _ hC).1 (KP _ hC).2.1 (KP _ hC).2.2.1)) ?_;refine zHL (b:=!(!b1)) (v:=.bool b2) (zHM rfl rfl rfl) (fun h w' hC=>zSi (vs:=#[.slice (some ⟨g,o,none⟩) i c,fgV x]) rfl (hrf _) (map2 (cnd h) (cnd h)) (zKE _ _) ((zKD HB2.out _ (HT.out.below hC)).mono fun _ _ ⟨he,hb⟩=>⟨he,zAa hC hb hC.size⟩)) ?_;refine zJv (v:=.bool (!b1||b2)) rfl (fun w' hC=>q_or rfl (fun _=>hrc _) rfl rfl) ?_;intro wx hwx;have hbf:=zAa hb4 hwx hb4.size;clear hrc hrf r KP;simp only [zQy,frm,Act.put,List.setIfInBounds_toArray,List.set_cons_succ,List.set_cons_zero];clear hA4 hk4 hkf HT hwx
    cases hgo:(!b1||b2) with
    | true =>
     have hr:=qH (zKF (re:=re) (lo:=lo) (i:=i) (by rw [HL.out];exact hlt) (by rw [HG.out];revert hgo;cases b1<;>cases b2<;>simp));clear HG HB2 HB1 HS hgo;go_wp2_with fail
     go_ret;exact ⟨zBz (by rw [hr.out]),zAa hb0 hbf hb0.size⟩
    | false =>
     have HS1:=qH (show ∀j:Nat,j < i+1→zCQ L j=true from fun j hj=>by
      rcases Nat.decEq j i with e | e
      ·exact HS.out j (by omega)
      ·subst e;rw [HG.out];revert hgo;cases b1<;>cases b2<;>simp)
     clear HG HB2 HB1 HS hgo;go_wp2_with fail
     go_roundw
     case rel=>exact ⟨i+1,by omega,by go_num,hbf,HS1⟩
     case measure=>simp [intOf];omega
   ·have hr:=qH (show frB L re lo=true from zCR.2 ⟨HOK.out.1,HOK.out.2.1,HOK.out.2.2.1,HOK.out.2.2.2.1,HOK.out.2.2.2.2,fun j hj=>HS.out j (by rw [HL.out] at hj;omega)⟩);have j1:¬(i:Int) < (n:Int):=by omega
    clear HS;go_wp2_with fail
    go_ret;exact ⟨zBz (by rw [hr.out]),hbw⟩
 ·have hr:=qH (zSj hok);go_enter Tryz.func88,Tryz.ntmps88;go_wp2_with fail
  all_goals first
   | (exfalso;omega)
   | (go_ret;exact ⟨zBz (by rw [hr.out]),hb0⟩)
end Go.Proofs.YtlmdfmnbcndhoaaGreatDoor
namespace Go.Proofs
open Go.Shelf
def Tryz.lays169_ren:Go.Shelf.Ren:=⟨fun | 169=>61 | n=>n,fun | 70=>98 | 9=>9 | 0=>0 | 72=>101 | 37=>99 | 127=>163 | 3=>3 | 5=>5 | n=>n,fun | n=>n⟩
theorem Tryz.lays169:Go.Proofs.Lays.n169 Tryz.prog Tryz.lays169_ren:={
 mixed:=by kernel_rfl
 f169:=Tryz.func61.trans (congrArg some (by kernel_rfl))
 t0:=Tryz.underlying0
 a0:=Tryz.isAgg0
 z0:=Tryz.sizeOf0
 v0:=Tryz.zeroValue0
 t3:=Tryz.underlying3
 a3:=Tryz.isAgg3
 z3:=Tryz.sizeOf3
 v3:=Tryz.zeroValue3
 t9:=Tryz.underlying9
 a9:=Tryz.isAgg9
 z9:=Tryz.sizeOf9
 v9:=Tryz.zeroValue9
 t37:=Tryz.underlying99
 a37:=Tryz.isAgg99
 z37:=Tryz.sizeOf99
 v37:=Tryz.zeroValue99
 t70:=Tryz.underlying98
 a70:=Tryz.isAgg98
 z70:=Tryz.sizeOf98
 v70:=Tryz.zeroValue98
 t72:=Tryz.underlying101
 a72:=Tryz.isAgg101
 z72:=Tryz.sizeOf101
 v72:=Tryz.zeroValue101
 t127:=Tryz.underlying163
 a127:=Tryz.isAgg163
 z127:=Tryz.sizeOf163
 v127:=Tryz.zeroValue163 }
theorem Tryz.Builder_Extra_169:Builder.Extra Tryz.prog Tryz.lays169_ren:={
 sizeBuilder:=by kernel_rfl
 liesBuilder:=by kernel_rfl
 t5:=Tryz.underlying5
 a5:=Tryz.isAgg5
 z5:=Tryz.sizeOf5
 v5:=Tryz.zeroValue5
 infoByte:=by kernel_rfl
 cellsByte:=by kernel_rfl
 sizeByte:=by kernel_rfl
 neB5:=by decide }
open Go.RowKit in
theorem Tryz.Builder_String_any (B b:Nat) (l:List UInt8) (w:World) (h:Lib.IsBuilder 101 5 B b (Lib.byteCells l) w) (hBw:B≤w.heap.size) :
  Calls Tryz.prog 61 #[.pointer (some ⟨b,0,none⟩)] w fun e w'=>e=.returned (.string ⟨l.toArray⟩)∧Below B w w':=Any.Builder_String_any Tryz.lays169 Tryz.Builder_Extra_169 B b l w h hBw
def Tryz.lays156_ren:Go.Shelf.Ren:=⟨fun | 156=>69 | 165=>117 | 166=>59 | 169=>61 | 240=>105 | 241=>158 | 276=>153 | 277=>187 | n=>n,fun | 31=>112 | 9=>9 | 3=>3 | 4=>4 | 0=>0 | 20=>20 | 72=>101 | 76=>104 | 70=>98 | 37=>99 | 75=>103 | 127=>163 | 164=>195 | 5=>5 | 80=>106 | n=>n,fun | n=>n⟩
theorem Tryz.lays156:Go.Proofs.Lays.n156 Tryz.prog Tryz.lays156_ren:={
 mixed:=by kernel_rfl
 f156:=Tryz.func69.trans (congrArg some (by kernel_rfl))
 f165:=Tryz.func117.trans (congrArg some (by kernel_rfl))
 f166:=Tryz.func59.trans (congrArg some (by kernel_rfl))
 f169:=Tryz.func61.trans (congrArg some (by kernel_rfl))
 f240:=Tryz.func105.trans (congrArg some (by kernel_rfl))
 f241:=Tryz.func158.trans (congrArg some (by kernel_rfl))
 f276:=Tryz.func153.trans (congrArg some (by kernel_rfl))
 f277:=Tryz.func187.trans (congrArg some (by kernel_rfl))
 t0:=Tryz.underlying0
 a0:=Tryz.isAgg0
 z0:=Tryz.sizeOf0
 v0:=Tryz.zeroValue0
 t3:=Tryz.underlying3
 a3:=Tryz.isAgg3
 z3:=Tryz.sizeOf3
 v3:=Tryz.zeroValue3
 t4:=Tryz.underlying4
 a4:=Tryz.isAgg4
 z4:=Tryz.sizeOf4
 v4:=Tryz.zeroValue4
 t9:=Tryz.underlying9
 a9:=Tryz.isAgg9
 z9:=Tryz.sizeOf9
 v9:=Tryz.zeroValue9
 t20:=Tryz.underlying20
 a20:=Tryz.isAgg20
 z20:=Tryz.sizeOf20
 v20:=Tryz.zeroValue20
 t31:=Tryz.underlying112
 a31:=Tryz.isAgg112
 z31:=Tryz.sizeOf112
 v31:=Tryz.zeroValue112
 t37:=Tryz.underlying99
 a37:=Tryz.isAgg99
 z37:=Tryz.sizeOf99
 v37:=Tryz.zeroValue99
 t70:=Tryz.underlying98
 a70:=Tryz.isAgg98
 z70:=Tryz.sizeOf98
 v70:=Tryz.zeroValue98
 t72:=Tryz.underlying101
 a72:=Tryz.isAgg101
 z72:=Tryz.sizeOf101
 v72:=Tryz.zeroValue101
 t75:=Tryz.underlying103
 a75:=Tryz.isAgg103
 z75:=Tryz.sizeOf103
 v75:=Tryz.zeroValue103
 t76:=Tryz.underlying104
 a76:=Tryz.isAgg104
 z76:=Tryz.sizeOf104
 v76:=Tryz.zeroValue104
 t127:=Tryz.underlying163
 a127:=Tryz.isAgg163
 z127:=Tryz.sizeOf163
 v127:=Tryz.zeroValue163
 t164:=Tryz.underlying195
 a164:=Tryz.isAgg195
 z164:=Tryz.sizeOf195
 v164:=Tryz.zeroValue195 }
theorem Tryz.Builder_Extra_156:Builder.Extra Tryz.prog Tryz.lays156_ren:={
 sizeBuilder:=by kernel_rfl
 liesBuilder:=by kernel_rfl
 t5:=Tryz.underlying5
 a5:=Tryz.isAgg5
 z5:=Tryz.sizeOf5
 v5:=Tryz.zeroValue5
 infoByte:=by kernel_rfl
 cellsByte:=by kernel_rfl
 sizeByte:=by kernel_rfl
 neB5:=by decide }
open Go.RowKit in
theorem Tryz.strings_Join_none (a:Option Addr) (c:Nat) (sep:ByteArray) (w:World) :
  Calls Tryz.prog 69 #[.slice a 0 c,.string sep] w fun e w'=>e=.returned (.string ⟨#[]⟩)∧w'=w:=Any.strings_Join_none Tryz.lays156 Tryz.Builder_Extra_156 a c sep w
open Go.RowKit in
theorem Tryz.strings_Join (bk o c:Nat) (xs:List ByteArray) (sep:ByteArray) (w:World) (hcells:∀(j:Nat) x,xs[j]? = some x→w.cell? ⟨bk,o+j,none⟩=some (.string x)) (hbk:bk < w.heap.size) (hN:xs.length≤140737488355328) (hcap:xs.length≤c) (hlen:(Lib.join (xs.map (·.data.toList)) sep.data.toList).length≤140737488355328) :
  Calls Tryz.prog 69 #[.slice (some ⟨bk,o,none⟩) xs.length c,.string sep] w fun e w'=>e=.returned (.string ⟨(Lib.join (xs.map (·.data.toList)) sep.data.toList).toArray⟩)∧Below w.heap.size w w':=Any.strings_Join Tryz.lays156 Tryz.Builder_Extra_156 bk o c xs sep w hcells hbk hN hcap hlen
def Tryz.lays137_ren:Go.Shelf.Ren:=⟨fun | 137=>161 | 217=>183 | 266=>202 | n=>n,fun | 9=>9 | 5=>5 | 3=>3 | n=>n,fun | n=>n⟩
theorem Tryz.lays137:Go.Proofs.Lays.n137 Tryz.prog Tryz.lays137_ren:={
 mixed:=by kernel_rfl
 f137:=Tryz.func161.trans (congrArg some (by kernel_rfl))
 f217:=Tryz.func183.trans (congrArg some (by kernel_rfl))
 f266:=Tryz.func202.trans (congrArg some (by kernel_rfl))
 t3:=Tryz.underlying3
 a3:=Tryz.isAgg3
 z3:=Tryz.sizeOf3
 v3:=Tryz.zeroValue3
 t5:=Tryz.underlying5
 a5:=Tryz.isAgg5
 z5:=Tryz.sizeOf5
 v5:=Tryz.zeroValue5
 t9:=Tryz.underlying9
 a9:=Tryz.isAgg9
 z9:=Tryz.sizeOf9
 v9:=Tryz.zeroValue9 }
open Go.RowKit in
theorem Tryz.strings_IndexByte (s:ByteArray) (c:Int) (w:World) :
  Calls Tryz.prog 161 #[.string s,.int .u8 c] w fun e w'=>e=.returned (.int .i64 (Lib.indexByte s.data.toList c.toNat.toUInt8))∧w'=w:=Any.strings_IndexByte Tryz.lays137 s c w
def Tryz.lays104_ren:Go.Shelf.Ren:=⟨fun | 104=>145 | 211=>181 | 207=>201 | n=>n,fun | 9=>9 | 4=>4 | 24=>189 | 3=>3 | n=>n,fun | n=>n⟩
theorem Tryz.lays104:Go.Proofs.Lays.n104 Tryz.prog Tryz.lays104_ren:={
 mixed:=by kernel_rfl
 f104:=Tryz.func145.trans (congrArg some (by kernel_rfl))
 f207:=Tryz.func201.trans (congrArg some (by kernel_rfl))
 f211:=Tryz.func181.trans (congrArg some (by kernel_rfl))
 t3:=Tryz.underlying3
 a3:=Tryz.isAgg3
 z3:=Tryz.sizeOf3
 v3:=Tryz.zeroValue3
 t4:=Tryz.underlying4
 a4:=Tryz.isAgg4
 z4:=Tryz.sizeOf4
 v4:=Tryz.zeroValue4
 t9:=Tryz.underlying9
 a9:=Tryz.isAgg9
 z9:=Tryz.sizeOf9
 v9:=Tryz.zeroValue9
 t24:=Tryz.underlying189
 a24:=Tryz.isAgg189
 z24:=Tryz.sizeOf189
 v24:=Tryz.zeroValue189 }
open Go.RowKit in
theorem Tryz.strings_CutSuffix (s p:ByteArray) (w:World) (hs:s.size≤9223372036854775807) :
  Calls Tryz.prog 145 #[.string s,.string p] w fun e w'=>e=.returned (.tuple #[.string ⟨(Lib.trimSuffix s.data.toList p.data.toList).toArray⟩,.bool (Lib.hasSuffix s.data.toList p.data.toList)])∧w'=w:=Any.strings_CutSuffix Tryz.lays104 s p w hs
def Tryz.laysM171_ren:Go.Shelf.Ren:=⟨fun | 171=>124 | 243=>164 | 246=>191 | 283=>207 | 284=>208 | 285=>209 | 286=>210 | 129=>216 | 317=>215 | 318=>217 | 319=>218 | 320=>219 | 337=>220 | 338=>221 | n=>n,fun | 3=>3 | 9=>9 | 2=>2 | 4=>4 | 171=>234 | 0=>0 | 53=>235 | 37=>99 | 5=>5 | 173=>238 | 212=>242 | 51=>229 | 20=>20 | 213=>243 | 46=>218 | 232=>250 | 233=>251 | n=>n,fun | 17=>1 | 18=>4 | 19=>5 | n=>n⟩
theorem Tryz.laysM171:Go.Proofs.LaysM.n171 Tryz.prog Tryz.laysM171_ren:={
 mixed:=by kernel_rfl
 f129:=Tryz.func216.trans (congrArg some (by kernel_rfl))
 f171:=Tryz.func124.trans (congrArg some (by kernel_rfl))
 f243:=Tryz.func164.trans (congrArg some (by kernel_rfl))
 f246:=Tryz.func191.trans (congrArg some (by kernel_rfl))
 f283:=Tryz.func207.trans (congrArg some (by kernel_rfl))
 f284:=Tryz.func208.trans (congrArg some (by kernel_rfl))
 f285:=Tryz.func209.trans (congrArg some (by kernel_rfl))
 f286:=Tryz.func210.trans (congrArg some (by kernel_rfl))
 f317:=Tryz.func215.trans (congrArg some (by kernel_rfl))
 f318:=Tryz.func217.trans (congrArg some (by kernel_rfl))
 f319:=Tryz.func218.trans (congrArg some (by kernel_rfl))
 f320:=Tryz.func219.trans (congrArg some (by kernel_rfl))
 f337:=Tryz.func220.trans (congrArg some (by kernel_rfl))
 f338:=Tryz.func221.trans (congrArg some (by kernel_rfl))
 t0:=Tryz.underlying0
 a0:=Tryz.isAgg0
 z0:=Tryz.sizeOf0
 v0:=Tryz.zeroValue0
 t2:=Tryz.underlying2
 a2:=Tryz.isAgg2
 z2:=Tryz.sizeOf2
 v2:=Tryz.zeroValue2
 t3:=Tryz.underlying3
 a3:=Tryz.isAgg3
 z3:=Tryz.sizeOf3
 v3:=Tryz.zeroValue3
 t4:=Tryz.underlying4
 a4:=Tryz.isAgg4
 z4:=Tryz.sizeOf4
 v4:=Tryz.zeroValue4
 t5:=Tryz.underlying5
 a5:=Tryz.isAgg5
 z5:=Tryz.sizeOf5
 v5:=Tryz.zeroValue5
 t9:=Tryz.underlying9
 a9:=Tryz.isAgg9
 z9:=Tryz.sizeOf9
 v9:=Tryz.zeroValue9
 t20:=Tryz.underlying20
 a20:=Tryz.isAgg20
 z20:=Tryz.sizeOf20
 v20:=Tryz.zeroValue20
 t37:=Tryz.underlying99
 a37:=Tryz.isAgg99
 z37:=Tryz.sizeOf99
 v37:=Tryz.zeroValue99
 t46:=Tryz.underlying218
 a46:=Tryz.isAgg218
 z46:=Tryz.sizeOf218
 v46:=Tryz.zeroValue218
 t51:=Tryz.underlying229
 a51:=Tryz.isAgg229
 z51:=Tryz.sizeOf229
 v51:=Tryz.zeroValue229
 t53:=Tryz.underlying235
 a53:=Tryz.isAgg235
 z53:=Tryz.sizeOf235
 v53:=Tryz.zeroValue235
 t171:=Tryz.underlying234
 a171:=Tryz.isAgg234
 z171:=Tryz.sizeOf234
 v171:=Tryz.zeroValue234
 t173:=Tryz.underlying238
 a173:=Tryz.isAgg238
 z173:=Tryz.sizeOf238
 v173:=Tryz.zeroValue238
 t212:=Tryz.underlying242
 a212:=Tryz.isAgg242
 z212:=Tryz.sizeOf242
 v212:=Tryz.zeroValue242
 t213:=Tryz.underlying243
 a213:=Tryz.isAgg243
 z213:=Tryz.sizeOf243
 t232:=Tryz.underlying250
 a232:=Tryz.isAgg250
 z232:=Tryz.sizeOf250
 v232:=Tryz.zeroValue250
 t233:=Tryz.underlying251
 a233:=Tryz.isAgg251
 z233:=Tryz.sizeOf251
 v233:=Tryz.zeroValue251
 g17:=by kernel_rfl
 g18:=by kernel_rfl
 g19:=by kernel_rfl
 i0:=by kernel_rfl
 i2:=by kernel_rfl
 i3:=by kernel_rfl
 i4:=by kernel_rfl
 i5:=by kernel_rfl
 i9:=by kernel_rfl
 i20:=by kernel_rfl
 i37:=by kernel_rfl
 i46:=by kernel_rfl
 i51:=by kernel_rfl
 i53:=by kernel_rfl
 i171:=by kernel_rfl
 i173:=by kernel_rfl
 i212:=by kernel_rfl
 i232:=by kernel_rfl
 i233:=by kernel_rfl
 m17:=by kernel_rfl
 m18:=by kernel_rfl
 m19:=by kernel_rfl }
open Go.RowKit Go.Sort Go.Lib in
theorem Tryz.strconv_Itoa (n : Int) (h0 : -9223372036854775808 ≤ n) (h1 : n ≤ 9223372036854775807) (w : World) (htab : Lib.TabIs Tryz.prog w "internal/strconv.uint64pow10" .u64 Lib.pow10Tab) :
  Calls Tryz.prog 124 #[.int .i64 n] w fun e w'=>e=.returned (.string ⟨(Lib.itoa n).toArray⟩)∧∃k os,w'=grow (w.drewN k) os:=Any.strconv_Itoa Tryz.laysM171 n h0 h1 w htab
def Tryz.lays171_ren:Go.Shelf.Ren:=⟨fun | 171=>124 | 243=>164 | 246=>191 | 283=>207 | 284=>208 | 285=>209 | 286=>210 | 129=>216 | 317=>215 | 318=>217 | 319=>218 | 320=>219 | 337=>220 | 338=>221 | n=>n,fun | 3=>3 | 9=>9 | 2=>2 | 4=>4 | 171=>234 | 0=>0 | 53=>235 | 37=>99 | 5=>5 | 173=>238 | 212=>242 | 51=>229 | 20=>20 | 213=>243 | 46=>218 | 232=>250 | 233=>251 | n=>n,fun | 17=>1 | 18=>4 | 19=>5 | n=>n⟩
theorem Tryz.lays171:Go.Proofs.Lays.n171 Tryz.prog Tryz.lays171_ren:={
 mixed:=by kernel_rfl
 f129:=Tryz.func216.trans (congrArg some (by kernel_rfl))
 f171:=Tryz.func124.trans (congrArg some (by kernel_rfl))
 f243:=Tryz.func164.trans (congrArg some (by kernel_rfl))
 f246:=Tryz.func191.trans (congrArg some (by kernel_rfl))
 f283:=Tryz.func207.trans (congrArg some (by kernel_rfl))
 f284:=Tryz.func208.trans (congrArg some (by kernel_rfl))
 f285:=Tryz.func209.trans (congrArg some (by kernel_rfl))
 f286:=Tryz.func210.trans (congrArg some (by kernel_rfl))
 f317:=Tryz.func215.trans (congrArg some (by kernel_rfl))
 f318:=Tryz.func217.trans (congrArg some (by kernel_rfl))
 f319:=Tryz.func218.trans (congrArg some (by kernel_rfl))
 f320:=Tryz.func219.trans (congrArg some (by kernel_rfl))
 f337:=Tryz.func220.trans (congrArg some (by kernel_rfl))
 f338:=Tryz.func221.trans (congrArg some (by kernel_rfl))
 t0:=Tryz.underlying0
 a0:=Tryz.isAgg0
 z0:=Tryz.sizeOf0
 v0:=Tryz.zeroValue0
 t2:=Tryz.underlying2
 a2:=Tryz.isAgg2
 z2:=Tryz.sizeOf2
 v2:=Tryz.zeroValue2
 t3:=Tryz.underlying3
 a3:=Tryz.isAgg3
 z3:=Tryz.sizeOf3
 v3:=Tryz.zeroValue3
 t4:=Tryz.underlying4
 a4:=Tryz.isAgg4
 z4:=Tryz.sizeOf4
 v4:=Tryz.zeroValue4
 t5:=Tryz.underlying5
 a5:=Tryz.isAgg5
 z5:=Tryz.sizeOf5
 v5:=Tryz.zeroValue5
 t9:=Tryz.underlying9
 a9:=Tryz.isAgg9
 z9:=Tryz.sizeOf9
 v9:=Tryz.zeroValue9
 t20:=Tryz.underlying20
 a20:=Tryz.isAgg20
 z20:=Tryz.sizeOf20
 v20:=Tryz.zeroValue20
 t37:=Tryz.underlying99
 a37:=Tryz.isAgg99
 z37:=Tryz.sizeOf99
 v37:=Tryz.zeroValue99
 t46:=Tryz.underlying218
 a46:=Tryz.isAgg218
 z46:=Tryz.sizeOf218
 v46:=Tryz.zeroValue218
 t51:=Tryz.underlying229
 a51:=Tryz.isAgg229
 z51:=Tryz.sizeOf229
 v51:=Tryz.zeroValue229
 t53:=Tryz.underlying235
 a53:=Tryz.isAgg235
 z53:=Tryz.sizeOf235
 v53:=Tryz.zeroValue235
 t171:=Tryz.underlying234
 a171:=Tryz.isAgg234
 z171:=Tryz.sizeOf234
 v171:=Tryz.zeroValue234
 t173:=Tryz.underlying238
 a173:=Tryz.isAgg238
 z173:=Tryz.sizeOf238
 v173:=Tryz.zeroValue238
 t212:=Tryz.underlying242
 a212:=Tryz.isAgg242
 z212:=Tryz.sizeOf242
 v212:=Tryz.zeroValue242
 t213:=Tryz.underlying243
 a213:=Tryz.isAgg243
 z213:=Tryz.sizeOf243
 t232:=Tryz.underlying250
 a232:=Tryz.isAgg250
 z232:=Tryz.sizeOf250
 v232:=Tryz.zeroValue250
 t233:=Tryz.underlying251
 a233:=Tryz.isAgg251
 z233:=Tryz.sizeOf251
 v233:=Tryz.zeroValue251
 g17:=by kernel_rfl
 g18:=by kernel_rfl
 g19:=by kernel_rfl }
open Go.RowKit Go.Sort Go.Lib in
theorem Tryz.strconv_Itoa_small (i:Nat) (hi:i < 100) (w:World) :
  Calls Tryz.prog 124 #[.int .i64 i] w fun e w'=>e=.returned (.string ⟨(Lib.decDigits i).toArray⟩)∧w'=w:=Any.strconv_Itoa_small Tryz.lays171 i hi w
def Tryz.lays145_ren:Go.Shelf.Ren:=⟨fun | 145=>62 | 220=>110 | 219=>156 | 217=>183 | 225=>184 | 224=>185 | 267=>186 | 266=>202 | 314=>203 | n=>n,fun | 9=>9 | 4=>4 | 59=>107 | 3=>3 | 5=>5 | 46=>218 | 146=>230 | 51=>229 | n=>n,fun | 1=>0 | n=>n⟩
theorem Tryz.lays145:Go.Proofs.Lays.n145 Tryz.prog Tryz.lays145_ren:={
 mixed:=by kernel_rfl
 f145:=Tryz.func62.trans (congrArg some (by kernel_rfl))
 f217:=Tryz.func183.trans (congrArg some (by kernel_rfl))
 f219:=Tryz.func156.trans (congrArg some (by kernel_rfl))
 f220:=Tryz.func110.trans (congrArg some (by kernel_rfl))
 f224:=Tryz.func185.trans (congrArg some (by kernel_rfl))
 f225:=Tryz.func184.trans (congrArg some (by kernel_rfl))
 f266:=Tryz.func202.trans (congrArg some (by kernel_rfl))
 f267:=Tryz.func186.trans (congrArg some (by kernel_rfl))
 f314:=Tryz.func203.trans (congrArg some (by kernel_rfl))
 t3:=Tryz.underlying3
 a3:=Tryz.isAgg3
 z3:=Tryz.sizeOf3
 v3:=Tryz.zeroValue3
 t4:=Tryz.underlying4
 a4:=Tryz.isAgg4
 z4:=Tryz.sizeOf4
 v4:=Tryz.zeroValue4
 t5:=Tryz.underlying5
 a5:=Tryz.isAgg5
 z5:=Tryz.sizeOf5
 v5:=Tryz.zeroValue5
 t9:=Tryz.underlying9
 a9:=Tryz.isAgg9
 z9:=Tryz.sizeOf9
 v9:=Tryz.zeroValue9
 t46:=Tryz.underlying218
 a46:=Tryz.isAgg218
 z46:=Tryz.sizeOf218
 v46:=Tryz.zeroValue218
 t51:=Tryz.underlying229
 a51:=Tryz.isAgg229
 z51:=Tryz.sizeOf229
 v51:=Tryz.zeroValue229
 t59:=Tryz.underlying107
 a59:=Tryz.isAgg107
 z59:=Tryz.sizeOf107
 v59:=Tryz.zeroValue107
 t146:=Tryz.underlying230
 a146:=Tryz.isAgg230
 z146:=Tryz.sizeOf230
 v146:=Tryz.zeroValue230
 g1:=by kernel_rfl }
open Go.RowKit Go.Lib in
theorem Tryz.strings_Cut (s sep:ByteArray) (m:Int) (w:World) (hs:s.size < 4294967281) (hm:w.cell? ⟨0,0,none⟩=some (.int .i64 m)) :
  Calls Tryz.prog 62 #[.string s,.string sep] w fun e w'=>e=.returned (.tuple #[.string ⟨(Lib.cut s.data.toList sep.data.toList).1.toArray⟩,.string ⟨(Lib.cut s.data.toList sep.data.toList).2.1.toArray⟩,.bool (Lib.cut s.data.toList sep.data.toList).2.2])∧∃n,w'=w.drewN n:=Any.strings_Cut Tryz.lays145 s sep m w hs hm
def Tryz.lays146_ren:Go.Shelf.Ren:=⟨fun | 146=>119 | 221=>159 | 268=>188 | 138=>189 | 143=>190 | 195=>204 | 197=>205 | 218=>206 | 219=>156 | 260=>214 | 217=>183 | 225=>184 | 224=>185 | 267=>186 | 266=>202 | 314=>203 | n=>n,fun | 9=>9 | 31=>112 | 3=>3 | 4=>4 | 0=>0 | 105=>232 | 21=>21 | 5=>5 | 46=>218 | 119=>245 | 139=>248 | 138=>247 | 146=>230 | 51=>229 | n=>n,fun | 1=>0 | 3=>2 | 4=>3 | n=>n⟩
theorem Tryz.lays146:Go.Proofs.Lays.n146 Tryz.prog Tryz.lays146_ren:={
 mixed:=by kernel_rfl
 f138:=Tryz.func189.trans (congrArg some (by kernel_rfl))
 f143:=Tryz.func190.trans (congrArg some (by kernel_rfl))
 f146:=Tryz.func119.trans (congrArg some (by kernel_rfl))
 f195:=Tryz.func204.trans (congrArg some (by kernel_rfl))
 f197:=Tryz.func205.trans (congrArg some (by kernel_rfl))
 f217:=Tryz.func183.trans (congrArg some (by kernel_rfl))
 f218:=Tryz.func206.trans (congrArg some (by kernel_rfl))
 f219:=Tryz.func156.trans (congrArg some (by kernel_rfl))
 f221:=Tryz.func159.trans (congrArg some (by kernel_rfl))
 f224:=Tryz.func185.trans (congrArg some (by kernel_rfl))
 f225:=Tryz.func184.trans (congrArg some (by kernel_rfl))
 f260:=Tryz.func214.trans (congrArg some (by kernel_rfl))
 f266:=Tryz.func202.trans (congrArg some (by kernel_rfl))
 f267:=Tryz.func186.trans (congrArg some (by kernel_rfl))
 f268:=Tryz.func188.trans (congrArg some (by kernel_rfl))
 f314:=Tryz.func203.trans (congrArg some (by kernel_rfl))
 t0:=Tryz.underlying0
 a0:=Tryz.isAgg0
 z0:=Tryz.sizeOf0
 v0:=Tryz.zeroValue0
 t3:=Tryz.underlying3
 a3:=Tryz.isAgg3
 z3:=Tryz.sizeOf3
 v3:=Tryz.zeroValue3
 t4:=Tryz.underlying4
 a4:=Tryz.isAgg4
 z4:=Tryz.sizeOf4
 v4:=Tryz.zeroValue4
 t5:=Tryz.underlying5
 a5:=Tryz.isAgg5
 z5:=Tryz.sizeOf5
 v5:=Tryz.zeroValue5
 t9:=Tryz.underlying9
 a9:=Tryz.isAgg9
 z9:=Tryz.sizeOf9
 v9:=Tryz.zeroValue9
 t21:=Tryz.underlying21
 a21:=Tryz.isAgg21
 z21:=Tryz.sizeOf21
 v21:=Tryz.zeroValue21
 t31:=Tryz.underlying112
 a31:=Tryz.isAgg112
 z31:=Tryz.sizeOf112
 v31:=Tryz.zeroValue112
 t46:=Tryz.underlying218
 a46:=Tryz.isAgg218
 z46:=Tryz.sizeOf218
 v46:=Tryz.zeroValue218
 t51:=Tryz.underlying229
 a51:=Tryz.isAgg229
 z51:=Tryz.sizeOf229
 v51:=Tryz.zeroValue229
 t105:=Tryz.underlying232
 a105:=Tryz.isAgg232
 z105:=Tryz.sizeOf232
 v105:=Tryz.zeroValue232
 t119:=Tryz.underlying245
 a119:=Tryz.isAgg245
 z119:=Tryz.sizeOf245
 t138:=Tryz.underlying247
 a138:=Tryz.isAgg247
 z138:=Tryz.sizeOf247
 v138:=Tryz.zeroValue247
 t139:=Tryz.underlying248
 a139:=Tryz.isAgg248
 z139:=Tryz.sizeOf248
 v139:=Tryz.zeroValue248
 t146:=Tryz.underlying230
 a146:=Tryz.isAgg230
 z146:=Tryz.sizeOf230
 v146:=Tryz.zeroValue230
 g1:=by kernel_rfl
 g3:=by kernel_rfl
 g4:=by kernel_rfl }
open Go.RowKit Go.Lib in
theorem Tryz.strings_Split (s sep:ByteArray) (m:Int) (w:World) (hs:s.size < 4294967281) (hm:w.cell? ⟨0,0,none⟩=some (.int .i64 m)) (h1:1≤sep.size) :
  Calls Tryz.prog 119 #[.string s,.string sep] w fun e w' =>
   e=.returned (.slice (some ⟨w.heap.size,0,none⟩) (Lib.countB s sep+1) (Lib.countB s sep+1))∧w'=w.alloc (.cells ((Lib.splitB sep 0 (Lib.countB s sep) s).map Value.string).toArray 9):=Any.strings_Split Tryz.lays146 (by kernel_rfl) s sep m w hs hm h1
end Go.Proofs
namespace Go.Proofs.YtlmdfmnbcndhoaaGreatDoor
open Go
theorem zEv {d:Nat} (h:d < 10):(UInt8.ofNat (48+d)).toNat=48+d:=by
 rw [UInt8.toNat_ofNat'];omega
theorem zFM (u:Nat):Lib.decDigits u≠[]:=by
 rw [Lib.decDigits];split
 ·simp
 ·simp
theorem zCT (u:Nat):∀b∈Lib.decDigits u,48≤b.toNat∧b.toNat≤57:=by
 induction u using Nat.strongRecOn with
 | _ u ih =>
  intro b hb;rw [Lib.decDigits] at hb;split at hb
  ·rename_i h;simp only [List.mem_singleton] at hb;rw [hb,zEv h];omega
  ·rename_i h;rcases List.mem_append.1 hb with hb | hb
   ·exact ih (u / 10) (by omega) b hb
   ·simp only [List.mem_singleton] at hb;rw [hb,zEv (by omega)];omega
theorem zLI {x:Int}:∀b∈Lib.itoa x,b.toNat=45∨(48≤b.toNat∧b.toNat≤57):=by
 intro b hb;unfold Lib.itoa at hb;split at hb
 ·rcases List.mem_cons.1 hb with rfl | hb
  ·exact .inl (by decide)
  ·exact .inr (zCT _ b hb)
 ·exact .inr (zCT _ b hb)
theorem zLJ {x:Int} {b:UInt8} (h:b.toNat≠45∧(b.toNat < 48∨57 < b.toNat)):b ∉ Lib.itoa x:=fun hb=>by
 rcases zLI b hb with h1 | h1<;>omega
theorem zNV {c:UInt8} {r:List UInt8}:∀{h:List UInt8},c ∉ h→Lib.indexByte (h++c :: r) c=(h.length:Int)
 | [],_=>by simp [Lib.indexByte]
 | b :: h,hc=>by
  have h1:c ∉ h:=fun e=>hc (List.mem_cons_of_mem _ e)
  have h2:b≠c:=fun e=>hc (by rw [e];exact List.mem_cons_self ..)
  rw [List.cons_append];unfold Lib.indexByte;rw [zNV h1,if_neg (by simpa using h2),if_neg (by simp)];simp
theorem zNW {c:UInt8}:∀{h:List UInt8},c ∉ h→Lib.indexByte h c = -1
 | [],_=>rfl
 | b :: h,hc=>by
  have h1:c ∉ h:=fun e=>hc (List.mem_cons_of_mem _ e)
  have h2:b≠c:=fun e=>hc (by rw [e];exact List.mem_cons_self ..)
  unfold Lib.indexByte;rw [zNW h1,if_neg (by simpa using h2)];rfl
theorem zNX {h r:List UInt8} {c:UInt8} (hc:c ∉ h):Lib.cut (h++c :: r) [c]=(h,r,true):=by
 unfold Lib.cut;rw [Lib.index_one,zNV hc,if_pos (by omega)];simp
theorem zNY {s:List UInt8} {c:UInt8} (hc:c ∉ s):Lib.cut s [c]=(s,[],false):=by
 unfold Lib.cut;rw [Lib.index_one,zNW hc,if_neg (by omega)]
end Go.Proofs.YtlmdfmnbcndhoaaGreatDoor
