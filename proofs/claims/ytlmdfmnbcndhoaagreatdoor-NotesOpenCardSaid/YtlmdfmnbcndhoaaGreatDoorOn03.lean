/-
  A drawn region walked once for a class of worlds: the frame is kept as a list of what was written, and tests that are not decided stay letters. No condition.
  Contracts: valid frames, by the program and by the document. Conditions: the fingers read.
-/
import Derived.Test.YtlmdfmnbcndhoaaGreatDoorOn01
import Derived.Deep.Quiet
import Derived.Test.YtlmdfmnbcndhoaaGreatDoorOn02
namespace Go.Proofs.YtlmdfmnbcndhoaaGreatDoor
open Go.RowKit
/-- A frame with some slots written, the last one first. -/
def frm (a:Act):List (Nat×Value)→Act
 | []=>a
 | p :: e=>(frm a e).put (some p.1) p.2
def look (r:Operand→Value) (e:List (Nat×Value)):Operand→Value
 | .tmp i=>(e.lookup i).getD (r (.tmp i))
 | x=>r x
def within (n:Nat) (e:List (Nat×Value)):Prop:=∀p∈e,p.1 < n
theorem frm_size (a:Act):∀e:List (Nat×Value),(frm a e).tmps.size=a.tmps.size
 | []=>rfl
 | p :: e=>by
  show ((frm a e).tmps.setIfInBounds p.1 p.2).size=_
  rw [Array.size_setIfInBounds,frm_size a e]
theorem frm_eval {a:Act}:∀{e:List (Nat×Value)},within a.tmps.size e→(frm a e).eval=look a.eval e
 | [],_=>by funext x;cases x<;>rfl
 | p :: e,h=>by
  have ih:=frm_eval (a:=a) (e:=e) (fun q hq=>h q (List.mem_cons_of_mem _ hq))
  have hp:p.1 < (frm a e).tmps.size:=by rw [frm_size];exact h p (List.mem_cons_self ..)
  funext x
  cases x with
  | tmp i =>
   have ihi:=congrFun ih (.tmp i)
   show ((frm a e).tmps.setIfInBounds p.1 p.2).getD i undef=((p :: e).lookup i).getD _
   change (frm a e).tmps.getD i undef=(e.lookup i).getD _ at ihi
   obtain ⟨d,v⟩:=p
   by_cases hd:i=d
   ·subst hd
    rw [List.lookup_cons_self]
    simp only [Array.getD_eq_getD_getElem?,Option.getD_some]
    rw [Array.getElem?_setIfInBounds_self_of_lt (by exact hp)]
    rfl
   ·rw [List.lookup_cons,show (i==d)=false by simpa using hd]
    simp only [Array.getD_eq_getD_getElem?] at ihi ⊢
    rw [Array.getElem?_setIfInBounds_ne (fun h=>hd h.symm)]
    exact ihi
  | const v=>exact congrFun ih (.const v)
  | global g=>exact congrFun ih (.global g)
  | func f=>exact congrFun ih (.func f)
def boolOf:Value→Option Bool
 | .bool b=>some b
 | _=>none
def wantE (ops:Array Oper) (r:Operand→Value) (e:List (Nat×Value)) (o:Oper):Bool :=
 Region.wanted o fun j=>match (ops[j]?).bind (·.dst) with
  | some d=>boolOf (look r e (.tmp d))
  | none=>none
def outE (o:Oper) (v:Value) (e:List (Nat×Value)):List (Nat×Value):=match o.dst with
 | some d=>(d,v) :: e
 | none=>e
/-- The walk over the list of what was written. -/
def wk (P:Program) (ops:Array Oper) (C:World→Prop) (Q:List (Nat×Value)→Prop) (r:Operand→Value):List Oper→List (Nat×Value)→Prop
 | [],e=>Q e
 | o :: l,e=>∃(b:Bool) (v:Value),wantE ops r e o=b∧(b=true→∀w,C w→Oper.quietUpon P C w v ((execOp (look r e) o).run P w))∧wk P ops C Q r l (outE o (cond b v undef) e)
theorem yielded_look {ops:Array Oper} {a:Act} {e:List (Nat×Value)} (h:within a.tmps.size e) (j:Nat):yielded ops (frm a e).tmps j=(match (ops[j]?).bind (·.dst) with
  | some d=>boolOf (look a.eval e (.tmp d))
  | none=>none):=by
 unfold yielded
 cases hd:(ops[j]?).bind (·.dst) with
 | none=>rfl
 | some d =>
  have:=congrFun (frm_eval h) (.tmp d)
  change (frm a e).tmps.getD d undef=_ at this
  show (match (frm a e).tmps[d]? with | some (.bool b)=>some b | _=>none)=boolOf (look a.eval e (.tmp d))
  rw [←this]
  simp only [Array.getD_eq_getD_getElem?]
  cases (frm a e).tmps[d]? with
  | none=>rfl
  | some v=>cases v<;>rfl
section
variable {P:Program} {ops:Array Oper} {C:World→Prop} {Q:List (Nat×Value)→Prop} {a:Act}
theorem outE_within {n:Nat} {o:Oper} {v:Value} {e:List (Nat×Value)} (h:within n e) (ho:∀d,o.dst=some d→d < n):within n (outE o v e):=by
 unfold outE
 cases hd:o.dst with
 | none=>exact h
 | some d =>
  intro p hp
  rcases List.mem_cons.1 hp with rfl | hp
  ·exact ho d hd
  ·exact h p hp
theorem wk_quiet {R:Act→Prop} (hQ:∀e,within a.tmps.size e→Q e→R (frm a e)):∀(l:List Oper) (e:List (Nat×Value)),within a.tmps.size e→(∀o∈l,∀d,o.dst=some d→d < a.tmps.size) →
  wk P ops C Q a.eval l e→wpQuiet P ops C R l (frm a e)
 | [],e,he,_,h=>hQ e he h
 | o :: l,e,he,hl,⟨b,v,hw,hq,hk⟩=>by
  have hout:(frm a e).put o.dst (cond b v undef)=frm a (outE o (cond b v undef) e):=by
   unfold outE
   cases o.dst<;>rfl
  have ih:=wk_quiet hQ l (outE o (cond b v undef) e) (outE_within he (hl o (List.mem_cons_self ..))) (fun o' ho'=>hl o' (List.mem_cons_of_mem _ ho')) hk
  have hwant:Region.wanted o (yielded ops (frm a e).tmps)=b:=by
   rw [←hw]
   unfold wantE
   exact congrArg (Region.wanted o) (funext fun j=>yielded_look he j)
  unfold wpQuiet
  rw [hwant]
  rw [←hout] at ih
  cases b with
  | true =>
   rw [if_pos rfl]
   refine ⟨v,fun w hC=>?_,ih⟩
   unfold Oper.quietAt
   rw [frm_eval he]
   exact hq rfl w hC
  | false =>
   rw [if_neg (by simp)]
   exact ih
def dstsB (l:List Oper) (n:Nat):Bool:=l.all fun o=>match o.dst with
 | some d=>decide (d < n)
 | none=>true
theorem dstsB_spec {l:List Oper} {n:Nat} (h:dstsB l n=true):∀o∈l,∀d,o.dst=some d→d < n:=by
 intro o ho d hd
 have:=List.all_eq_true.1 h o ho
 rw [hd] at this
 simpa using this
/-- The beginning: a region that draws, its operations quiet in the class C. 'e': what the frame is known to hold. -/
theorem wk_region {id:Nat} {Q':Exit→Act→World→Prop} {w:World} {l:List Oper} (n:Nat) (e:List (Nat×Value)) (hm:P.follows .mixedOrders=true) (hB:Region.lexB .any l.toArray=true)
  (hn:a.tmps.size=n) (hd:dstsB l n=true) (he:within n e) (hf:frm a e=a) (hC:C { w with drawn:=w.drawn+1 })
  (h:∀r:Operand→Value,(∀v,r (.const v)=v)→(∀k,r (.func k)=.func (.func k) #[] #[])→wk P l.toArray C (fun e'=>∀w',C w'→Q' .normal (frm a e') w') r l e):(Code.region id l.toArray true).wp P Q' a w:=by
 refine wp_region_quiet hm hB hC ?_
 subst hn
 have:=wk_quiet (R:=fun a'=>∀w',C w'→Q' .normal a' w') (fun e _ h=>h) l e he (dstsB_spec hd) (h a.eval (fun _=>rfl) (fun _=>rfl))
 rw [hf] at this
 simpa using this
/-- A slot that already holds what is put. -/
theorem frm_same {d:Nat} {v:Value} {e:List (Nat×Value)} (hf:frm a e=a) (hd:d < a.tmps.size) (hv:a.tmps.getD d undef=v):frm a ((d,v) :: e)=a:=by
 show (frm a e).put (some d) v=a
 rw [hf]
 cases a with
 | mk T D =>
  show Act.mk (T.setIfInBounds d v) D=_
  congr 1
  apply Array.ext_getElem?
  intro i
  rw [Array.getElem?_setIfInBounds]
  by_cases e:d=i
  ·subst e
   rw [if_pos rfl]
   change d < T.size at hd
   rw [if_pos hd,←hv]
   simp [hd]
  ·rw [if_neg e]
variable {r:Operand→Value} {o:Oper} {l:List Oper} {e:List (Nat×Value)} {v:Value} {b g c:Bool} {j d:Nat}
theorem wk_one (hg:o.guard=none) (hq:∀w,C w→Oper.quietUpon P C w v ((execOp (look r e) o).run P w)) (hk:wk P ops C Q r l (outE o v e)):wk P ops C Q r (o :: l) e :=
 ⟨true,v,by unfold wantE Region.wanted;rw [hg],fun _=>hq,hk⟩
theorem wk_grd (hw:wantE ops r e o=b) (hq:b=true→∀w,C w→Oper.quietUpon P C w v ((execOp (look r e) o).run P w)) (hk:wk P ops C Q r l (outE o (cond b v undef) e)):wk P ops C Q r (o :: l) e:=⟨b,v,hw,hq,hk⟩
theorem want_f (hg:o.guard=some (j,false)) (hd:(ops[j]?).bind (·.dst)=some d) (hl:look r e (.tmp d)=.bool b):wantE ops r e o = !b:=by
 unfold wantE Region.wanted
 rw [hg]
 show ((match (ops[j]?).bind (·.dst) with | some d=>boolOf (look r e (.tmp d)) | none=>none)==some false) = !b
 rw [hd]
 show (boolOf (look r e (.tmp d))==some false) = !b
 rw [hl]
 cases b<;>rfl
end
section
variable {P:Program} {C:World→Prop} {ρ:Operand→Value} {o:Oper} {w:World} {x y:Operand} {v p q:Value} {s f:Nat} {B c:Bool}
theorem q_move (ho:o.op=.move x) (hx:ρ x=v):Oper.quietUpon P C w v ((execOp ρ o).run P w):=by
 unfold execOp
 rw [ho]
 exact ⟨rfl,hx⟩
theorem q_or (ho:o.op=.pick x (.const (.bool true)) y) (hk:∀v,ρ (.const v)=v) (hx:ρ x=.bool B) (hy:ρ y=cond (!B) (.bool c) undef):Oper.quietUpon P C w (.bool (B||c)) ((execOp ρ o).run P w):=by
 unfold execOp
 rw [ho]
 simp only [hx,hy,hk]
 cases B<;>exact ⟨rfl,rfl⟩
theorem cnd {g:Bool} {u:Value} (h:g=true):cond g v u=v:=by rw [h];rfl
theorem q_val {m:Sem Value} (hm:execOp ρ o=(do pure (.value (←m)))) (hr:m.run P w=.ok q w):Oper.quietUpon P C w q ((execOp ρ o).run P w):=by
 rw [hm,Sem.run_bind,hr]
 exact ⟨rfl,rfl⟩
theorem q_fa (ho:o.op=.fieldAddr s x f) (hx:ρ x=p) (hr:(Instr.fieldAt s p f).run P w=.ok q w):Oper.quietUpon P C w q ((execOp ρ o).run P w) :=
 q_val (m:=Instr.fieldAt s p f) (by unfold execOp;rw [ho,←hx]) hr
theorem q_ld (ho:o.op=.load s x) (hx:ρ x=p) (hr:(Instr.loadAt s p).run P w=.ok q w):Oper.quietUpon P C w q ((execOp ρ o).run P w) :=
 q_val (m:=Instr.loadAt s p) (by unfold execOp;rw [ho,←hx]) hr
theorem map1 {v:Value} (hx:ρ x=v):#[x].map ρ=#[v]:=by simp [hx]
theorem map2 {v u:Value} (hx:ρ x=v) (hy:ρ y=u):#[x,y].map ρ=#[v,u]:=by simp [hx,hy]
theorem q_call {k:FuncId} {xs:Array Operand} {ts:Array TypeId} {vs:Array Value} (ho:o.op=.call { callee:=.value (.func k),args:=xs,argTypes:=ts }) (hk:ρ (.func k)=.func (.func k) #[] #[]) (hx:xs.map ρ=vs)
  (hr:(callFunc k vs).run P w=.ok (.enter k vs) w) (hc:Calls P k vs w fun e w''=>e=.returned v∧C w''):Oper.quietUpon P C w v ((execOp ρ o).run P w):=by
 have:(execOp ρ o).run P w=.ok (.enter k vs) w:=by
  unfold execOp
  rw [ho]
  simp only [resolve,hk,hx]
  go_simp
 rw [this]
 exact ⟨rfl,hc⟩
end
end Go.Proofs.YtlmdfmnbcndhoaaGreatDoor
namespace Go.Proofs.YtlmdfmnbcndhoaaGreatDoor
open Go.RowKit
theorem unwanted_H {c:Bool} {X Y:Prop} (h:c=false) (hy:Y):if c=true then X else Y:=by rw [h];simpa using hy
theorem there_is {x:Fg} {b:Bool} (h:thereB x=b) (w:World):Calls Tryz.prog 138 #[fgV x] w fun e w'=>e=.returned (.bool b)∧Below w.heap.size w w':=by
 subst h;exact hand_there x w
theorem contains_is {A:Option Addr} {n c:Nat} {L:List Fg} {f:Fg} {b:Bool} (h:decide (0 < idxF L f)=b) (w:World) (hA:Fgs w A n L) :
  Calls Tryz.prog 139 #[.slice A n c,fgV f] w fun e w'=>e=.returned (.bool b)∧Below w.heap.size w w':=by
 subst h;exact slices_containsF A n c L f w hA
section
variable {P:Program} {C:World→Prop} {ρ:Operand→Value} {o:Oper} {w:World} {x y:Operand} {q:Value}
theorem q_unH {u:UnOp} {t:TypeId} {X:Value} (ho:o.op=.unOp u t x) (hx:ρ x=X) (hr:(Op.unary u X).run P w=.ok q w):Oper.quietUpon P C w q ((execOp ρ o).run P w) :=
 q_val (m:=Op.unary u X) (by unfold execOp;rw [ho,←hx]) hr
theorem q_slH {t:TypeId} {X I:Value} (ho:o.op=.slice t x none (some y) none) (hx:ρ x=X) (hy:ρ y=I) (hr:(Instr.sliceAt t X none (some I) none).run P w=.ok q w):Oper.quietUpon P C w q ((execOp ρ o).run P w) :=
 q_val (m:=Instr.sliceAt t X none (some I) none) (by unfold execOp;rw [ho,←hx,←hy];first | rfl | simp) hr
end
theorem un_notH (b:Bool) (w:World):(Op.unary .not (.bool b)).run Tryz.prog w=.ok (.bool (!b)) w:=by go_simp
theorem fa_frm (b:Nat) (w:World):(Instr.fieldAt 24 (.pointer (some ⟨b,0,none⟩)) 0).run Tryz.prog w=.ok (.pointer (some ⟨b,0,none⟩)) w:=by go_simp
theorem ld_fgs {p:Addr} {A:Option Addr} {n c:Nat} {w:World} (h:w.cell? p=some (.slice A n c)):(Instr.loadAt 22 (.pointer (some p))).run Tryz.prog w=.ok (.slice A n c) w:=by go_simp
theorem ld_fg {b:Nat} {p d:Int} {r:Bool} {w:World} (h0:w.cell? ⟨b,0,none⟩=some (.int .i64 p)) (h1:w.cell? ⟨b,1,none⟩=some (.bool r)) (h2:w.cell? ⟨b,2,none⟩=some (.int .i64 d)):(Instr.loadAt 90 (.pointer (some ⟨b,0,none⟩))).run Tryz.prog w=.ok (.agg #[.int .i64 p,.bool r,.int .i64 d]) w:=by go_simp
theorem sl_fgs {g o n c i:Nat} (h0:(0:Int)≤(i:Int)) (h1:(i:Int)≤(c:Int)) (w:World):(Instr.sliceAt 22 (.slice (some ⟨g,o,none⟩) n c) none (some (.int .i64 (i:Int))) none).run Tryz.prog w=.ok (.slice (some ⟨g,o,none⟩) i c) w:=by
 go_simp
theorem en_there (vs:Array Value) (w:World):(callFunc 138 vs).run Tryz.prog w=.ok (.enter 138 vs) w:=by go_simp
theorem en_contains (vs:Array Value) (w:World):(callFunc 139 vs).run Tryz.prog w=.ok (.enter 139 vs) w:=by go_simp
theorem frB_no {L:List Fg} {re lo:Int} (h:¬(L.length≤40∧0≤re∧re≤40∧1≤lo∧lo≤20)):frB L re lo=false:=by
 cases e:frB L re lo with
 | false=>rfl
 | true=>obtain ⟨h1,h2,h3,h4,h5,_⟩:=frB_iff.1 e;exact absurd ⟨h1,h2,h3,h4,h5⟩ h
theorem frB_bad {L:List Fg} {re lo:Int} {i:Nat} (hi:i < L.length) (h:goodF L i=false):frB L re lo=false:=by
 cases e:frB L re lo with
 | false=>rfl
 | true=>have:=(frB_iff.1 e).2.2.2.2.2 i hi;rw [h] at this;cases this
set_option maxRecDepth 100000 in
set_option maxHeartbeats 3200000 in
theorem hand_Valid (A:Option Addr) (n c:Nat) (L:List Fg) (re lo:Int) (w:World) (hA:Fgs w A n L) (hc:n≤c) :
  Calls Tryz.prog 88 #[.agg #[.slice A n c,.int .i64 re,.int .i64 lo]] w fun e w'=>e=.returned (.bool (frB L re lo))∧Below w.heap.size w w':=by
 have hln:=hA.len
 have hb0:Below w.heap.size w (w.alloc (.cells #[.slice A n c,.int .i64 re,.int .i64 lo] 24)):=(Below.refl _ _).alloc (Nat.le_refl _) _
 by_cases hok:L.length≤40∧0≤re∧re≤40∧1≤lo∧lo≤20
 ·have HOK:=Lib.hid hok
  have HL:=Lib.hid hln
  have hn40:n≤40:=by omega
  have i0:¬(40:Int) < (n:Int):=by omega
  have i1:¬re < 0:=by omega
  have i2:¬40 < re:=by omega
  have i3:¬lo < 1:=by omega
  have i4:¬20 < lo:=by omega
  have hk0:Blk (w.alloc (.cells #[.slice A n c,.int .i64 re,.int .i64 lo] 24)) w.heap.size 24 #[.slice A n c,.int .i64 re,.int .i64 lo]:=Blk.new _ _ _
  clear hok hln
  go_enter Tryz.func88,Tryz.ntmps88
  go_wp2_with fail
  generalize w.alloc (.cells #[.slice A n c,.int .i64 re,.int .i64 lo] 24)=W at hb0 hk0 ⊢
  go_loopw [32] (fun v wr=>∃i:Nat,i≤n∧v=.int .i64 i∧Below W.heap.size W wr∧Hid (∀j:Nat,j < i→goodF L j=true)) (fun v _=>n-(intOf v).toNat)
  case atStart=>exact ⟨0,Nat.zero_le _,rfl,Below.refl _ _,Lib.hid (fun j hj=>by omega)⟩
  case round =>
   obtain ⟨i,hi,rfl,hbr,HS⟩:=hrel
   have hkr:=hk0.below hbr hk0.lt
   have hbw:=below_chain hb0 hbr hb0.size
   by_cases hlt:i < n
   ·obtain ⟨g,o,rfl,hg,⟨x0,x1,x2⟩,_⟩:=(hA.below hbw).at_ hlt
    have j0:(0:Int)≤(i:Int):=by omega
    have j1:(i:Int) < (n:Int):=by omega
    have j2:(i:Int)≤(c:Int):=by omega
    have hgd:goodF L i=(thereB (fa L i)&&!(decide (0 < idxF (L.take i) (fa L i)))):=by
     unfold goodF
     congr 1
     rw [←decide_not]
     simp
    generalize hx:fa L i=x at x0 x1 x2 hgd
    obtain ⟨b1,hb1⟩:∃b,b=thereB x:=⟨_,rfl⟩
    obtain ⟨b2,hb2⟩:∃b,b=decide (0 < idxF (L.take i) x):=⟨_,rfl⟩
    rw [←hb1,←hb2] at hgd
    have HG:=Lib.hid hgd
    have HB1:=Lib.hid hb1.symm
    have HB2:=Lib.hid hb2.symm
    have hA4:=(hA.below hbw).alloc (.cells #[.int .i64 x.p,.bool x.r,.int .i64 x.d] 90)
    have hk4:Blk (wr.alloc (.cells #[.int .i64 x.p,.bool x.r,.int .i64 x.d] 90)) wr.heap.size 90 #[.int .i64 x.p,.bool x.r,.int .i64 x.d]:=Blk.new _ _ _
    have hkf:=hkr.alloc (.cells #[.int .i64 x.p,.bool x.r,.int .i64 x.d] 90)
    have hb4:Below W.heap.size W (wr.alloc (.cells #[.int .i64 x.p,.bool x.r,.int .i64 x.d] 90)):=hbr.alloc hbr.size _
    clear hgd hb1 hb2 hx
    go_wp2_with fail
    clear hkr hbr hbw x0 x1 x2 hg
    generalize wr.alloc (.cells #[.int .i64 x.p,.bool x.r,.int .i64 x.d] 90)=Y at hA4 hk4 hkf hb4 ⊢
    have KP:=fun wx (h:Below Y.heap.size Y wx)=>(show wx.cell? ⟨wr.heap.size,0,none⟩=some (.int .i64 x.p)∧wx.cell? ⟨wr.heap.size,1,none⟩=some (.bool x.r)∧wx.cell? ⟨wr.heap.size,2,none⟩=some (.int .i64 x.d)∧wx.cell? ⟨w.heap.size,0,none⟩=some (.slice (some ⟨g,o,none⟩) n c) from
     ⟨((hk4.below h hk4.lt).cell 0).trans rfl,((hk4.below h hk4.lt).cell 1).trans rfl,((hk4.below h hk4.lt).cell 2).trans rfl,((hkf.below h hkf.lt).cell 0).trans rfl⟩)
    have HT:=Lib.hid (hA4.take (i:=i) (by omega))
    refine wk_region (C:=fun w'=>Below Y.heap.size Y w') 49 [(1,.pointer (some ⟨w.heap.size,0,none⟩)),(4,.pointer (some ⟨wr.heap.size,0,none⟩)),(3,.int .i64 (i:Int))] (by kernel_rfl) (by kernel_rfl) rfl (by kernel_rfl) (by intro q hq;simp at hq;rcases hq with rfl | rfl | rfl<;>simp) (frm_same (frm_same (frm_same rfl (by simp) rfl) (by simp) rfl) (by simp) rfl) ((Below.refl _ _).drew) ?_
    intro r hrc hrf
    refine wk_one (v:=fgV x) rfl (fun w' hC=>q_ld (p:=.pointer (some ⟨wr.heap.size,0,none⟩)) rfl rfl (ld_fg (KP _ hC).1 (KP _ hC).2.1 (KP _ hC).2.2.1)) ?_
    refine wk_one (v:=.bool b1) rfl (fun w' hC=>q_call (vs:=#[fgV x]) rfl (hrf _) (map1 rfl) (en_there _ _) ((there_is HB1.out _).mono fun _ _ ⟨he,hb⟩=>⟨he,below_chain hC hb hC.size⟩)) ?_
    refine wk_one (v:=.bool (!b1)) rfl (fun w' hC=>q_unH (X:=.bool b1) rfl rfl (un_notH _ _)) ?_
    refine wk_one (v:=.bool (!b1)) rfl (fun w' hC=>q_move rfl rfl) ?_
    refine wk_grd (b:=!(!b1)) (v:=.pointer (some ⟨w.heap.size,0,none⟩)) (want_f rfl rfl rfl) (fun h w' hC=>q_fa (p:=.pointer (some ⟨w.heap.size,0,none⟩)) rfl rfl (fa_frm _ _)) ?_
    refine wk_grd (b:=!(!b1)) (v:=.slice (some ⟨g,o,none⟩) n c) (want_f rfl rfl rfl) (fun h w' hC=>q_ld (p:=.pointer (some ⟨w.heap.size,0,none⟩)) rfl (cnd h) (ld_fgs (KP _ hC).2.2.2)) ?_
    refine wk_grd (b:=!(!b1)) (v:=.int .i64 (i:Int)) (want_f rfl rfl rfl) (fun h w' hC=>q_move rfl rfl) ?_
    refine wk_grd (b:=!(!b1)) (v:=.slice (some ⟨g,o,none⟩) i c) (want_f rfl rfl rfl) (fun h w' hC=>q_slH (X:=.slice (some ⟨g,o,none⟩) n c) (I:=.int .i64 (i:Int)) rfl (cnd h) (cnd h) (sl_fgs j0 j2 _)) ?_
    refine wk_grd (b:=!(!b1)) (v:=fgV x) (want_f rfl rfl rfl) (fun h w' hC=>q_ld (p:=.pointer (some ⟨wr.heap.size,0,none⟩)) rfl rfl (ld_fg (KP _ hC).1 (KP _ hC).2.1 (KP _ hC).2.2.1)) ?_
    refine wk_grd (b:=!(!b1)) (v:=.bool b2) (want_f rfl rfl rfl) (fun h w' hC=>q_call (vs:=#[.slice (some ⟨g,o,none⟩) i c,fgV x]) rfl (hrf _) (map2 (cnd h) (cnd h)) (en_contains _ _) ((contains_is HB2.out _ (HT.out.below hC)).mono fun _ _ ⟨he,hb⟩=>⟨he,below_chain hC hb hC.size⟩)) ?_
    refine wk_one (v:=.bool (!b1||b2)) rfl (fun w' hC=>q_or rfl (fun _=>hrc _) rfl rfl) ?_
    intro wx hwx
    have hbf:=below_chain hb4 hwx hb4.size
    clear hrc hrf r KP
    simp only [outE,frm,Act.put,List.setIfInBounds_toArray,List.set_cons_succ,List.set_cons_zero]
    clear hA4 hk4 hkf HT hwx
    cases hgo:(!b1||b2) with
    | true =>
     have hr:=Lib.hid (frB_bad (re:=re) (lo:=lo) (i:=i) (by rw [HL.out];exact hlt) (by rw [HG.out];revert hgo;cases b1<;>cases b2<;>simp))
     clear HG HB2 HB1 HS hgo
     go_wp2_with fail
     go_ret
     exact ⟨retB (by rw [hr.out]),below_chain hb0 hbf hb0.size⟩
    | false =>
     have HS1:=Lib.hid (show ∀j:Nat,j < i+1→goodF L j=true from fun j hj=>by
      rcases Nat.decEq j i with e | e
      ·exact HS.out j (by omega)
      ·subst e;rw [HG.out];revert hgo;cases b1<;>cases b2<;>simp)
     clear HG HB2 HB1 HS hgo
     go_wp2_with fail
     go_roundw
     case rel=>exact ⟨i+1,by omega,by go_num,hbf,HS1⟩
     case measure=>simp [intOf];omega
   ·have hr:=Lib.hid (show frB L re lo=true from frB_iff.2 ⟨HOK.out.1,HOK.out.2.1,HOK.out.2.2.1,HOK.out.2.2.2.1,HOK.out.2.2.2.2,fun j hj=>HS.out j (by rw [HL.out] at hj;omega)⟩)
    have j1:¬(i:Int) < (n:Int):=by omega
    clear HS
    go_wp2_with fail
    go_ret
    exact ⟨retB (by rw [hr.out]),hbw⟩
 ·have hr:=Lib.hid (frB_no hok)
  go_enter Tryz.func88,Tryz.ntmps88
  go_wp2_with fail
  all_goals first
   | (exfalso;omega)
   | (go_ret;exact ⟨retB (by rw [hr.out]),hb0⟩)
end Go.Proofs.YtlmdfmnbcndhoaaGreatDoor
