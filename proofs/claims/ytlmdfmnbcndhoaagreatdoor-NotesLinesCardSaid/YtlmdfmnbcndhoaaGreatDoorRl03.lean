/-
  Lemmas, part 3. Conditions: each theorem's own.
-/
import Derived.Test.YtlmdfmnbcndhoaaGreatDoorRl01
import Derived.Test.YtlmdfmnbcndhoaaGreatDoorRl02
import Derived.Laws.Cover2
import Derived.StillTailTactics
import Derived.Deep.Quiet
namespace Go.Proofs.YtlmdfmnbcndhoaaGreatDoor
open Go.RowKit
def Els {α:Type} (sz:Nat) (enc:α→List Value) (w:World) (A:Option Addr) (n:Nat) (L:List α):Prop :=
 L.length=n∧n≤17592186043904∧(0 < n→∃g o,A=some ⟨g,o,none⟩∧g < w.heap.size∧∀j x,L[j]? = some x→∀q v,(enc x)[q]? = some v→w.cell? ⟨g,o+j*sz+q,none⟩=some v)
section
variable {α:Type} {sz:Nat} {enc:α→List Value} {w w':World} {A:Option Addr} {n:Nat} {L:List α}
theorem Els.len (h:Els sz enc w A n L):L.length=n:=h.1
theorem Els.le (h:Els sz enc w A n L):n≤17592186043904:=h.2.1
theorem Els.nil (w:World) (A:Option Addr):Els sz enc w A 0 ([]:List α):=⟨rfl,by omega,fun h=>absurd h (by omega)⟩
theorem Els.keep (h:Els sz enc w A n L) (hs:w.heap.size≤w'.heap.size) (hk:∀p:Addr,p.block < w.heap.size→w'.cell? p=w.cell? p):Els sz enc w' A n L :=
 ⟨h.1,h.2.1,fun hn=>by
  obtain ⟨g,o,e,hb,hc⟩:=h.2.2 hn
  exact ⟨g,o,e,by omega,fun j x hx q v hv=>(hk _ hb).trans (hc j x hx q v hv)⟩⟩
theorem Els.below (h:Els sz enc w A n L) (hb:Below w.heap.size w w'):Els sz enc w' A n L:=h.keep hb.size fun _ hp=>hb.cell hp
theorem Els.alloc (h:Els sz enc w A n L) (o:Obj):Els sz enc (w.alloc o) A n L:=h.below ((Below.refl _ _).alloc (Nat.le_refl _) o)
theorem Els.take (h:Els sz enc w A n L) {i:Nat} (hi:i≤n):Els sz enc w A i (L.take i):=by
 refine ⟨by rw [List.length_take,h.1];omega,Nat.le_trans hi h.2.1,fun h0=>?_⟩;obtain ⟨g,o,e,hb,hc⟩:=h.2.2 (by omega);refine ⟨g,o,e,hb,fun j x hx=>hc j x ?_⟩;rw [List.getElem?_take] at hx;split at hx
 ·exact hx
 ·cases hx
end
theorem zBU {a b:Bool} (h:a=b):Ending.returned (.bool a)=.returned (.bool b):=by rw [h]
theorem zFs {a b:Int} (h:a=b):Ending.returned (.int .i64 a)=.returned (.int .i64 b):=by rw [h]
theorem zDl {a b:ByteArray} (h:a=b):Ending.returned (.string a)=.returned (.string b):=by rw [h]
def zWL (x:Fg):List Value:=[.int .i64 x.p,.bool x.r,.int .i64 x.d]
abbrev fgV (x:Fg):Value:=.agg #[.int .i64 x.p,.bool x.r,.int .i64 x.d]
structure FgOk (x:Fg):Prop where
 p:I64 x.p
 d:I64 x.d
structure FgAt (w:World) (g o:Nat) (x:Fg):Prop where
 p:w.cell? ⟨g,o,none⟩=some (.int .i64 x.p)
 r:w.cell? ⟨g,o+1,none⟩=some (.bool x.r)
 d:w.cell? ⟨g,o+2,none⟩=some (.int .i64 x.d)
def Fgs (w:World) (A:Option Addr) (n:Nat) (L:List Fg):Prop:=Els 3 zWL w A n L∧∀x∈L,FgOk x
section
variable {w w':World} {A:Option Addr} {n:Nat} {L:List Fg}
theorem Fgs.len (h:Fgs w A n L):L.length=n:=h.1.1
theorem Fgs.le (h:Fgs w A n L):n≤17592186043904:=h.1.2.1
theorem Fgs.below (h:Fgs w A n L) (hb:Below w.heap.size w w'):Fgs w' A n L:=⟨h.1.below hb,h.2⟩
theorem Fgs.alloc (h:Fgs w A n L) (o:Obj):Fgs (w.alloc o) A n L:=⟨h.1.alloc o,h.2⟩
theorem Fgs.take (h:Fgs w A n L) {i:Nat} (hi:i≤n):Fgs w A i (L.take i):=⟨h.1.take hi,fun x hx=>h.2 x (List.mem_of_mem_take hx)⟩
theorem Fgs.at_ {k:Nat} (h:Fgs w A n L) (hk:k < n):∃g o,A=some ⟨g,o,none⟩∧g < w.heap.size∧FgAt w g (o+k*3) (fa L k)∧FgOk (fa L k):=by
 obtain ⟨g,o,e,hb,hc⟩:=h.1.2.2 (by omega);have hx:L[k]? = some (fa L k):=zMj (by rw [h.len];exact hk);exact ⟨g,o,e,hb,⟨hc k _ hx 0 _ rfl,hc k _ hx 1 _ rfl,hc k _ hx 2 _ rfl⟩,h.2 _ (List.mem_of_getElem? hx)⟩
end
set_option maxRecDepth 100000 in
theorem eqFg (x y:Fg) (w:World):(Op.equalIn 10000 90 (fgV x) (fgV y)).run Tryz.prog w=.ok (fgB x y) w:=by
 have u3:=Tryz.underlying3;have a3:=Tryz.isAgg3;have z3:=Tryz.sizeOf3;have u4:=Tryz.underlying4;have a4:=Tryz.isAgg4;have z4:=Tryz.sizeOf4;have hS:Tryz.prog.underlying 90=some (.struct (Tryz.prog.fieldsOf 90)):=by kernel_rfl
 have hp:Tryz.prog.stoodInHeld 90=false:=by kernel_rfl
 rw [show (10000:Nat)=9999+1 from rfl,run_equalIn_agg w 9999 90 _ _ hS hp];simp only [Program.fieldsOf,Tryz.underlying90];go_simp
 unfold fgB;by_cases h1:x.p=y.p<;>by_cases h2:x.r=y.r<;>by_cases h3:x.d=y.d<;>simp [h1,h2,h3]
theorem zNl (x:Fg) (w:World) :
  Calls Tryz.prog 138 #[fgV x] w fun e w'=>e=.returned (.bool (zAl x))∧Below w.heap.size w w':=by
 have ah:Below w.heap.size w (w.alloc (.cells #[.int .i64 x.p,.bool x.r,.int .i64 x.d] 90)):=(Below.refl _ _).alloc (Nat.le_refl _) _;have HB:=qH ah;have hb:=qH (show zAl x=(decide (1≤x.p)&&decide (x.p≤9)&&decide (0≤x.d)&&decide (x.d≤6)) from rfl);clear ah;go_enter Tryz.func138,Tryz.ntmps138;go_wp2_with fail
 all_goals
  go_ret;refine ⟨zBU ?_,HB.out⟩;rw [hb.out];simp
  try omega
set_option maxHeartbeats 1600000 in
theorem zEy (A:Option Addr) (n c:Nat) (L:List Fg) (f:Fg) (w:World) (hA:Fgs w A n L) :
  Calls Tryz.prog 173 #[.slice A n c,fgV f] w fun e w'=>e=.returned (.int .i64 ((zAK L f:Int)-1))∧Below w.heap.size w w':=by
 have hle:=hA.le;have HL:=qH hA.len;have ah:Below w.heap.size w (w.alloc (.cells #[.int .i64 f.p,.bool f.r,.int .i64 f.d] 90)):=(Below.refl _ _).alloc (Nat.le_refl _) _;have hk0:Blk (w.alloc (.cells #[.int .i64 f.p,.bool f.r,.int .i64 f.d] 90)) w.heap.size 90 #[.int .i64 f.p,.bool f.r,.int .i64 f.d]:=Blk.new _ _ _;go_enter Tryz.func173,Tryz.ntmps173;go_wp2_with fail
 generalize w.alloc (.cells #[.int .i64 f.p,.bool f.r,.int .i64 f.d] 90)=W at ah hk0 ⊢;go_loopw [8] (fun v8 wr=>∃i:Nat,i≤n∧v8=.int .i64 i∧Below W.heap.size W wr∧Hid (∀j:Nat,j < i→L[j]?≠some f)) (fun v8 _=>n-(intOf v8).toNat)
 case atStart=>exact ⟨0,Nat.zero_le _,rfl,Below.refl _ _,qH (fun j hj=>by omega)⟩
 case round =>
  obtain ⟨i,hi,rfl,hbr,HS⟩:=hrel;have hkr:=hk0.below hbr hk0.lt;obtain ⟨e0,e1,e2⟩:=cQ3 hkr;have hbw:=zAa ah hbr ah.size;by_cases hlt:i < n
  ·obtain ⟨g,o,rfl,hg,⟨x0,x1,x2⟩,_⟩:=(hA.below hbw).at_ hlt;have i0:(0:Int)≤(i:Int):=by omega
   have i1:(i:Int) < (n:Int):=by omega
   have heq:=fun w=>eqFg f (fa L i) w
   have hget:=zMj (L:=L) (i:=i) (by rw [HL.out];exact hlt)
   cases hq:fgB f (fa L i) with
   | true =>
    have hr:=qH (show zAK L f=i+1 from zGG (by rw [hget,←zKV.1 hq]) HS.out);clear HS hget;go_wp2_with fail
    go_quiet (fail)
    go_wp2_with fail
    go_ret;exact ⟨zFs (by rw [hr.out];omega),zAf hbw _⟩
   | false =>
    have cn:=qH (show ∀j:Nat,j < i+1→L[j]?≠some f from fun j hj=>by
     rcases Nat.decEq j i with e | e
     ·exact HS.out j (by omega)
     ·subst e
      rw [hget]
      intro e2
      injection e2 with e2
      rw [e2,zMi] at hq
      cases hq)
    clear HS hget;go_wp2_with fail
    go_quiet (fail)
    go_wp2_with fail
    go_roundw
    case rel=>exact ⟨i+1,by omega,by go_num,zAf hbr _,cn⟩
    case measure=>simp [intOf];omega
  ·have hr:=qH (show zAK L f=0 from zEv fun j e=>by
    have hj:=(List.getElem?_eq_some_iff.1 e).1
    rw [HL.out] at hj
    exact HS.out j (by omega) e)
   have i1:¬(i:Int) < (n:Int):=by omega
   clear HS;go_wp2_with fail
   go_ret;exact ⟨zFs (by rw [hr.out];rfl),hbw⟩
theorem zGn (A:Option Addr) (n c:Nat) (L:List Fg) (f:Fg) (w:World) (hA:Fgs w A n L) :
  Calls Tryz.prog 139 #[.slice A n c,fgV f] w fun e w'=>e=.returned (.bool (decide (0 < zAK L f)))∧Below w.heap.size w w':=by
 have ah:Below w.heap.size w (w.alloc (.cells #[.int .i64 f.p,.bool f.r,.int .i64 f.d] 90)):=(Below.refl _ _).alloc (Nat.le_refl _) _;have hA0:=hA.alloc (.cells #[.int .i64 f.p,.bool f.r,.int .i64 f.d] 90);have HC:=qH (zEy A n c L f _ hA0);go_enter Tryz.func139,Tryz.ntmps139;go_wp2_with fail
 refine HC.out.mono ?_;rintro e w2 ⟨rfl,ai⟩;have al:=zAa ah ai ah.size;go_wp2_with fail
 go_ret;exact ⟨zBU (by simp only [decide_eq_decide];omega),al⟩
theorem zNm (A:Option Addr) (n c:Nat) (L:List Fg) (re lo:Int) (f:Fg) (w:World) (hA:Fgs w A n L) :
  Calls Tryz.prog 167 #[.agg #[.slice A n c,.int .i64 re,.int .i64 lo],fgV f] w fun e w'=>e=.returned (.int .i64 (zAK L f:Int))∧Below w.heap.size w w':=by
 have ah:Below w.heap.size w ((w.alloc (.cells #[.slice A n c,.int .i64 re,.int .i64 lo] 24)).alloc (.cells #[.int .i64 f.p,.bool f.r,.int .i64 f.d] 90)):=((Below.refl _ _).alloc (Nat.le_refl _) _).alloc (by simp) _;have hA0:=hA.below ah;have hix:zAK L f≤n:=by rw [←hA.len];exact zDp
 have hle:=hA.le;have HC:=qH (zEy A n c L f _ hA0);have i0:wrap64 ((zAK L f:Int)-1+1)=(zAK L f:Int):=by unfold wrap64;omega
 go_enter Tryz.func167,Tryz.ntmps167;go_wp2_with fail
 refine HC.out.mono ?_;rintro e w2 ⟨rfl,ai⟩;have al:=zAa ah ai ah.size;go_wp2_with fail
 go_ret;exact ⟨zFs (by omega),al⟩
def frm (a:Act):List (Nat×Value)→Act
 | []=>a
 | p :: e=>(frm a e).put (some p.1) p.2
def look (r:Operand→Value) (e:List (Nat×Value)):Operand→Value
 | .tmp i=>(e.lookup i).getD (r (.tmp i))
 | x=>r x
def zGJ (n:Nat) (e:List (Nat×Value)):Prop:=∀p∈e,p.1 < n
theorem zMk (a:Act):∀e:List (Nat×Value),(frm a e).tmps.size=a.tmps.size
 | []=>rfl
 | p :: e=>by
  show ((frm a e).tmps.setIfInBounds p.1 p.2).size=_;rw [Array.size_setIfInBounds,zMk a e]
theorem zIy {a:Act}:∀{e:List (Nat×Value)},zGJ a.tmps.size e→(frm a e).eval=look a.eval e
 | [],_=>by funext x;cases x<;>rfl
 | p :: e,h=>by
  have ih:=zIy (a:=a) (e:=e) (fun q hq=>h q (List.mem_cons_of_mem _ hq));have hp:p.1 < (frm a e).tmps.size:=by rw [zMk];exact h p (List.mem_cons_self ..)
  funext x
  cases x with
  | tmp i =>
   have ihi:=congrFun ih (.tmp i);show ((frm a e).tmps.setIfInBounds p.1 p.2).getD i undef=((p :: e).lookup i).getD _
   change (frm a e).tmps.getD i undef=(e.lookup i).getD _ at ihi
   obtain ⟨d,v⟩:=p;by_cases hd:i=d
   ·subst hd;rw [List.lookup_cons_self];simp only [Array.getD_eq_getD_getElem?,Option.getD_some];rw [Array.getElem?_setIfInBounds_self_of_lt (by exact hp)];rfl
   ·rw [List.lookup_cons,show (i==d)=false by simpa using hd];simp only [Array.getD_eq_getD_getElem?] at ihi ⊢;rw [Array.getElem?_setIfInBounds_ne (fun h=>hd h.symm)];exact ihi
  | const v=>exact congrFun ih (.const v)
  | global g=>exact congrFun ih (.global g)
  | func f=>exact congrFun ih (.func f)
def zJN:Value→Option Bool
 | .bool b=>some b
 | _=>none
def zNn (ops:Array Oper) (r:Operand→Value) (e:List (Nat×Value)) (o:Oper):Bool :=
 Region.wanted o fun j=>match (ops[j]?).bind (·.dst) with
  | some d=>zJN (look r e (.tmp d))
  | none=>none
def zQZ (o:Oper) (v:Value) (e:List (Nat×Value)):List (Nat×Value):=match o.dst with
 | some d=>(d,v) :: e
 | none=>e
def wk (P:Program) (ops:Array Oper) (C:World→Prop) (Q:List (Nat×Value)→Prop) (r:Operand→Value):List Oper→List (Nat×Value)→Prop
 | [],e=>Q e
 | o :: l,e=>∃(b:Bool) (v:Value),zNn ops r e o=b∧(b=true→∀w,C w→Oper.quietUpon P C w v ((execOp (look r e) o).run P w))∧wk P ops C Q r l (zQZ o (cond b v undef) e)
theorem zJO {ops:Array Oper} {a:Act} {e:List (Nat×Value)} (h:zGJ a.tmps.size e) (j:Nat):yielded ops (frm a e).tmps j=(match (ops[j]?).bind (·.dst) with
  | some d=>zJN (look a.eval e (.tmp d))
  | none=>none):=by
 unfold yielded
 cases hd:(ops[j]?).bind (·.dst) with
 | none=>rfl
 | some d =>
  have:=congrFun (zIy h) (.tmp d)
  change (frm a e).tmps.getD d undef=_ at this
  show (match (frm a e).tmps[d]? with | some (.bool b)=>some b | _=>none)=zJN (look a.eval e (.tmp d));rw [←this];simp only [Array.getD_eq_getD_getElem?]
  cases (frm a e).tmps[d]? with
  | none=>rfl
  | some v=>cases v<;>rfl
section
variable {P:Program} {ops:Array Oper} {C:World→Prop} {Q:List (Nat×Value)→Prop} {a:Act}
theorem zKZ {n:Nat} {o:Oper} {v:Value} {e:List (Nat×Value)} (h:zGJ n e) (ho:∀d,o.dst=some d→d < n):zGJ n (zQZ o v e):=by
 unfold zQZ
 cases hd:o.dst with
 | none=>exact h
 | some d =>
  intro p hp;rcases List.mem_cons.1 hp with rfl | hp
  ·exact ho d hd
  ·exact h p hp
theorem zMl {R:Act→Prop} (hQ:∀e,zGJ a.tmps.size e→Q e→R (frm a e)):∀(l:List Oper) (e:List (Nat×Value)),zGJ a.tmps.size e→(∀o∈l,∀d,o.dst=some d→d < a.tmps.size) →
  wk P ops C Q a.eval l e→wpQuiet P ops C R l (frm a e)
 | [],e,he,_,h=>hQ e he h
 | o :: l,e,he,hl,⟨b,v,hw,hq,hk⟩=>by
  have hout:(frm a e).put o.dst (cond b v undef)=frm a (zQZ o (cond b v undef) e):=by
   unfold zQZ
   cases o.dst<;>rfl
  have ih:=zMl hQ l (zQZ o (cond b v undef) e) (zKZ he (hl o (List.mem_cons_self ..))) (fun o' xw=>hl o' (List.mem_cons_of_mem _ xw)) hk;have hwant:Region.wanted o (yielded ops (frm a e).tmps)=b:=by
   rw [←hw];unfold zNn;exact congrArg (Region.wanted o) (funext fun j=>zJO he j)
  unfold wpQuiet;rw [hwant];rw [←hout] at ih
  cases b with
  | true =>
   rw [if_pos rfl];refine ⟨v,fun w hC=>?_,ih⟩;unfold Oper.quietAt;rw [zIy he];exact hq rfl w hC
  | false =>
   rw [if_neg (by simp)];exact ih
def zVu (l:List Oper) (n:Nat):Bool:=l.all fun o=>match o.dst with
 | some d=>decide (d < n)
 | none=>true
theorem zNo {l:List Oper} {n:Nat} (h:zVu l n=true):∀o∈l,∀d,o.dst=some d→d < n:=by
 intro o ho d hd;have:=List.all_eq_true.1 h o ho;rw [hd] at this;simpa using this
theorem zOC {id:Nat} {Q':Exit→Act→World→Prop} {w:World} {l:List Oper} (n:Nat) (e:List (Nat×Value)) (hm:P.follows .mixedOrders=true) (hB:Region.lexB .any l.toArray=true)
  (hn:a.tmps.size=n) (hd:zVu l n=true) (he:zGJ n e) (hf:frm a e=a) (hC:C { w with drawn:=w.drawn+1 })
  (h:∀r:Operand→Value,(∀v,r (.const v)=v)→(∀k,r (.func k)=.func (.func k) #[] #[])→wk P l.toArray C (fun e'=>∀w',C w'→Q' .normal (frm a e') w') r l e):(Code.region id l.toArray true).wp P Q' a w:=by
 refine wp_region_quiet hm hB hC ?_;subst hn;have:=zMl (R:=fun a'=>∀w',C w'→Q' .normal a' w') (fun e _ h=>h) l e he (zNo hd) (h a.eval (fun _=>rfl) (fun _=>rfl));rw [hf] at this;simpa using this
theorem zIz {d:Nat} {v:Value} {e:List (Nat×Value)} (hf:frm a e=a) (hd:d < a.tmps.size) (hv:a.tmps.getD d undef=v):frm a ((d,v) :: e)=a:=by
 show (frm a e).put (some d) v=a;rw [hf]
 cases a with
 | mk T D =>
  show Act.mk (T.setIfInBounds d v) D=_
  congr 1
  apply Array.ext_getElem?;intro i;rw [Array.getElem?_setIfInBounds];by_cases e:d=i
  ·subst e;rw [if_pos rfl]
   change d < T.size at hd
   rw [if_pos hd,←hv];simp [hd]
  ·rw [if_neg e]
variable {r:Operand→Value} {o:Oper} {l:List Oper} {e:List (Nat×Value)} {v:Value} {b g c:Bool} {j d:Nat}
theorem zJP (hg:o.guard=none) (hq:∀w,C w→Oper.quietUpon P C w v ((execOp (look r e) o).run P w)) (hk:wk P ops C Q r l (zQZ o v e)):wk P ops C Q r (o :: l) e :=
 ⟨true,v,by unfold zNn Region.wanted;rw [hg],fun _=>hq,hk⟩
theorem zHW (hw:zNn ops r e o=b) (hq:b=true→∀w,C w→Oper.quietUpon P C w v ((execOp (look r e) o).run P w)) (hk:wk P ops C Q r l (zQZ o (cond b v undef) e)):wk P ops C Q r (o :: l) e:=⟨b,v,hw,hq,hk⟩
theorem zHX (hg:o.guard=some (j,false)) (hd:(ops[j]?).bind (·.dst)=some d) (hl:look r e (.tmp d)=.bool b):zNn ops r e o = !b:=by
 unfold zNn Region.wanted;rw [hg];show ((match (ops[j]?).bind (·.dst) with | some d=>zJN (look r e (.tmp d)) | none=>none)==some false) = !b;rw [hd];show (zJN (look r e (.tmp d))==some false) = !b;rw [hl]
 cases b<;>rfl
end
section
variable {P:Program} {C:World→Prop} {ρ:Operand→Value} {o:Oper} {w:World} {x y:Operand} {v p q:Value} {s f:Nat} {B c:Bool}
theorem zSN (ho:o.op=.move x) (hx:ρ x=v):Oper.quietUpon P C w v ((execOp ρ o).run P w):=by
 unfold execOp;rw [ho];exact ⟨rfl,hx⟩
theorem q_or (ho:o.op=.pick x (.const (.bool true)) y) (hk:∀v,ρ (.const v)=v) (hx:ρ x=.bool B) (hy:ρ y=cond (!B) (.bool c) undef):Oper.quietUpon P C w (.bool (B||c)) ((execOp ρ o).run P w):=by
 unfold execOp;rw [ho];simp only [hx,hy,hk]
 cases B<;>exact ⟨rfl,rfl⟩
theorem cnd {g:Bool} {u:Value} (h:g=true):cond g v u=v:=by rw [h];rfl
theorem zRa {m:Sem Value} (hm:execOp ρ o=(do pure (.value (←m)))) (hr:m.run P w=.ok q w):Oper.quietUpon P C w q ((execOp ρ o).run P w):=by
 rw [hm,Sem.run_bind,hr];exact ⟨rfl,rfl⟩
theorem q_fa (ho:o.op=.fieldAddr s x f) (hx:ρ x=p) (hr:(Instr.fieldAt s p f).run P w=.ok q w):Oper.quietUpon P C w q ((execOp ρ o).run P w) :=
 zRa (m:=Instr.fieldAt s p f) (by unfold execOp;rw [ho,←hx]) hr
theorem zWV (ho:o.op=.load s x) (hx:ρ x=p) (hr:(Instr.loadAt s p).run P w=.ok q w):Oper.quietUpon P C w q ((execOp ρ o).run P w) :=
 zRa (m:=Instr.loadAt s p) (by unfold execOp;rw [ho,←hx]) hr
theorem map1 {v:Value} (hx:ρ x=v):#[x].map ρ=#[v]:=by simp [hx]
theorem map2 {v u:Value} (hx:ρ x=v) (hy:ρ y=u):#[x,y].map ρ=#[v,u]:=by simp [hx,hy]
theorem zSO {k:FuncId} {xs:Array Operand} {ts:Array TypeId} {vs:Array Value} (ho:o.op=.call { callee:=.value (.func k),args:=xs,argTypes:=ts }) (hk:ρ (.func k)=.func (.func k) #[] #[]) (hx:xs.map ρ=vs)
  (hr:(callFunc k vs).run P w=.ok (.enter k vs) w) (hc:Calls P k vs w fun e w''=>e=.returned v∧C w''):Oper.quietUpon P C w v ((execOp ρ o).run P w):=by
 have:(execOp ρ o).run P w=.ok (.enter k vs) w:=by
  unfold execOp;rw [ho];simp only [resolve,hk,hx];go_simp
 rw [this];exact ⟨rfl,hc⟩
end
theorem zRb {x:Fg} {b:Bool} (h:zAl x=b) (w:World):Calls Tryz.prog 138 #[fgV x] w fun e w'=>e=.returned (.bool b)∧Below w.heap.size w w':=by
 subst h;exact zNl x w
theorem zLa {A:Option Addr} {n c:Nat} {L:List Fg} {f:Fg} {b:Bool} (h:decide (0 < zAK L f)=b) (w:World) (hA:Fgs w A n L) :
  Calls Tryz.prog 139 #[.slice A n c,fgV f] w fun e w'=>e=.returned (.bool b)∧Below w.heap.size w w':=by
 subst h;exact zGn A n c L f w hA
section
variable {P:Program} {C:World→Prop} {ρ:Operand→Value} {o:Oper} {w:World} {x y:Operand} {q:Value}
theorem zWW {u:UnOp} {t:TypeId} {X:Value} (ho:o.op=.unOp u t x) (hx:ρ x=X) (hr:(Op.unary u X).run P w=.ok q w):Oper.quietUpon P C w q ((execOp ρ o).run P w) :=
 zRa (m:=Op.unary u X) (by unfold execOp;rw [ho,←hx]) hr
theorem zWX {t:TypeId} {X I:Value} (ho:o.op=.slice t x none (some y) none) (hx:ρ x=X) (hy:ρ y=I) (hr:(Instr.sliceAt t X none (some I) none).run P w=.ok q w):Oper.quietUpon P C w q ((execOp ρ o).run P w) :=
 zRa (m:=Instr.sliceAt t X none (some I) none) (by unfold execOp;rw [ho,←hx,←hy];first | rfl | simp) hr
end
theorem zTD (b:Bool) (w:World):(Op.unary .not (.bool b)).run Tryz.prog w=.ok (.bool (!b)) w:=by go_simp
theorem zVv (b:Nat) (w:World):(Instr.fieldAt 24 (.pointer (some ⟨b,0,none⟩)) 0).run Tryz.prog w=.ok (.pointer (some ⟨b,0,none⟩)) w:=by go_simp
theorem zVw {p:Addr} {A:Option Addr} {n c:Nat} {w:World} (h:w.cell? p=some (.slice A n c)):(Instr.loadAt 22 (.pointer (some p))).run Tryz.prog w=.ok (.slice A n c) w:=by go_simp
theorem zVx {b:Nat} {p d:Int} {r:Bool} {w:World} (h0:w.cell? ⟨b,0,none⟩=some (.int .i64 p)) (h1:w.cell? ⟨b,1,none⟩=some (.bool r)) (h2:w.cell? ⟨b,2,none⟩=some (.int .i64 d)):(Instr.loadAt 90 (.pointer (some ⟨b,0,none⟩))).run Tryz.prog w=.ok (.agg #[.int .i64 p,.bool r,.int .i64 d]) w:=by go_simp
theorem zVy {g o n c i:Nat} (h0:(0:Int)≤(i:Int)) (h1:(i:Int)≤(c:Int)) (w:World):(Instr.sliceAt 22 (.slice (some ⟨g,o,none⟩) n c) none (some (.int .i64 (i:Int))) none).run Tryz.prog w=.ok (.slice (some ⟨g,o,none⟩) i c) w:=by
 go_simp
theorem zRc (vs:Array Value) (w:World):(callFunc 138 vs).run Tryz.prog w=.ok (.enter 138 vs) w:=by go_simp
theorem zLb (vs:Array Value) (w:World):(callFunc 139 vs).run Tryz.prog w=.ok (.enter 139 vs) w:=by go_simp
theorem zSP {L:List Fg} {re lo:Int} (h:¬(L.length≤40∧0≤re∧re≤40∧1≤lo∧lo≤20)):frB L re lo=false:=by
 cases e:frB L re lo with
 | false=>rfl
 | true=>obtain ⟨h1,h2,h3,h4,h5,_⟩:=zCB.1 e;exact absurd ⟨h1,h2,h3,h4,h5⟩ h
theorem zLc {L:List Fg} {re lo:Int} {i:Nat} (hi:i < L.length) (h:zCV L i=false):frB L re lo=false:=by
 cases e:frB L re lo with
 | false=>rfl
 | true=>have:=(zCB.1 e).2.2.2.2.2 i hi;rw [h] at this;cases this
set_option maxRecDepth 100000 in
set_option maxHeartbeats 3200000 in
theorem zNp (A:Option Addr) (n c:Nat) (L:List Fg) (re lo:Int) (w:World) (hA:Fgs w A n L) (hc:n≤c) :
  Calls Tryz.prog 88 #[.agg #[.slice A n c,.int .i64 re,.int .i64 lo]] w fun e w'=>e=.returned (.bool (frB L re lo))∧Below w.heap.size w w':=by
 have hln:=hA.len;have ah:Below w.heap.size w (w.alloc (.cells #[.slice A n c,.int .i64 re,.int .i64 lo] 24)):=(Below.refl _ _).alloc (Nat.le_refl _) _;by_cases hok:L.length≤40∧0≤re∧re≤40∧1≤lo∧lo≤20
 ·have gw:=qH hok;have HL:=qH hln;have pT:n≤40:=by omega
  have i0:¬(40:Int) < (n:Int):=by omega
  have i1:¬re < 0:=by omega
  have i2:¬40 < re:=by omega
  have i3:¬lo < 1:=by omega
  have i4:¬20 < lo:=by omega
  have hk0:Blk (w.alloc (.cells #[.slice A n c,.int .i64 re,.int .i64 lo] 24)) w.heap.size 24 #[.slice A n c,.int .i64 re,.int .i64 lo]:=Blk.new _ _ _;clear hok hln;go_enter Tryz.func88,Tryz.ntmps88;go_wp2_with fail
  generalize w.alloc (.cells #[.slice A n c,.int .i64 re,.int .i64 lo] 24)=W at ah hk0 ⊢;go_loopw [32] (fun v wr=>∃i:Nat,i≤n∧v=.int .i64 i∧Below W.heap.size W wr∧Hid (∀j:Nat,j < i→zCV L j=true)) (fun v _=>n-(intOf v).toNat)
  case atStart=>exact ⟨0,Nat.zero_le _,rfl,Below.refl _ _,qH (fun j hj=>by omega)⟩
  case round =>
   obtain ⟨i,hi,rfl,hbr,HS⟩:=hrel;have hkr:=hk0.below hbr hk0.lt;have hbw:=zAa ah hbr ah.size;by_cases hlt:i < n
   ·obtain ⟨g,o,rfl,hg,⟨x0,x1,x2⟩,_⟩:=(hA.below hbw).at_ hlt;have j0:(0:Int)≤(i:Int):=by omega
    have j1:(i:Int) < (n:Int):=by omega
    have j2:(i:Int)≤(c:Int):=by omega
    have hgd:zCV L i=(zAl (fa L i)&&!(decide (0 < zAK (L.take i) (fa L i)))):=by
     unfold zCV
     congr 1
     rw [←decide_not];simp
    generalize hx:fa L i=x at x0 x1 x2 hgd;obtain ⟨b1,ay⟩:∃b,b=zAl x:=⟨_,rfl⟩
    obtain ⟨b2,ai⟩:∃b,b=decide (0 < zAK (L.take i) x):=⟨_,rfl⟩
    rw [←ay,←ai] at hgd;have HG:=qH hgd;have nA:=qH ay.symm;have gY:=qH ai.symm;have oU:=(hA.below hbw).alloc (.cells #[.int .i64 x.p,.bool x.r,.int .i64 x.d] 90);have io:Blk (wr.alloc (.cells #[.int .i64 x.p,.bool x.r,.int .i64 x.d] 90)) wr.heap.size 90 #[.int .i64 x.p,.bool x.r,.int .i64 x.d]:=Blk.new _ _ _;have hkf:=hkr.alloc (.cells #[.int .i64 x.p,.bool x.r,.int .i64 x.d] 90);have aI:Below W.heap.size W (wr.alloc (.cells #[.int .i64 x.p,.bool x.r,.int .i64 x.d] 90)):=hbr.alloc hbr.size _;clear hgd ay ai hx;go_wp2_with fail
    clear hkr hbr hbw x0 x1 x2 hg;generalize wr.alloc (.cells #[.int .i64 x.p,.bool x.r,.int .i64 x.d] 90)=Y at oU io hkf aI ⊢
    have KP:=fun wx (h:Below Y.heap.size Y wx)=>(show wx.cell? ⟨wr.heap.size,0,none⟩=some (.int .i64 x.p)∧wx.cell? ⟨wr.heap.size,1,none⟩=some (.bool x.r)∧wx.cell? ⟨wr.heap.size,2,none⟩=some (.int .i64 x.d)∧wx.cell? ⟨w.heap.size,0,none⟩=some (.slice (some ⟨g,o,none⟩) n c) from
     ⟨((io.below h io.lt).cell 0).trans rfl,((io.below h io.lt).cell 1).trans rfl,((io.below h io.lt).cell 2).trans rfl,((hkf.below h hkf.lt).cell 0).trans rfl⟩)
    have HT:=qH (oU.take (i:=i) (by omega));refine zOC (C:=fun w'=>Below Y.heap.size Y w') 49 [(1,.pointer (some ⟨w.heap.size,0,none⟩)),(4,.pointer (some ⟨wr.heap.size,0,none⟩)),(3,.int .i64 (i:Int))] (by kernel_rfl) (by kernel_rfl) rfl (by kernel_rfl) (by intro q hq;simp at hq;rcases hq with rfl | rfl | rfl<;>simp) (zIz (zIz (zIz rfl (by simp) rfl) (by simp) rfl) (by simp) rfl) ((Below.refl _ _).drew) ?_;intro r hrc hrf;refine zJP (v:=fgV x) rfl (fun w' hC=>zWV (p:=.pointer (some ⟨wr.heap.size,0,none⟩)) rfl rfl (zVx (KP _ hC).1 (KP _ hC).2.1 (KP _ hC).2.2.1)) ?_;refine zJP (v:=.bool b1) rfl (fun w' hC=>zSO (vs:=#[fgV x]) rfl (hrf _) (map1 rfl) (zRc _ _) ((zRb nA.out _).mono fun _ _ ⟨he,hb⟩=>⟨he,zAa hC hb hC.size⟩)) ?_;refine zJP (v:=.bool (!b1)) rfl (fun w' hC=>zWW (X:=.bool b1) rfl rfl (zTD _ _)) ?_;refine zJP (v:=.bool (!b1)) rfl (fun w' hC=>zSN rfl rfl) ?_;refine zHW (b:=!(!b1)) (v:=.pointer (some ⟨w.heap.size,0,none⟩)) (zHX rfl rfl rfl) (fun h w' hC=>q_fa (p:=.pointer (some ⟨w.heap.size,0,none⟩)) rfl rfl (zVv _ _)) ?_;refine zHW (b:=!(!b1)) (v:=.slice (some ⟨g,o,none⟩) n c) (zHX rfl rfl rfl) (fun h w' hC=>zWV (p:=.pointer (some ⟨w.heap.size,0,none⟩)) rfl (cnd h) (zVw (KP _ hC).2.2.2)) ?_;refine zHW (b:=!(!b1)) (v:=.int .i64 (i:Int)) (zHX rfl rfl rfl) (fun h w' hC=>zSN rfl rfl) ?_;refine zHW (b:=!(!b1)) (v:=.slice (some ⟨g,o,none⟩) i c) (zHX rfl rfl rfl) (fun h w' hC=>zWX (X:=.slice (some ⟨g,o,none⟩) n c) (I:=.int .i64 (i:Int)) rfl (cnd h) (cnd h) (zVy j0 j2 _)) ?_;refine zHW (b:=!(!b1)) (v:=fgV x) (zHX rfl rfl rfl) (fun h w' hC=>zWV (p:=.pointer (some ⟨wr.heap.size,0,none⟩)) rfl rfl (zVx (KP _ hC).1 (KP _ hC).2.1 (KP _ hC).2.2.1)) ?_;refine zHW (b:=!(!b1)) (v:=.bool b2) (zHX rfl rfl rfl) (fun h w' hC=>zSO (vs:=#[.slice (some ⟨g,o,none⟩) i c,fgV x]) rfl (hrf _) (map2 (cnd h) (cnd h)) (zLb _ _) ((zLa gY.out _ (HT.out.below hC)).mono fun _ _ ⟨he,hb⟩=>⟨he,zAa hC hb hC.size⟩)) ?_;refine zJP (v:=.bool (!b1||b2)) rfl (fun w' hC=>q_or rfl (fun _=>hrc _) rfl rfl) ?_;intro wx hwx;have hbf:=zAa aI hwx aI.size;clear hrc hrf r KP;simp only [zQZ,frm,Act.put,List.setIfInBounds_toArray,List.set_cons_succ,List.set_cons_zero];clear oU io hkf HT hwx
    cases hgo:(!b1||b2) with
    | true =>
     have hr:=qH (zLc (re:=re) (lo:=lo) (i:=i) (by rw [HL.out];exact hlt) (by rw [HG.out];revert hgo;cases b1<;>cases b2<;>simp));clear HG gY nA HS hgo;go_wp2_with fail
     go_ret;exact ⟨zBU (by rw [hr.out]),zAa ah hbf ah.size⟩
    | false =>
     have cn:=qH (show ∀j:Nat,j < i+1→zCV L j=true from fun j hj=>by
      rcases Nat.decEq j i with e | e
      ·exact HS.out j (by omega)
      ·subst e;rw [HG.out];revert hgo;cases b1<;>cases b2<;>simp)
     clear HG gY nA HS hgo;go_wp2_with fail
     go_roundw
     case rel=>exact ⟨i+1,by omega,by go_num,hbf,cn⟩
     case measure=>simp [intOf];omega
   ·have hr:=qH (show frB L re lo=true from zCB.2 ⟨gw.out.1,gw.out.2.1,gw.out.2.2.1,gw.out.2.2.2.1,gw.out.2.2.2.2,fun j hj=>HS.out j (by rw [HL.out] at hj;omega)⟩);have j1:¬(i:Int) < (n:Int):=by omega
    clear HS;go_wp2_with fail
    go_ret;exact ⟨zBU (by rw [hr.out]),hbw⟩
 ·have hr:=qH (zSP hok);go_enter Tryz.func88,Tryz.ntmps88;go_wp2_with fail
  all_goals first
   | (exfalso;omega)
   | (go_ret;exact ⟨zBU (by rw [hr.out]),ah⟩)
end Go.Proofs.YtlmdfmnbcndhoaaGreatDoor
