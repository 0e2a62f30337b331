/-
  Lemmas, part 4. Conditions: each theorem's own.
-/
import Derived.Test.YtlmdfmnbcndhoaaGreatDoorRc01
import Derived.Test.YtlmdfmnbcndhoaaGreatDoorRc03
import Derived.Laws.Cover2
import Derived.StillTailTactics
import Derived.Deep.Quiet
open Option renaming none→U,some→Z
open Go.Value renaming bool→G,int→D,slice→H,string→W
open Go.IntKind renaming i64→J
open Bool renaming false→E,true→Q
namespace Go.Proofs.YtlmdfmnbcndhoaaGreatDoor
open Go.RowKit
def Els {α:Type} (sz:Nat) (enc:α→List Value) (w:World) (A:Option Addr) (n:Nat) (L:List α):Prop :=
 L.length=n∧n≤17592186043904∧(0 < n→∃g o,A=Z ⟨g,o,U⟩∧g < w.heap.size∧∀j x,L[j]? = Z x→∀q v,(enc x)[q]? = Z v→w.cell? ⟨g,o+j*sz+q,U⟩=Z v)
section
variable {α:Type} {sz:Nat} {enc:α→List Value} {w w':World} {A:Option Addr} {n:Nat} {L:List α}
theorem Els.len (h:Els sz enc w A n L):L.length=n:=h.1
theorem Els.le (h:Els sz enc w A n L):n≤17592186043904:=h.2.1
theorem Els.nil (w:World) (A:Option Addr):Els sz enc w A 0 ([]:List α):=⟨rfl,by omega,fun h=>absurd h (by omega)⟩
theorem Els.keep (h:Els sz enc w A n L) (hs:w.heap.size≤w'.heap.size) (hk:∀p:Addr,p.block < w.heap.size→w'.cell? p=w.cell? p):Els sz enc w' A n L :=
 ⟨h.1,h.2.1,fun hn=>by
  obtain ⟨g,o,e,hb,hc⟩:=h.2.2 hn
  exact ⟨g,o,e,by omega,fun j x hx q v hv=>(hk _ hb).trans (hc j x hx q v hv)⟩⟩
theorem Els.below (h:Els sz enc w A n L) (hb:Below w.heap.size w w'):Els sz enc w' A n L:=h.keep hb.size fun _ hp=>hb.cell hp
theorem Els.alloc (h:Els sz enc w A n L) (o:Obj):Els sz enc (w.alloc o) A n L:=h.below ((Below.refl _ _).alloc (Nat.le_refl _) o)
theorem Els.take (h:Els sz enc w A n L) {i:Nat} (hi:i≤n):Els sz enc w A i (L.take i):=by
 refine ⟨by rw [List.length_take,h.1];omega,Nat.le_trans hi h.2.1,fun h0=>?_⟩;obtain ⟨g,o,e,hb,hc⟩:=h.2.2 (by omega);refine ⟨g,o,e,hb,fun j x hx=>hc j x ?_⟩;rw [List.getElem?_take] at hx;split at hx
 ·exact hx
 ·cases hx
end
theorem zDL {a b:Bool} (h:a=b):Ending.returned (G a)=.returned (G b):=by rw [h]
theorem zGC {a b:Int} (h:a=b):Ending.returned (D J a)=.returned (D J b):=by rw [h]
theorem zGD {a b:ByteArray} (h:a=b):Ending.returned (W a)=.returned (W b):=by rw [h]
def zXe (x:Fg):List Value:=[D J x.p,G x.r,D J x.d]
abbrev fgV (x:Fg):Value:=.agg #[D J x.p,G x.r,D J x.d]
structure FgOk (x:Fg):Prop where
 p:I64 x.p
 d:I64 x.d
structure FgAt (w:World) (g o:Nat) (x:Fg):Prop where
 p:w.cell? ⟨g,o,U⟩=Z (D J x.p)
 r:w.cell? ⟨g,o+1,U⟩=Z (G x.r)
 d:w.cell? ⟨g,o+2,U⟩=Z (D J x.d)
def Fgs (w:World) (A:Option Addr) (n:Nat) (L:List Fg):Prop:=Els 3 zXe w A n L∧∀x∈L,FgOk x
section
variable {w w':World} {A:Option Addr} {n:Nat} {L:List Fg}
theorem Fgs.len (h:Fgs w A n L):L.length=n:=h.1.1
theorem Fgs.le (h:Fgs w A n L):n≤17592186043904:=h.1.2.1
theorem Fgs.below (h:Fgs w A n L) (hb:Below w.heap.size w w'):Fgs w' A n L:=⟨h.1.below hb,h.2⟩
theorem Fgs.alloc (h:Fgs w A n L) (o:Obj):Fgs (w.alloc o) A n L:=⟨h.1.alloc o,h.2⟩
theorem Fgs.take (h:Fgs w A n L) {i:Nat} (hi:i≤n):Fgs w A i (L.take i):=⟨h.1.take hi,fun x hx=>h.2 x (List.mem_of_mem_take hx)⟩
theorem Fgs.at_ {k:Nat} (h:Fgs w A n L) (hk:k < n):∃g o,A=Z ⟨g,o,U⟩∧g < w.heap.size∧FgAt w g (o+k*3) (fa L k)∧FgOk (fa L k):=by
 obtain ⟨g,o,e,hb,hc⟩:=h.1.2.2 (by omega);have hx:L[k]? = Z (fa L k):=zKa (by rw [h.len];exact hk);exact ⟨g,o,e,hb,⟨hc k _ hx 0 _ rfl,hc k _ hx 1 _ rfl,hc k _ hx 2 _ rfl⟩,h.2 _ (List.mem_of_getElem? hx)⟩
end
set_option maxRecDepth 100000 in
theorem eqFg (x y:Fg) (w:World):(Op.equalIn 10000 90 (fgV x) (fgV y)).run Tryz.prog w=.ok (fgB x y) w:=by
 have u3:=Tryz.underlying3;have a3:=Tryz.isAgg3;have z3:=Tryz.sizeOf3;have u4:=Tryz.underlying4;have a4:=Tryz.isAgg4;have z4:=Tryz.sizeOf4;have hS:Tryz.prog.underlying 90=Z (.struct (Tryz.prog.fieldsOf 90)):=by kernel_rfl
 have hp:Tryz.prog.stoodInHeld 90=E:=by kernel_rfl
 rw [show (10000:Nat)=9999+1 from rfl,run_equalIn_agg w 9999 90 _ _ hS hp];simp only [Program.fieldsOf,Tryz.underlying90];go_simp
 unfold fgB;by_cases h1:x.p=y.p<;>by_cases h2:x.r=y.r<;>by_cases h3:x.d=y.d<;>simp [h1,h2,h3]
theorem zNx (x:Fg) (w:World) :
  Calls Tryz.prog 138 #[fgV x] w fun e w'=>e=.returned (G (zAo x))∧Below w.heap.size w w':=by
 have aa:Below w.heap.size w (w.alloc (.cells #[D J x.p,G x.r,D J x.d] 90)):=(Below.refl _ _).alloc (Nat.le_refl _) _;have HB:=qH aa;have hb:=qH (show zAo x=(decide (1≤x.p)&&decide (x.p≤9)&&decide (0≤x.d)&&decide (x.d≤6)) from rfl);clear aa;go_enter Tryz.func138,Tryz.ntmps138;go_wp2_with fail
 all_goals
  go_ret;refine ⟨zDL ?_,HB.out⟩;rw [hb.out];simp
  try omega
set_option maxHeartbeats 1600000 in
theorem zFc (A:Option Addr) (n c:Nat) (L:List Fg) (f:Fg) (w:World) (hA:Fgs w A n L) :
  Calls Tryz.prog 173 #[H A n c,fgV f] w fun e w'=>e=.returned (D J ((zAM L f:Int)-1))∧Below w.heap.size w w':=by
 have hle:=hA.le;have HL:=qH hA.len;have aa:Below w.heap.size w (w.alloc (.cells #[D J f.p,G f.r,D J f.d] 90)):=(Below.refl _ _).alloc (Nat.le_refl _) _;have hk0:Blk (w.alloc (.cells #[D J f.p,G f.r,D J f.d] 90)) w.heap.size 90 #[D J f.p,G f.r,D J f.d]:=Blk.new _ _ _;go_enter Tryz.func173,Tryz.ntmps173;go_wp2_with fail
 generalize w.alloc (.cells #[D J f.p,G f.r,D J f.d] 90)=ZR at aa hk0 ⊢;go_loopw [8] (fun v8 wr=>∃i:Nat,i≤n∧v8=D J i∧Below ZR.heap.size ZR wr∧Hid (∀j:Nat,j < i→L[j]?≠Z f)) (fun v8 _=>n-(intOf v8).toNat)
 case atStart=>exact ⟨0,Nat.zero_le _,rfl,Below.refl _ _,qH (fun j hj=>by omega)⟩
 case round =>
  obtain ⟨i,hi,rfl,hbr,HS⟩:=hrel;have hkr:=hk0.below hbr hk0.lt;obtain ⟨e0,e1,e2⟩:=cQ3 hkr;have hbw:=zAa aa hbr aa.size;by_cases hlt:i < n
  ·obtain ⟨g,o,rfl,hg,⟨x0,x1,x2⟩,_⟩:=(hA.below hbw).at_ hlt;have i0:(0:Int)≤(i:Int):=by omega
   have i1:(i:Int) < (n:Int):=by omega
   have heq:=fun w=>eqFg f (fa L i) w
   have hget:=zKa (L:=L) (i:=i) (by rw [HL.out];exact hlt)
   cases hq:fgB f (fa L i) with
   | true =>
    have hr:=qH (show zAM L f=i+1 from zHd (by rw [hget,←zLk.1 hq]) HS.out);clear HS hget;go_wp2_with fail
    go_quiet (fail)
    go_wp2_with fail
    go_ret;exact ⟨zGC (by rw [hr.out];omega),zAe hbw _⟩
   | false =>
    have et:=qH (show ∀j:Nat,j < i+1→L[j]?≠Z f from fun j hj=>by
     rcases Nat.decEq j i with e | e
     ·exact HS.out j (by omega)
     ·subst e
      rw [hget]
      intro e2
      injection e2 with e2
      rw [e2,zMp] at hq
      cases hq)
    clear HS hget;go_wp2_with fail
    go_quiet (fail)
    go_wp2_with fail
    go_roundw
    case rel=>exact ⟨i+1,by omega,by go_num,zAe hbr _,et⟩
    case measure=>simp [intOf];omega
  ·have hr:=qH (show zAM L f=0 from zEY fun j e=>by
    have hj:=(List.getElem?_eq_some_iff.1 e).1
    rw [HL.out] at hj
    exact HS.out j (by omega) e)
   have i1:¬(i:Int) < (n:Int):=by omega
   clear HS;go_wp2_with fail
   go_ret;exact ⟨zGC (by rw [hr.out];rfl),hbw⟩
theorem zGE (A:Option Addr) (n c:Nat) (L:List Fg) (f:Fg) (w:World) (hA:Fgs w A n L) :
  Calls Tryz.prog 139 #[H A n c,fgV f] w fun e w'=>e=.returned (G (decide (0 < zAM L f)))∧Below w.heap.size w w':=by
 have aa:Below w.heap.size w (w.alloc (.cells #[D J f.p,G f.r,D J f.d] 90)):=(Below.refl _ _).alloc (Nat.le_refl _) _;have hA0:=hA.alloc (.cells #[D J f.p,G f.r,D J f.d] 90);have HC:=qH (zFc A n c L f _ hA0);go_enter Tryz.func139,Tryz.ntmps139;go_wp2_with fail
 refine HC.out.mono ?_;rintro e w2 ⟨rfl,ab⟩;have ac:=zAa aa ab aa.size;go_wp2_with fail
 go_ret;exact ⟨zDL (by simp only [decide_eq_decide];omega),ac⟩
theorem zNy (A:Option Addr) (n c:Nat) (L:List Fg) (re lo:Int) (f:Fg) (w:World) (hA:Fgs w A n L) :
  Calls Tryz.prog 167 #[.agg #[H A n c,D J re,D J lo],fgV f] w fun e w'=>e=.returned (D J (zAM L f:Int))∧Below w.heap.size w w':=by
 have aa:Below w.heap.size w ((w.alloc (.cells #[H A n c,D J re,D J lo] 24)).alloc (.cells #[D J f.p,G f.r,D J f.d] 90)):=((Below.refl _ _).alloc (Nat.le_refl _) _).alloc (by simp) _;have hA0:=hA.below aa;have hix:zAM L f≤n:=by rw [←hA.len];exact zDo
 have hle:=hA.le;have HC:=qH (zFc A n c L f _ hA0);have i0:wrap64 ((zAM L f:Int)-1+1)=(zAM L f:Int):=by unfold wrap64;omega
 go_enter Tryz.func167,Tryz.ntmps167;go_wp2_with fail
 refine HC.out.mono ?_;rintro e w2 ⟨rfl,ab⟩;have ac:=zAa aa ab aa.size;go_wp2_with fail
 go_ret;exact ⟨zGC (by omega),ac⟩
def frm (a:Act):List (Nat×Value)→Act
 | []=>a
 | p :: e=>(frm a e).put (Z p.1) p.2
def look (r:Operand→Value) (e:List (Nat×Value)):Operand→Value
 | .tmp i=>(e.lookup i).getD (r (.tmp i))
 | x=>r x
def zGr (n:Nat) (e:List (Nat×Value)):Prop:=∀p∈e,p.1 < n
theorem zMt (a:Act):∀e:List (Nat×Value),(frm a e).tmps.size=a.tmps.size
 | []=>rfl
 | p :: e=>by
  show ((frm a e).tmps.setIfInBounds p.1 p.2).size=_;rw [Array.size_setIfInBounds,zMt a e]
theorem zIV {a:Act}:∀{e:List (Nat×Value)},zGr a.tmps.size e→(frm a e).eval=look a.eval e
 | [],_=>by funext x;cases x<;>rfl
 | p :: e,h=>by
  have ih:=zIV (a:=a) (e:=e) (fun q hq=>h q (List.mem_cons_of_mem _ hq));have hp:p.1 < (frm a e).tmps.size:=by rw [zMt];exact h p (List.mem_cons_self ..)
  funext x
  cases x with
  | tmp i =>
   have ihi:=congrFun ih (.tmp i);show ((frm a e).tmps.setIfInBounds p.1 p.2).getD i undef=((p :: e).lookup i).getD _
   change (frm a e).tmps.getD i undef=(e.lookup i).getD _ at ihi
   obtain ⟨d,v⟩:=p;by_cases hd:i=d
   ·subst hd;rw [List.lookup_cons_self];simp only [Array.getD_eq_getD_getElem?,Option.getD_some];rw [Array.getElem?_setIfInBounds_self_of_lt (by exact hp)];rfl
   ·rw [List.lookup_cons,show (i==d)=E by simpa using hd];simp only [Array.getD_eq_getD_getElem?] at ihi ⊢;rw [Array.getElem?_setIfInBounds_ne (fun h=>hd h.symm)];exact ihi
  | const v=>exact congrFun ih (.const v)
  | global g=>exact congrFun ih (.global g)
  | func f=>exact congrFun ih (.func f)
def zFd:Value→Option Bool
 | G b=>Z b
 | _=>U
def zIf (ops:Array Oper) (r:Operand→Value) (e:List (Nat×Value)) (o:Oper):Bool :=
 Region.wanted o fun j=>match (ops[j]?).bind (·.dst) with
  | some d=>zFd (look r e (.tmp d))
  | none=>U
def zRp (o:Oper) (v:Value) (e:List (Nat×Value)):List (Nat×Value):=match o.dst with
 | some d=>(d,v) :: e
 | none=>e
def wk (P:Program) (ops:Array Oper) (C:World→Prop) (ZS:List (Nat×Value)→Prop) (r:Operand→Value):List Oper→List (Nat×Value)→Prop
 | [],e=>ZS e
 | o :: l,e=>∃(b:Bool) (v:Value),zIf ops r e o=b∧(b=Q→∀w,C w→Oper.quietUpon P C w v ((execOp (look r e) o).run P w))∧wk P ops C ZS r l (zRp o (cond b v undef) e)
theorem zKh {ops:Array Oper} {a:Act} {e:List (Nat×Value)} (h:zGr a.tmps.size e) (j:Nat):yielded ops (frm a e).tmps j=(match (ops[j]?).bind (·.dst) with
  | some d=>zFd (look a.eval e (.tmp d))
  | none=>U):=by
 unfold yielded
 cases hd:(ops[j]?).bind (·.dst) with
 | none=>rfl
 | some d =>
  have:=congrFun (zIV h) (.tmp d)
  change (frm a e).tmps.getD d undef=_ at this
  show (match (frm a e).tmps[d]? with | some (G b)=>Z b | _=>U)=zFd (look a.eval e (.tmp d));rw [←this];simp only [Array.getD_eq_getD_getElem?]
  cases (frm a e).tmps[d]? with
  | none=>rfl
  | some v=>cases v<;>rfl
section
variable {P:Program} {ops:Array Oper} {C:World→Prop} {ZS:List (Nat×Value)→Prop} {a:Act}
theorem zLp {n:Nat} {o:Oper} {v:Value} {e:List (Nat×Value)} (h:zGr n e) (ho:∀d,o.dst=Z d→d < n):zGr n (zRp o v e):=by
 unfold zRp
 cases hd:o.dst with
 | none=>exact h
 | some d =>
  intro p hp;rcases List.mem_cons.1 hp with rfl | hp
  ·exact ho d hd
  ·exact h p hp
theorem zIW {R:Act→Prop} (hQ:∀e,zGr a.tmps.size e→ZS e→R (frm a e)):∀(l:List Oper) (e:List (Nat×Value)),zGr a.tmps.size e→(∀o∈l,∀d,o.dst=Z d→d < a.tmps.size) →
  wk P ops C ZS a.eval l e→wpQuiet P ops C R l (frm a e)
 | [],e,he,_,h=>hQ e he h
 | o :: l,e,he,hl,⟨b,v,hw,hq,hk⟩=>by
  have hout:(frm a e).put o.dst (cond b v undef)=frm a (zRp o (cond b v undef) e):=by
   unfold zRp
   cases o.dst<;>rfl
  have ih:=zIW hQ l (zRp o (cond b v undef) e) (zLp he (hl o (List.mem_cons_self ..))) (fun o' ho'=>hl o' (List.mem_cons_of_mem _ ho')) hk;have hwant:Region.wanted o (yielded ops (frm a e).tmps)=b:=by
   rw [←hw];unfold zIf;exact congrArg (Region.wanted o) (funext fun j=>zKh he j)
  unfold wpQuiet;rw [hwant];rw [←hout] at ih
  cases b with
  | true =>
   rw [if_pos rfl];refine ⟨v,fun w hC=>?_,ih⟩;unfold Oper.quietAt;rw [zIV he];exact hq rfl w hC
  | false =>
   rw [if_neg (by simp)];exact ih
def zTZ (l:List Oper) (n:Nat):Bool:=l.all fun o=>match o.dst with
 | some d=>decide (d < n)
 | none=>Q
theorem zIv {l:List Oper} {n:Nat} (h:zTZ l n=Q):∀o∈l,∀d,o.dst=Z d→d < n:=by
 intro o ho d hd;have:=List.all_eq_true.1 h o ho;rw [hd] at this;simpa using this
theorem zFe {id:Nat} {Q':Exit→Act→World→Prop} {w:World} {l:List Oper} (n:Nat) (e:List (Nat×Value)) (hm:P.follows .mixedOrders=Q) (hB:Region.lexB .any l.toArray=Q)
  (hn:a.tmps.size=n) (hd:zTZ l n=Q) (he:zGr n e) (hf:frm a e=a) (hC:C { w with drawn:=w.drawn+1 })
  (h:∀r:Operand→Value,(∀v,r (.const v)=v)→(∀k,r (.func k)=.func (.func k) #[] #[])→wk P l.toArray C (fun e'=>∀w',C w'→Q' .normal (frm a e') w') r l e):(Code.region id l.toArray Q).wp P Q' a w:=by
 refine wp_region_quiet hm hB hC ?_;subst hn;have:=zIW (R:=fun a'=>∀w',C w'→Q' .normal a' w') (fun e _ h=>h) l e he (zIv hd) (h a.eval (fun _=>rfl) (fun _=>rfl));rw [hf] at this;simpa using this
theorem zHi {Q':Exit→Act→World→Prop}:∀(l:List Oper) (k:Nat) (a:Act) (w:World),(∀j,l[j]? = ops[k+j]?)→C w→wpQuiet P ops C (fun a'=>∀w',C w'→Q' .normal a' w') l a→wpOps P ops Q' (List.range' k l.length) a w
 | [],_,_,w,_,hC,h=>h w hC
 | o :: l,k,a,w,hl,hC,h=>by
  have h0:ops[k]? = Z o:=by simpa using (hl 0).symm
  have hq:qOp P ops C k (wpQuiet P ops C (fun a'=>∀w',C w'→Q' .normal a' w') l) a:=by unfold qOp;simp only [h0];exact h
  rw [List.length_cons,List.range'_succ,wpOps_cons];exact wpOp_of_qOp hC (fun a' w' AV h'=>zHi l (k+1) a' w' (fun j=>by have:=hl (j+1);simpa [Nat.add_assoc,Nat.add_comm 1 j] using this) AV h') hq
theorem zFQ {id:Nat} {Q':Exit→Act→World→Prop} {w:World} {l:List Oper} (n:Nat) (e:List (Nat×Value))
  (hn:a.tmps.size=n) (hd:zTZ l n=Q) (he:zGr n e) (hf:frm a e=a) (hC:C w)
  (h:∀r:Operand→Value,(∀v,r (.const v)=v)→(∀k,r (.func k)=.func (.func k) #[] #[])→wk P l.toArray C (fun e'=>∀w',C w'→Q' .normal (frm a e') w') r l e):(Code.region id l.toArray E).wp P Q' a w:=by
 subst hn;have:=zIW (R:=fun a'=>∀w',C w'→Q' .normal a' w') (fun e _ h=>h) l e he (zIv hd) (h a.eval (fun _=>rfl) (fun _=>rfl));rw [hf] at this;have h2:=zHi (ops:=l.toArray) (Q':=Q') l 0 a w (fun j=>by simp) hC this;refine wp_region ?_;rw [List.range_eq_range'];simpa using h2
theorem zAO {d:Nat} {v:Value} {e:List (Nat×Value)} (hf:frm a e=a) (hd:d < a.tmps.size) (hv:a.tmps.getD d undef=v):frm a ((d,v) :: e)=a:=by
 show (frm a e).put (Z d) v=a;rw [hf]
 cases a with
 | mk T ZZ =>
  show Act.mk (T.setIfInBounds d v) ZZ=_
  congr 1
  apply Array.ext_getElem?;intro i;rw [Array.getElem?_setIfInBounds];by_cases e:d=i
  ·subst e;rw [if_pos rfl]
   change d < T.size at hd
   rw [if_pos hd,←hv];simp [hd]
  ·rw [if_neg e]
variable {r:Operand→Value} {o:Oper} {l:List Oper} {e:List (Nat×Value)} {v:Value} {b g c:Bool} {j d:Nat}
theorem zAj (hg:o.guard=U) (hq:∀w,C w→Oper.quietUpon P C w v ((execOp (look r e) o).run P w)) (hk:wk P ops C ZS r l (zRp o v e)):wk P ops C ZS r (o :: l) e :=
 ⟨Q,v,by unfold zIf Region.wanted;rw [hg],fun _=>hq,hk⟩
theorem zAd (hw:zIf ops r e o=b) (hq:b=Q→∀w,C w→Oper.quietUpon P C w v ((execOp (look r e) o).run P w)) (hk:wk P ops C ZS r l (zRp o (cond b v undef) e)):wk P ops C ZS r (o :: l) e:=⟨b,v,hw,hq,hk⟩
theorem zAz (hg:o.guard=Z (j,Q)) (hd:(ops[j]?).bind (·.dst)=Z d) (hl:look r e (.tmp d)=G b):zIf ops r e o=b:=by
 unfold zIf Region.wanted;rw [hg];show ((match (ops[j]?).bind (·.dst) with | some d=>zFd (look r e (.tmp d)) | none=>U)==Z Q)=b;rw [hd];show (zFd (look r e (.tmp d))==Z Q)=b;rw [hl]
 cases b<;>rfl
theorem zAk (hg:o.guard=Z (j,E)) (hd:(ops[j]?).bind (·.dst)=Z d) (hl:look r e (.tmp d)=G b):zIf ops r e o = !b:=by
 unfold zIf Region.wanted;rw [hg];show ((match (ops[j]?).bind (·.dst) with | some d=>zFd (look r e (.tmp d)) | none=>U)==Z E) = !b;rw [hd];show (zFd (look r e (.tmp d))==Z E) = !b;rw [hl]
 cases b<;>rfl
theorem zLq (hg:o.guard=Z (j,Q)) (hd:(ops[j]?).bind (·.dst)=Z d) (hl:look r e (.tmp d)=cond g (G c) undef):zIf ops r e o=(g&&c):=by
 unfold zIf Region.wanted;rw [hg];show ((match (ops[j]?).bind (·.dst) with | some d=>zFd (look r e (.tmp d)) | none=>U)==Z Q)=(g&&c);rw [hd];show (zFd (look r e (.tmp d))==Z Q)=(g&&c);rw [hl]
 cases g<;>cases c<;>rfl
end
def upd (e:List (Nat×Value)):Nat→List Value→List Value
 | _,[]=>[]
 | i,v :: l=>(e.lookup i).getD v :: upd e (i+1) l
theorem zON:∀(l:List Value) (i:Nat),upd [] i l=l
 | [],_=>rfl
 | v :: l,i=>congrArg (v :: ·) (zON l (i+1))
theorem zOO (e:List (Nat×Value)) (v:Value):∀(l:List Value) (i q:Nat),q < i→upd ((q,v) :: e) i l=upd e i l
 | [],_,_,_=>rfl
 | x :: l,i,q,h=>by
  unfold upd;rw [zOO e v l (i+1) q (by omega),List.lookup_cons,show (i==q)=E by simp;omega]
theorem zOP (e:List (Nat×Value)) (v:Value):∀(l:List Value) (i k:Nat),(upd e i l).set k v=upd ((i+k,v) :: e) i l
 | [],_,_=>rfl
 | x :: l,i,0=>by
  show v :: upd e (i+1) l=upd ((i,v) :: e) i (x :: l)
  conv=>rhs;unfold upd
  rw [List.lookup_cons_self,zOO e v l (i+1) i (by omega)];rfl
 | x :: l,i,k+1=>by
  show (e.lookup i).getD x :: (upd e (i+1) l).set k v=upd ((i+(k+1),v) :: e) i (x :: l);rw [zOP e v l (i+1) k]
  conv=>rhs;unfold upd
  rw [List.lookup_cons,show (i==i+(k+1))=E by simp,show i+1+k=i+(k+1) by omega]
theorem zFR (l:List Value) (d:List Deferred):∀e:List (Nat×Value),frm ⟨l.toArray,d⟩ e=⟨(upd e 0 l).toArray,d⟩
 | []=>by rw [zON];rfl
 | (k,v) :: e=>by
  show (frm ⟨l.toArray,d⟩ e).put (Z k) v=_;rw [zFR l d e];show Act.mk ((upd e 0 l).toArray.setIfInBounds k v) d=_;rw [List.setIfInBounds_toArray,zOP,Nat.zero_add]
section
variable {P:Program} {C:World→Prop} {ρ:Operand→Value} {o:Oper} {w:World} {x y:Operand} {v p q:Value} {s f:Nat} {B c:Bool}
theorem zAV (ho:o.op=.move x) (hx:ρ x=v):Oper.quietUpon P C w v ((execOp ρ o).run P w):=by
 unfold execOp;rw [ho];exact ⟨rfl,hx⟩
theorem zKi (ho:o.op=.pick x (.const (G Q)) y) (hk:∀v,ρ (.const v)=v) (hx:ρ x=G B) (hy:ρ y=cond (!B) (G c) undef):Oper.quietUpon P C w (G (B||c)) ((execOp ρ o).run P w):=by
 unfold execOp;rw [ho];simp only [hx,hy,hk]
 cases B<;>exact ⟨rfl,rfl⟩
theorem zIX (ho:o.op=.pick x y (.const (G E))) (hk:∀v,ρ (.const v)=v) (hx:ρ x=G B) (hy:ρ y=cond B (G c) undef):Oper.quietUpon P C w (G (B&&c)) ((execOp ρ o).run P w):=by
 unfold execOp;rw [ho];simp only [hx,hy,hk]
 cases B<;>exact ⟨rfl,rfl⟩
theorem cnd {g:Bool} {u:Value} (h:g=Q):cond g v u=v:=by rw [h];rfl
theorem zLr {m:Sem Value} (hm:execOp ρ o=(do pure (.value (←m)))) (hr:m.run P w=.ok q w):Oper.quietUpon P C w q ((execOp ρ o).run P w):=by
 rw [hm,Sem.run_bind,hr];exact ⟨rfl,rfl⟩
theorem zCY (ho:o.op=.fieldAddr s x f) (hx:ρ x=p) (hr:(Instr.fieldAt s p f).run P w=.ok q w):Oper.quietUpon P C w q ((execOp ρ o).run P w) :=
 zLr (m:=Instr.fieldAt s p f) (by unfold execOp;rw [ho,←hx]) hr
theorem zCz (ho:o.op=.load s x) (hx:ρ x=p) (hr:(Instr.loadAt s p).run P w=.ok q w):Oper.quietUpon P C w q ((execOp ρ o).run P w) :=
 zLr (m:=Instr.loadAt s p) (by unfold execOp;rw [ho,←hx]) hr
theorem zBO {bo:BinOp} {t t':TypeId} {X Y:Value} (ho:o.op=.binOp bo t x y t') (hx:ρ x=X) (hy:ρ y=Y) (hr:(do eqGuard bo t x y X Y;binOp bo t X Y).run P w=.ok q w):Oper.quietUpon P C w q ((execOp ρ o).run P w) :=
 zLr (m:=do eqGuard bo t x y X Y;binOp bo t X Y) (by unfold execOp;rw [ho,←hx,←hy]) hr
theorem zXs {v:Value} (hx:ρ x=v):#[x].map ρ=#[v]:=by simp [hx]
theorem zXt {v u:Value} (hx:ρ x=v) (hy:ρ y=u):#[x,y].map ρ=#[v,u]:=by simp [hx,hy]
theorem zIw {k:FuncId} {xs:Array Operand} {ts:Array TypeId} {vs:Array Value} (ho:o.op=.call { callee:=.value (.func k),args:=xs,argTypes:=ts }) (hk:ρ (.func k)=.func (.func k) #[] #[]) (hx:xs.map ρ=vs)
  (hr:(callFunc k vs).run P w=.ok (.enter k vs) w) (hc:Calls P k vs w fun e w''=>e=.returned v∧C w''):Oper.quietUpon P C w v ((execOp ρ o).run P w):=by
 have:(execOp ρ o).run P w=.ok (.enter k vs) w:=by
  unfold execOp;rw [ho];simp only [resolve,hk,hx];go_simp
 rw [this];exact ⟨rfl,hc⟩
end
theorem zRC {x:Fg} {b:Bool} (h:zAo x=b) (w:World):Calls Tryz.prog 138 #[fgV x] w fun e w'=>e=.returned (G b)∧Below w.heap.size w w':=by
 subst h;exact zNx x w
theorem zLs {A:Option Addr} {n c:Nat} {L:List Fg} {f:Fg} {b:Bool} (h:decide (0 < zAM L f)=b) (w:World) (hA:Fgs w A n L) :
  Calls Tryz.prog 139 #[H A n c,fgV f] w fun e w'=>e=.returned (G b)∧Below w.heap.size w w':=by
 subst h;exact zGE A n c L f w hA
section
variable {P:Program} {C:World→Prop} {ρ:Operand→Value} {o:Oper} {w:World} {x y:Operand} {q:Value}
theorem zXu {u:UnOp} {t:TypeId} {X:Value} (ho:o.op=.unOp u t x) (hx:ρ x=X) (hr:(Op.unary u X).run P w=.ok q w):Oper.quietUpon P C w q ((execOp ρ o).run P w) :=
 zLr (m:=Op.unary u X) (by unfold execOp;rw [ho,←hx]) hr
theorem zXv {t:TypeId} {X I:Value} (ho:o.op=.slice t x U (Z y) U) (hx:ρ x=X) (hy:ρ y=I) (hr:(Instr.sliceAt t X U (Z I) U).run P w=.ok q w):Oper.quietUpon P C w q ((execOp ρ o).run P w) :=
 zLr (m:=Instr.sliceAt t X U (Z I) U) (by unfold execOp;rw [ho,←hx,←hy];first | rfl | simp) hr
end
theorem zUa (b:Bool) (w:World):(Op.unary .not (G b)).run Tryz.prog w=.ok (G (!b)) w:=by go_simp
theorem zVQ (b:Nat) (w:World):(Instr.fieldAt 24 (.pointer (Z ⟨b,0,U⟩)) 0).run Tryz.prog w=.ok (.pointer (Z ⟨b,0,U⟩)) w:=by go_simp
theorem zVR {p:Addr} {A:Option Addr} {n c:Nat} {w:World} (h:w.cell? p=Z (H A n c)):(Instr.loadAt 22 (.pointer (Z p))).run Tryz.prog w=.ok (H A n c) w:=by go_simp
theorem zVS {b:Nat} {p d:Int} {r:Bool} {w:World} (h0:w.cell? ⟨b,0,U⟩=Z (D J p)) (h1:w.cell? ⟨b,1,U⟩=Z (G r)) (h2:w.cell? ⟨b,2,U⟩=Z (D J d)):(Instr.loadAt 90 (.pointer (Z ⟨b,0,U⟩))).run Tryz.prog w=.ok (.agg #[D J p,G r,D J d]) w:=by go_simp
theorem zVT {g o n c i:Nat} (h0:(0:Int)≤(i:Int)) (h1:(i:Int)≤(c:Int)) (w:World):(Instr.sliceAt 22 (H (Z ⟨g,o,U⟩) n c) U (Z (D J (i:Int))) U).run Tryz.prog w=.ok (H (Z ⟨g,o,U⟩) i c) w:=by
 go_simp
theorem zRD (vs:Array Value) (w:World):(callFunc 138 vs).run Tryz.prog w=.ok (.enter 138 vs) w:=by go_simp
theorem zLt (vs:Array Value) (w:World):(callFunc 139 vs).run Tryz.prog w=.ok (.enter 139 vs) w:=by go_simp
theorem zTo {L:List Fg} {re lo:Int} (h:¬(L.length≤40∧0≤re∧re≤40∧1≤lo∧lo≤20)):frB L re lo=E:=by
 cases e:frB L re lo with
 | false=>rfl
 | true=>obtain ⟨h1,h2,h3,h4,h5,_⟩:=zCT.1 e;exact absurd ⟨h1,h2,h3,h4,h5⟩ h
theorem zLu {L:List Fg} {re lo:Int} {i:Nat} (hi:i < L.length) (h:zEZ L i=E):frB L re lo=E:=by
 cases e:frB L re lo with
 | false=>rfl
 | true=>have:=(zCT.1 e).2.2.2.2.2 i hi;rw [h] at this;cases this
set_option maxRecDepth 100000 in
set_option maxHeartbeats 3200000 in
theorem zNz (A:Option Addr) (n c:Nat) (L:List Fg) (re lo:Int) (w:World) (hA:Fgs w A n L) (hc:n≤c) :
  Calls Tryz.prog 88 #[.agg #[H A n c,D J re,D J lo]] w fun e w'=>e=.returned (G (frB L re lo))∧Below w.heap.size w w':=by
 have hln:=hA.len;have aa:Below w.heap.size w (w.alloc (.cells #[H A n c,D J re,D J lo] 24)):=(Below.refl _ _).alloc (Nat.le_refl _) _;by_cases hok:L.length≤40∧0≤re∧re≤40∧1≤lo∧lo≤20
 ·have dP:=qH hok;have HL:=qH hln;have ma:n≤40:=by omega
  have i0:¬(40:Int) < (n:Int):=by omega
  have i1:¬re < 0:=by omega
  have i2:¬40 < re:=by omega
  have i3:¬lo < 1:=by omega
  have i4:¬20 < lo:=by omega
  have hk0:Blk (w.alloc (.cells #[H A n c,D J re,D J lo] 24)) w.heap.size 24 #[H A n c,D J re,D J lo]:=Blk.new _ _ _;clear hok hln;go_enter Tryz.func88,Tryz.ntmps88;go_wp2_with fail
  generalize w.alloc (.cells #[H A n c,D J re,D J lo] 24)=ZR at aa hk0 ⊢;go_loopw [32] (fun v wr=>∃i:Nat,i≤n∧v=D J i∧Below ZR.heap.size ZR wr∧Hid (∀j:Nat,j < i→zEZ L j=Q)) (fun v _=>n-(intOf v).toNat)
  case atStart=>exact ⟨0,Nat.zero_le _,rfl,Below.refl _ _,qH (fun j hj=>by omega)⟩
  case round =>
   obtain ⟨i,hi,rfl,hbr,HS⟩:=hrel;have hkr:=hk0.below hbr hk0.lt;have hbw:=zAa aa hbr aa.size;by_cases hlt:i < n
   ·obtain ⟨g,o,rfl,hg,⟨x0,x1,x2⟩,_⟩:=(hA.below hbw).at_ hlt;have j0:(0:Int)≤(i:Int):=by omega
    have j1:(i:Int) < (n:Int):=by omega
    have j2:(i:Int)≤(c:Int):=by omega
    have hgd:zEZ L i=(zAo (fa L i)&&!(decide (0 < zAM (L.take i) (fa L i)))):=by
     unfold zEZ
     congr 1
     rw [←decide_not];simp
    generalize hx:fa L i=x at x0 x1 x2 hgd;obtain ⟨b1,ah⟩:∃b,b=zAo x:=⟨_,rfl⟩
    obtain ⟨b2,ab⟩:∃b,b=decide (0 < zAM (L.take i) x):=⟨_,rfl⟩
    rw [←ah,←ab] at hgd;have HG:=qH hgd;have mG:=qH ah.symm;have lS:=qH ab.symm;have nN:=(hA.below hbw).alloc (.cells #[D J x.p,G x.r,D J x.d] 90);have fq:Blk (wr.alloc (.cells #[D J x.p,G x.r,D J x.d] 90)) wr.heap.size 90 #[D J x.p,G x.r,D J x.d]:=Blk.new _ _ _;have hkf:=hkr.alloc (.cells #[D J x.p,G x.r,D J x.d] 90);have aj:Below ZR.heap.size ZR (wr.alloc (.cells #[D J x.p,G x.r,D J x.d] 90)):=hbr.alloc hbr.size _;clear hgd ah ab hx;go_wp2_with fail
    clear hkr hbr hbw x0 x1 x2 hg;generalize wr.alloc (.cells #[D J x.p,G x.r,D J x.d] 90)=Y at nN fq hkf aj ⊢
    have KP:=fun wx (h:Below Y.heap.size Y wx)=>(show wx.cell? ⟨wr.heap.size,0,U⟩=Z (D J x.p)∧wx.cell? ⟨wr.heap.size,1,U⟩=Z (G x.r)∧wx.cell? ⟨wr.heap.size,2,U⟩=Z (D J x.d)∧wx.cell? ⟨w.heap.size,0,U⟩=Z (H (Z ⟨g,o,U⟩) n c) from
     ⟨((fq.below h fq.lt).cell 0).trans rfl,((fq.below h fq.lt).cell 1).trans rfl,((fq.below h fq.lt).cell 2).trans rfl,((hkf.below h hkf.lt).cell 0).trans rfl⟩)
    have HT:=qH (nN.take (i:=i) (by omega));refine zFe (C:=fun w'=>Below Y.heap.size Y w') 49 [(1,.pointer (Z ⟨w.heap.size,0,U⟩)),(4,.pointer (Z ⟨wr.heap.size,0,U⟩)),(3,D J (i:Int))] (by kernel_rfl) (by kernel_rfl) rfl (by kernel_rfl) (by intro q hq;simp at hq;rcases hq with rfl | rfl | rfl<;>simp) (zAO (zAO (zAO rfl (by simp) rfl) (by simp) rfl) (by simp) rfl) ((Below.refl _ _).drew) ?_;intro r hrc hrf;refine zAj (v:=fgV x) rfl (fun w' hC=>zCz (p:=.pointer (Z ⟨wr.heap.size,0,U⟩)) rfl rfl (zVS (KP _ hC).1 (KP _ hC).2.1 (KP _ hC).2.2.1)) ?_;refine zAj (v:=G b1) rfl (fun w' hC=>zIw (vs:=#[fgV x]) rfl (hrf _) (zXs rfl) (zRD _ _) ((zRC mG.out _).mono fun _ _ ⟨he,hb⟩=>⟨he,zAa hC hb hC.size⟩)) ?_;refine zAj (v:=G (!b1)) rfl (fun w' hC=>zXu (X:=G b1) rfl rfl (zUa _ _)) ?_;refine zAj (v:=G (!b1)) rfl (fun w' hC=>zAV rfl rfl) ?_;refine zAd (b:=!(!b1)) (v:=.pointer (Z ⟨w.heap.size,0,U⟩)) (zAk rfl rfl rfl) (fun h w' hC=>zCY (p:=.pointer (Z ⟨w.heap.size,0,U⟩)) rfl rfl (zVQ _ _)) ?_;refine zAd (b:=!(!b1)) (v:=H (Z ⟨g,o,U⟩) n c) (zAk rfl rfl rfl) (fun h w' hC=>zCz (p:=.pointer (Z ⟨w.heap.size,0,U⟩)) rfl (cnd h) (zVR (KP _ hC).2.2.2)) ?_;refine zAd (b:=!(!b1)) (v:=D J (i:Int)) (zAk rfl rfl rfl) (fun h w' hC=>zAV rfl rfl) ?_;refine zAd (b:=!(!b1)) (v:=H (Z ⟨g,o,U⟩) i c) (zAk rfl rfl rfl) (fun h w' hC=>zXv (X:=H (Z ⟨g,o,U⟩) n c) (I:=D J (i:Int)) rfl (cnd h) (cnd h) (zVT j0 j2 _)) ?_;refine zAd (b:=!(!b1)) (v:=fgV x) (zAk rfl rfl rfl) (fun h w' hC=>zCz (p:=.pointer (Z ⟨wr.heap.size,0,U⟩)) rfl rfl (zVS (KP _ hC).1 (KP _ hC).2.1 (KP _ hC).2.2.1)) ?_;refine zAd (b:=!(!b1)) (v:=G b2) (zAk rfl rfl rfl) (fun h w' hC=>zIw (vs:=#[H (Z ⟨g,o,U⟩) i c,fgV x]) rfl (hrf _) (zXt (cnd h) (cnd h)) (zLt _ _) ((zLs lS.out _ (HT.out.below hC)).mono fun _ _ ⟨he,hb⟩=>⟨he,zAa hC hb hC.size⟩)) ?_;refine zAj (v:=G (!b1||b2)) rfl (fun w' hC=>zKi rfl (fun _=>hrc _) rfl rfl) ?_;intro wx hwx;have hbf:=zAa aj hwx aj.size;clear hrc hrf r KP;simp only [zRp,frm,Act.put,List.setIfInBounds_toArray,List.set_cons_succ,List.set_cons_zero];clear nN fq hkf HT hwx
    cases hgo:(!b1||b2) with
    | true =>
     have hr:=qH (zLu (re:=re) (lo:=lo) (i:=i) (by rw [HL.out];exact hlt) (by rw [HG.out];revert hgo;cases b1<;>cases b2<;>simp));clear HG lS mG HS hgo;go_wp2_with fail
     go_ret;exact ⟨zDL (by rw [hr.out]),zAa aa hbf aa.size⟩
    | false =>
     have et:=qH (show ∀j:Nat,j < i+1→zEZ L j=Q from fun j hj=>by
      rcases Nat.decEq j i with e | e
      ·exact HS.out j (by omega)
      ·subst e;rw [HG.out];revert hgo;cases b1<;>cases b2<;>simp)
     clear HG lS mG HS hgo;go_wp2_with fail
     go_roundw
     case rel=>exact ⟨i+1,by omega,by go_num,hbf,et⟩
     case measure=>simp [intOf];omega
   ·have hr:=qH (show frB L re lo=Q from zCT.2 ⟨dP.out.1,dP.out.2.1,dP.out.2.2.1,dP.out.2.2.2.1,dP.out.2.2.2.2,fun j hj=>HS.out j (by rw [HL.out] at hj;omega)⟩);have j1:¬(i:Int) < (n:Int):=by omega
    clear HS;go_wp2_with fail
    go_ret;exact ⟨zDL (by rw [hr.out]),hbw⟩
 ·have hr:=qH (zTo hok);go_enter Tryz.func88,Tryz.ntmps88;go_wp2_with fail
  all_goals first
   | (exfalso;omega)
   | (go_ret;exact ⟨zDL (by rw [hr.out]),aa⟩)
end Go.Proofs.YtlmdfmnbcndhoaaGreatDoor
