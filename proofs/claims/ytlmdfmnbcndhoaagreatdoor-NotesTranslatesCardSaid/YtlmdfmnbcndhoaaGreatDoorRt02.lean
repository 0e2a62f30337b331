/-
  Lemmas. Conditions: each one's own.
-/
import Derived.Test.YtlmdfmnbcndhoaaGreatDoorRt01
import Derived.Laws.Cover2
import Derived.StillTailTactics
import Derived.Deep.Quiet
import Derived.Shelf.Strings.OnBuilder
import Derived.Shelf.Small.Strs
import Derived.Shelf.Small.Wraps
import Derived.Shelf.LaysM
import Derived.Shelf.Strconv.Itoa3
import Derived.Shelf.Strings.Cut
import Derived.Shelf.Strings.Shaped
import Derived.Shelf.Strings.Split
import Derived.Lib.ItoaLen
import Derived.Lib.AtoiAll
import Derived.Lib.IndexMore
import Derived.Lib.IndexLaws
import Derived.Laws.IdiomStrings
import Derived.Lib.AppendIntMem
import Derived.Lib.AtoiErrMem
import Derived.Laws.Concat
open Go.RowKit
set_option maxHeartbeats 3200000
set_option maxRecDepth 100000
open Go renaming World->ZY
open Option renaming none->U,some->Z
open Go.RowKit renaming Below->ZZ
open Go.RowKit.Below renaming refl->M
open Nat renaming le_refl->O
open Go.Value renaming bool->G,int->D,slice->H,string->W
open Go.IntKind renaming i64->J
open Go.Proofs.Tryz renaming prog->ZX
open Bool renaming false->E,true->Q
namespace Go.Proofs.YtlmdfmnbcndhoaaGreatDoor
def Els {α:Type} (sz:Nat) (enc:α->List Value) (w:ZY) (A:Option Addr) (n:Nat) (L:List α):Prop :=
 L.length=n/\n<=17592186043904/\(0 < n->∃g o,A=Z ⟨g,o,U⟩/\g < w.heap.size/\∀j x,L[j]? = Z x->∀q v,(enc x)[q]? = Z v->w.cell? ⟨g,o+j*sz+q,U⟩=Z v)
section
variable {α:Type} {sz:Nat} {enc:α->List Value} {w w':ZY} {A:Option Addr} {n:Nat} {L:List α}
theorem Els.len (h:Els sz enc w A n L):L.length=n:=h.1
theorem Els.le (h:Els sz enc w A n L):n<=17592186043904:=h.2.1
theorem Els.nil (w:ZY) (A:Option Addr):Els sz enc w A 0 ([]:List α):=⟨rfl,by omega,fun h=>absurd h (by omega)⟩
theorem Els.keep (h:Els sz enc w A n L) (hs:w.heap.size<=w'.heap.size) (hk:∀p:Addr,p.block < w.heap.size->w'.cell? p=w.cell? p):Els sz enc w' A n L :=
 ⟨h.1,h.2.1,fun hn=>by
  obtain ⟨g,o,e,hb,hc⟩:=h.2.2 hn
  exact ⟨g,o,e,by omega,fun j x hx q v hv=>(hk _ hb).trans (hc j x hx q v hv)⟩⟩
theorem Els.below (h:Els sz enc w A n L) (hb:ZZ w.heap.size w w'):Els sz enc w' A n L:=h.keep hb.size fun _ hp=>hb.cell hp
theorem Els.alloc (h:Els sz enc w A n L) (o:Obj):Els sz enc (w.alloc o) A n L:=h.below ((M _ _).alloc (O _) o)
theorem Els.take (h:Els sz enc w A n L) {i:Nat} (hi:i<=n):Els sz enc w A i (L.take i):=by
 refine ⟨by rw [List.length_take,h.1];omega,Nat.le_trans hi h.2.1,fun h0=>?_⟩;obtain ⟨g,o,e,hb,hc⟩:=h.2.2 (by omega);refine ⟨g,o,e,hb,fun j x hx=>hc j x ?_⟩;rw [List.getElem?_take] at hx;split at hx
 ·exact hx
 ·cases hx
end
theorem zBJ {a b:Bool} (h:a=b):Ending.returned (G a)=.returned (G b):=by rw [h]
theorem zGD {a b:Int} (h:a=b):Ending.returned (D J a)=.returned (D J b):=by rw [h]
theorem zCp {a b:ByteArray} (h:a=b):Ending.returned (W a)=.returned (W b):=by rw [h]
def zXP (x:Fg):List Value:=[D J x.p,G x.r,D J x.d]
abbrev fgV (x:Fg):Value:=.agg #[D J x.p,G x.r,D J x.d]
structure FgOk (x:Fg):Prop where
 p:I64 x.p
 d:I64 x.d
structure FgAt (w:ZY) (g o:Nat) (x:Fg):Prop where
 p:w.cell? ⟨g,o,U⟩=Z (D J x.p)
 r:w.cell? ⟨g,o+1,U⟩=Z (G x.r)
 d:w.cell? ⟨g,o+2,U⟩=Z (D J x.d)
def Fgs (w:ZY) (A:Option Addr) (n:Nat) (L:List Fg):Prop:=Els 3 zXP w A n L/\∀x∈L,FgOk x
section
variable {w w':ZY} {A:Option Addr} {n:Nat} {L:List Fg}
theorem Fgs.len (h:Fgs w A n L):L.length=n:=h.1.1
theorem Fgs.le (h:Fgs w A n L):n<=17592186043904:=h.1.2.1
theorem Fgs.below (h:Fgs w A n L) (hb:ZZ w.heap.size w w'):Fgs w' A n L:=⟨h.1.below hb,h.2⟩
theorem Fgs.alloc (h:Fgs w A n L) (o:Obj):Fgs (w.alloc o) A n L:=⟨h.1.alloc o,h.2⟩
theorem Fgs.take (h:Fgs w A n L) {i:Nat} (hi:i<=n):Fgs w A i (L.take i):=⟨h.1.take hi,fun x hx=>h.2 x (List.mem_of_mem_take hx)⟩
theorem Fgs.at_ {k:Nat} (h:Fgs w A n L) (hk:k < n):∃g o,A=Z ⟨g,o,U⟩/\g < w.heap.size/\FgAt w g (o+k*3) (fa L k)/\FgOk (fa L k):=by
 obtain ⟨g,o,e,hb,hc⟩:=h.1.2.2 (by omega);have hx:L[k]? = Z (fa L k):=zMy (by rw [h.len];exact hk);exact ⟨g,o,e,hb,⟨hc k _ hx 0 _ rfl,hc k _ hx 1 _ rfl,hc k _ hx 2 _ rfl⟩,h.2 _ (List.mem_of_getElem? hx)⟩
end
theorem eqFg (x y:Fg) (w:ZY):(Op.equalIn 10000 90 (fgV x) (fgV y)).run ZX w=.ok (fgB x y) w:=by
 have u3:=Tryz.underlying3;have a3:=Tryz.isAgg3;have z3:=Tryz.sizeOf3;have u4:=Tryz.underlying4;have a4:=Tryz.isAgg4;have z4:=Tryz.sizeOf4;have hS:Tryz.prog.underlying 90=Z (.struct (Tryz.prog.fieldsOf 90)):=by kernel_rfl
 have hp:Tryz.prog.stoodInHeld 90=E:=by kernel_rfl
 rw [show (10000:Nat)=9999+1 from rfl,run_equalIn_agg w 9999 90 _ _ hS hp];simp only [Program.fieldsOf,Tryz.underlying90];go_simp
 unfold fgB;by_cases h1:x.p=y.p<;>by_cases h2:x.r=y.r<;>by_cases h3:x.d=y.d<;>simp [h1,h2,h3]
theorem zNG (x:Fg) (w:ZY) :
  Calls ZX 138 #[fgV x] w fun e w'=>e=.returned (G (zAn x))/\ZZ w.heap.size w w':=by
 have ah:ZZ w.heap.size w (w.alloc (.cells #[D J x.p,G x.r,D J x.d] 90)):=(M _ _).alloc (O _) _;have HB:=qH ah;have hb:=qH (show zAn x=(decide (1<=x.p)&&decide (x.p<=9)&&decide (0<=x.d)&&decide (x.d<=6)) from rfl);clear ah;go_enter Tryz.func138,Tryz.ntmps138;go_wp2_with fail
 all_goals
  go_ret;refine ⟨zBJ ?_,HB.out⟩;rw [hb.out];simp
  try omega
theorem zEZ (A:Option Addr) (n c:Nat) (L:List Fg) (f:Fg) (w:ZY) (hA:Fgs w A n L) :
  Calls ZX 173 #[H A n c,fgV f] w fun e w'=>e=.returned (D J ((zAN L f:Int)-1))/\ZZ w.heap.size w w':=by
 have hle:=hA.le;have HL:=qH hA.len;have ah:ZZ w.heap.size w (w.alloc (.cells #[D J f.p,G f.r,D J f.d] 90)):=(M _ _).alloc (O _) _;have hk0:Blk (w.alloc (.cells #[D J f.p,G f.r,D J f.d] 90)) w.heap.size 90 #[D J f.p,G f.r,D J f.d]:=Blk.new _ _ _;go_enter Tryz.func173,Tryz.ntmps173;go_wp2_with fail
 generalize w.alloc (.cells #[D J f.p,G f.r,D J f.d] 90)=ZO at ah hk0 ⊢;go_loopw [8] (fun v8 wr=>∃i:Nat,i<=n/\v8=D J i/\ZZ ZO.heap.size ZO wr/\Hid (∀j:Nat,j < i->L[j]?≠Z f)) (fun v8 _=>n-(intOf v8).toNat)
 case atStart=>exact ⟨0,Nat.zero_le _,rfl,M _ _,qH (fun j hj=>by omega)⟩
 case round =>
  obtain ⟨i,hi,rfl,hbr,HS⟩:=hrel;have hkr:=hk0.below hbr hk0.lt;obtain ⟨e0,e1,e2⟩:=cQ3 hkr;have hbw:=zAa ah hbr ah.size;by_cases hlt:i < n
  ·obtain ⟨g,o,rfl,hg,⟨x0,x1,x2⟩,_⟩:=(hA.below hbw).at_ hlt;have i0:(0:Int)<=(i:Int):=by omega
   have i1:(i:Int) < (n:Int):=by omega
   have heq:=fun w=>eqFg f (fa L i) w
   have hget:=zMy (L:=L) (i:=i) (by rw [HL.out];exact hlt)
   cases hq:fgB f (fa L i) with
   | true =>
    have hr:=qH (show zAN L f=i+1 from zGZ (by rw [hget,<-zLm.1 hq]) HS.out);clear HS hget;go_wp2_with fail
    go_quiet (fail)
    go_wp2_with fail
    go_ret;exact ⟨zGD (by rw [hr.out];omega),zAg hbw _⟩
   | false =>
    have cR:=qH (show ∀j:Nat,j < i+1->L[j]?≠Z f from fun j hj=>by
     rcases Nat.decEq j i with e | e
     ·exact HS.out j (by omega)
     ·subst e
      rw [hget]
      intro e2
      injection e2 with e2
      rw [e2,zMx] at hq
      cases hq)
    clear HS hget;go_wp2_with fail
    go_quiet (fail)
    go_wp2_with fail
    go_roundw
    case rel=>exact ⟨i+1,by omega,by go_num,zAg hbr _,cR⟩
    case measure=>simp [intOf];omega
  ·have hr:=qH (show zAN L f=0 from zEW fun j e=>by
    have hj:=(List.getElem?_eq_some_iff.1 e).1
    rw [HL.out] at hj
    exact HS.out j (by omega) e)
   have i1:¬(i:Int) < (n:Int):=by omega
   clear HS;go_wp2_with fail
   go_ret;exact ⟨zGD (by rw [hr.out];rfl),hbw⟩
theorem zGE (A:Option Addr) (n c:Nat) (L:List Fg) (f:Fg) (w:ZY) (hA:Fgs w A n L) :
  Calls ZX 139 #[H A n c,fgV f] w fun e w'=>e=.returned (G (decide (0 < zAN L f)))/\ZZ w.heap.size w w':=by
 have ah:ZZ w.heap.size w (w.alloc (.cells #[D J f.p,G f.r,D J f.d] 90)):=(M _ _).alloc (O _) _;have hA0:=hA.alloc (.cells #[D J f.p,G f.r,D J f.d] 90);have HC:=qH (zEZ A n c L f _ hA0);go_enter Tryz.func139,Tryz.ntmps139;go_wp2_with fail
 refine HC.out.mono ?_;rintro e w2 ⟨rfl,ai⟩;have al:=zAa ah ai ah.size;go_wp2_with fail
 go_ret;exact ⟨zBJ (by simp only [decide_eq_decide];omega),al⟩
theorem zNH (A:Option Addr) (n c:Nat) (L:List Fg) (re lo:Int) (f:Fg) (w:ZY) (hA:Fgs w A n L) :
  Calls ZX 167 #[.agg #[H A n c,D J re,D J lo],fgV f] w fun e w'=>e=.returned (D J (zAN L f:Int))/\ZZ w.heap.size w w':=by
 have ah:ZZ w.heap.size w ((w.alloc (.cells #[H A n c,D J re,D J lo] 24)).alloc (.cells #[D J f.p,G f.r,D J f.d] 90)):=((M _ _).alloc (O _) _).alloc (by simp) _;have hA0:=hA.below ah;have hix:zAN L f<=n:=by rw [<-hA.len];exact zDF
 have hle:=hA.le;have HC:=qH (zEZ A n c L f _ hA0);have i0:wrap64 ((zAN L f:Int)-1+1)=(zAN L f:Int):=by unfold wrap64;omega
 go_enter Tryz.func167,Tryz.ntmps167;go_wp2_with fail
 refine HC.out.mono ?_;rintro e w2 ⟨rfl,ai⟩;have al:=zAa ah ai ah.size;go_wp2_with fail
 go_ret;exact ⟨zGD (by omega),al⟩
def frm (a:Act):List (Nat×Value)->Act
 | []=>a
 | p :: e=>(frm a e).put (Z p.1) p.2
def look (r:Operand->Value) (e:List (Nat×Value)):Operand->Value
 | .tmp i=>(e.lookup i).getD (r (.tmp i))
 | x=>r x
def zHc (n:Nat) (e:List (Nat×Value)):Prop:=∀p∈e,p.1 < n
theorem zMz (a:Act):∀e:List (Nat×Value),(frm a e).tmps.size=a.tmps.size
 | []=>rfl
 | p :: e=>by
  show ((frm a e).tmps.setIfInBounds p.1 p.2).size=_;rw [Array.size_setIfInBounds,zMz a e]
theorem zIW {a:Act}:∀{e:List (Nat×Value)},zHc a.tmps.size e->(frm a e).eval=look a.eval e
 | [],_=>by funext x;cases x<;>rfl
 | p :: e,h=>by
  have ih:=zIW (a:=a) (e:=e) (fun q hq=>h q (List.mem_cons_of_mem _ hq));have hp:p.1 < (frm a e).tmps.size:=by rw [zMz];exact h p (List.mem_cons_self ..)
  funext x
  cases x with
  | tmp i =>
   have ihi:=congrFun ih (.tmp i);show ((frm a e).tmps.setIfInBounds p.1 p.2).getD i undef=((p :: e).lookup i).getD _
   change (frm a e).tmps.getD i undef=(e.lookup i).getD _ at ihi
   obtain ⟨d,v⟩:=p;by_cases hd:i=d
   ·subst hd;rw [List.lookup_cons_self];simp only [Array.getD_eq_getD_getElem?,Option.getD_some];rw [Array.getElem?_setIfInBounds_self_of_lt (by exact hp)];rfl
   ·rw [List.lookup_cons,show (i==d)=E by simpa using hd];simp only [Array.getD_eq_getD_getElem?] at ihi ⊢;rw [Array.getElem?_setIfInBounds_ne (fun h=>hd h.symm)];exact ihi
  | const v=>exact congrFun ih (.const v)
  | global g=>exact congrFun ih (.global g)
  | func f=>exact congrFun ih (.func f)
def zKi:Value->Option Bool
 | G b=>Z b
 | _=>U
def zNI (ops:Array Oper) (r:Operand->Value) (e:List (Nat×Value)) (o:Oper):Bool :=
 Region.wanted o fun j=>match (ops[j]?).bind (·.dst) with
  | some d=>zKi (look r e (.tmp d))
  | none=>U
def zRI (o:Oper) (v:Value) (e:List (Nat×Value)):List (Nat×Value):=match o.dst with
 | some d=>(d,v) :: e
 | none=>e
def wk (P:Program) (ops:Array Oper) (C:ZY->Prop) (ZP:List (Nat×Value)->Prop) (r:Operand->Value):List Oper->List (Nat×Value)->Prop
 | [],e=>ZP e
 | o :: l,e=>∃(b:Bool) (v:Value),zNI ops r e o=b/\(b=Q->∀w,C w->Oper.quietUpon P C w v ((execOp (look r e) o).run P w))/\wk P ops C ZP r l (zRI o (cond b v undef) e)
theorem zKj {ops:Array Oper} {a:Act} {e:List (Nat×Value)} (h:zHc a.tmps.size e) (j:Nat):yielded ops (frm a e).tmps j=(match (ops[j]?).bind (·.dst) with
  | some d=>zKi (look a.eval e (.tmp d))
  | none=>U):=by
 unfold yielded
 cases hd:(ops[j]?).bind (·.dst) with
 | none=>rfl
 | some d =>
  have:=congrFun (zIW h) (.tmp d)
  change (frm a e).tmps.getD d undef=_ at this
  show (match (frm a e).tmps[d]? with | some (G b)=>Z b | _=>U)=zKi (look a.eval e (.tmp d));rw [<-this];simp only [Array.getD_eq_getD_getElem?]
  cases (frm a e).tmps[d]? with
  | none=>rfl
  | some v=>cases v<;>rfl
section
variable {P:Program} {ops:Array Oper} {C:ZY->Prop} {ZP:List (Nat×Value)->Prop} {a:Act}
theorem zLq {n:Nat} {o:Oper} {v:Value} {e:List (Nat×Value)} (h:zHc n e) (ho:∀d,o.dst=Z d->d < n):zHc n (zRI o v e):=by
 unfold zRI
 cases hd:o.dst with
 | none=>exact h
 | some d =>
  intro p hp;rcases List.mem_cons.1 hp with rfl | hp
  ·exact ho d hd
  ·exact h p hp
theorem zMA {R:Act->Prop} (hQ:∀e,zHc a.tmps.size e->ZP e->R (frm a e)):∀(l:List Oper) (e:List (Nat×Value)),zHc a.tmps.size e->(∀o∈l,∀d,o.dst=Z d->d < a.tmps.size) ->
  wk P ops C ZP a.eval l e->wpQuiet P ops C R l (frm a e)
 | [],e,he,_,h=>hQ e he h
 | o :: l,e,he,hl,⟨b,v,hw,hq,hk⟩=>by
  have hout:(frm a e).put o.dst (cond b v undef)=frm a (zRI o (cond b v undef) e):=by
   unfold zRI
   cases o.dst<;>rfl
  have ih:=zMA hQ l (zRI o (cond b v undef) e) (zLq he (hl o (List.mem_cons_self ..))) (fun o' qn=>hl o' (List.mem_cons_of_mem _ qn)) hk;have hwant:Region.wanted o (yielded ops (frm a e).tmps)=b:=by
   rw [<-hw];unfold zNI;exact congrArg (Region.wanted o) (funext fun j=>zKj he j)
  unfold wpQuiet;rw [hwant];rw [<-hout] at ih
  cases b with
  | true =>
   rw [qP rfl];refine ⟨v,fun w hC=>?_,ih⟩;unfold Oper.quietAt;rw [zIW he];exact hq rfl w hC
  | false =>
   rw [qN (by simp)];exact ih
def zWp (l:List Oper) (n:Nat):Bool:=l.all fun o=>match o.dst with
 | some d=>decide (d < n)
 | none=>Q
theorem zNJ {l:List Oper} {n:Nat} (h:zWp l n=Q):∀o∈l,∀d,o.dst=Z d->d < n:=by
 intro o ho d hd;have:=List.all_eq_true.1 h o ho;rw [hd] at this;simpa using this
theorem zPb {id:Nat} {Q':Exit->Act->ZY->Prop} {w:ZY} {l:List Oper} (n:Nat) (e:List (Nat×Value)) (hm:P.follows .mixedOrders=Q) (hB:Region.lexB .any l.toArray=Q)
  (hn:a.tmps.size=n) (hd:zWp l n=Q) (he:zHc n e) (hf:frm a e=a) (hC:C { w with drawn:=w.drawn+1 })
  (h:∀r:Operand->Value,(∀v,r (.const v)=v)->(∀k,r (.func k)=.func (.func k) #[] #[])->wk P l.toArray C (fun e'=>∀w',C w'->Q' .normal (frm a e') w') r l e):(Code.region id l.toArray Q).wp P Q' a w:=by
 refine wp_region_quiet hm hB hC ?_;subst hn;have:=zMA (R:=fun a'=>∀w',C w'->Q' .normal a' w') (fun e _ h=>h) l e he (zNJ hd) (h a.eval (fun _=>rfl) (fun _=>rfl));rw [hf] at this;simpa using this
theorem zIX {d:Nat} {v:Value} {e:List (Nat×Value)} (hf:frm a e=a) (hd:d < a.tmps.size) (hv:a.tmps.getD d undef=v):frm a ((d,v) :: e)=a:=by
 show (frm a e).put (Z d) v=a;rw [hf]
 cases a with
 | mk T ZW =>
  show Act.mk (T.setIfInBounds d v) ZW=_
  congr 1
  apply Array.ext_getElem?;intro i;rw [Array.getElem?_setIfInBounds];by_cases e:d=i
  ·subst e;rw [qP rfl]
   change d < T.size at hd
   rw [qP hd,<-hv];simp [hd]
  ·rw [qN e]
variable {r:Operand->Value} {o:Oper} {l:List Oper} {e:List (Nat×Value)} {v:Value} {b g c:Bool} {j d:Nat}
theorem zKk (hg:o.guard=U) (hq:∀w,C w->Oper.quietUpon P C w v ((execOp (look r e) o).run P w)) (hk:wk P ops C ZP r l (zRI o v e)):wk P ops C ZP r (o :: l) e :=
 ⟨Q,v,by unfold zNI Region.wanted;rw [hg],fun _=>hq,hk⟩
theorem zIt (hw:zNI ops r e o=b) (hq:b=Q->∀w,C w->Oper.quietUpon P C w v ((execOp (look r e) o).run P w)) (hk:wk P ops C ZP r l (zRI o (cond b v undef) e)):wk P ops C ZP r (o :: l) e:=⟨b,v,hw,hq,hk⟩
theorem zIu (hg:o.guard=Z (j,E)) (hd:(ops[j]?).bind (·.dst)=Z d) (hl:look r e (.tmp d)=G b):zNI ops r e o = !b:=by
 unfold zNI Region.wanted;rw [hg];show ((match (ops[j]?).bind (·.dst) with | some d=>zKi (look r e (.tmp d)) | none=>U)==Z E) = !b;rw [hd];show (zKi (look r e (.tmp d))==Z E) = !b;rw [hl]
 cases b<;>rfl
end
section
variable {P:Program} {C:ZY->Prop} {ρ:Operand->Value} {o:Oper} {w:ZY} {x y:Operand} {v p q:Value} {s f:Nat} {B c:Bool}
theorem zTD (ho:o.op=.move x) (hx:ρ x=v):Oper.quietUpon P C w v ((execOp ρ o).run P w):=by
 unfold execOp;rw [ho];exact ⟨rfl,hx⟩
theorem q_or (ho:o.op=.pick x (.const (G Q)) y) (hk:∀v,ρ (.const v)=v) (hx:ρ x=G B) (hy:ρ y=cond (!B) (G c) undef):Oper.quietUpon P C w (G (B||c)) ((execOp ρ o).run P w):=by
 unfold execOp;rw [ho];simp only [hx,hy,hk]
 cases B<;>exact ⟨rfl,rfl⟩
theorem cnd {g:Bool} {u:Value} (h:g=Q):cond g v u=v:=by rw [h];rfl
theorem zRJ {m:Sem Value} (hm:execOp ρ o=(do pure (.value (<-m)))) (hr:m.run P w=.ok q w):Oper.quietUpon P C w q ((execOp ρ o).run P w):=by
 rw [hm,Sem.run_bind,hr];exact ⟨rfl,rfl⟩
theorem q_fa (ho:o.op=.fieldAddr s x f) (hx:ρ x=p) (hr:(Instr.fieldAt s p f).run P w=.ok q w):Oper.quietUpon P C w q ((execOp ρ o).run P w) :=
 zRJ (m:=Instr.fieldAt s p f) (by unfold execOp;rw [ho,<-hx]) hr
theorem zYb (ho:o.op=.load s x) (hx:ρ x=p) (hr:(Instr.loadAt s p).run P w=.ok q w):Oper.quietUpon P C w q ((execOp ρ o).run P w) :=
 zRJ (m:=Instr.loadAt s p) (by unfold execOp;rw [ho,<-hx]) hr
theorem map1 {v:Value} (hx:ρ x=v):#[x].map ρ=#[v]:=by simp [hx]
theorem map2 {v u:Value} (hx:ρ x=v) (hy:ρ y=u):#[x,y].map ρ=#[v,u]:=by simp [hx,hy]
theorem zTE {k:FuncId} {xs:Array Operand} {ts:Array TypeId} {vs:Array Value} (ho:o.op=.call { callee:=.value (.func k),args:=xs,argTypes:=ts }) (hk:ρ (.func k)=.func (.func k) #[] #[]) (hx:xs.map ρ=vs)
  (hr:(callFunc k vs).run P w=.ok (.enter k vs) w) (hc:Calls P k vs w fun e w''=>e=.returned v/\C w''):Oper.quietUpon P C w v ((execOp ρ o).run P w):=by
 have:(execOp ρ o).run P w=.ok (.enter k vs) w:=by
  unfold execOp;rw [ho];simp only [resolve,hk,hx];go_simp
 rw [this];exact ⟨rfl,hc⟩
end
theorem zRK {x:Fg} {b:Bool} (h:zAn x=b) (w:ZY):Calls ZX 138 #[fgV x] w fun e w'=>e=.returned (G b)/\ZZ w.heap.size w w':=by
 subst h;exact zNG x w
theorem zLr {A:Option Addr} {n c:Nat} {L:List Fg} {f:Fg} {b:Bool} (h:decide (0 < zAN L f)=b) (w:ZY) (hA:Fgs w A n L) :
  Calls ZX 139 #[H A n c,fgV f] w fun e w'=>e=.returned (G b)/\ZZ w.heap.size w w':=by
 subst h;exact zGE A n c L f w hA
section
variable {P:Program} {C:ZY->Prop} {ρ:Operand->Value} {o:Oper} {w:ZY} {x y:Operand} {q:Value}
theorem zYc {u:UnOp} {t:TypeId} {X:Value} (ho:o.op=.unOp u t x) (hx:ρ x=X) (hr:(Op.unary u X).run P w=.ok q w):Oper.quietUpon P C w q ((execOp ρ o).run P w) :=
 zRJ (m:=Op.unary u X) (by unfold execOp;rw [ho,<-hx]) hr
theorem zYd {t:TypeId} {X I:Value} (ho:o.op=.slice t x U (Z y) U) (hx:ρ x=X) (hy:ρ y=I) (hr:(Instr.sliceAt t X U (Z I) U).run P w=.ok q w):Oper.quietUpon P C w q ((execOp ρ o).run P w) :=
 zRJ (m:=Instr.sliceAt t X U (Z I) U) (by unfold execOp;rw [ho,<-hx,<-hy];first | rfl | simp) hr
end
theorem zUu (b:Bool) (w:ZY):(Op.unary .not (G b)).run ZX w=.ok (G (!b)) w:=by go_simp
theorem zWq (b:Nat) (w:ZY):(Instr.fieldAt 24 (.pointer (Z ⟨b,0,U⟩)) 0).run ZX w=.ok (.pointer (Z ⟨b,0,U⟩)) w:=by go_simp
theorem zWr {p:Addr} {A:Option Addr} {n c:Nat} {w:ZY} (h:w.cell? p=Z (H A n c)):(Instr.loadAt 22 (.pointer (Z p))).run ZX w=.ok (H A n c) w:=by go_simp
theorem zWs {b:Nat} {p d:Int} {r:Bool} {w:ZY} (h0:w.cell? ⟨b,0,U⟩=Z (D J p)) (h1:w.cell? ⟨b,1,U⟩=Z (G r)) (h2:w.cell? ⟨b,2,U⟩=Z (D J d)):(Instr.loadAt 90 (.pointer (Z ⟨b,0,U⟩))).run ZX w=.ok (.agg #[D J p,G r,D J d]) w:=by go_simp
theorem zWt {g o n c i:Nat} (h0:(0:Int)<=(i:Int)) (h1:(i:Int)<=(c:Int)) (w:ZY):(Instr.sliceAt 22 (H (Z ⟨g,o,U⟩) n c) U (Z (D J (i:Int))) U).run ZX w=.ok (H (Z ⟨g,o,U⟩) i c) w:=by
 go_simp
theorem zRL (vs:Array Value) (w:ZY):(callFunc 138 vs).run ZX w=.ok (.enter 138 vs) w:=by go_simp
theorem zLs (vs:Array Value) (w:ZY):(callFunc 139 vs).run ZX w=.ok (.enter 139 vs) w:=by go_simp
theorem zTF {L:List Fg} {re lo:Int} (h:¬(L.length<=40/\0<=re/\re<=40/\1<=lo/\lo<=20)):frB L re lo=E:=by
 cases e:frB L re lo with
 | false=>rfl
 | true=>obtain ⟨h1,h2,h3,h4,h5,_⟩:=zCQ.1 e;exact absurd ⟨h1,h2,h3,h4,h5⟩ h
theorem zLt {L:List Fg} {re lo:Int} {i:Nat} (hi:i < L.length) (h:zDj L i=E):frB L re lo=E:=by
 cases e:frB L re lo with
 | false=>rfl
 | true=>have:=(zCQ.1 e).2.2.2.2.2 i hi;rw [h] at this;cases this
theorem zNK (A:Option Addr) (n c:Nat) (L:List Fg) (re lo:Int) (w:ZY) (hA:Fgs w A n L) (hc:n<=c) :
  Calls ZX 88 #[.agg #[H A n c,D J re,D J lo]] w fun e w'=>e=.returned (G (frB L re lo))/\ZZ w.heap.size w w':=by
 have hln:=hA.len;have ah:ZZ w.heap.size w (w.alloc (.cells #[H A n c,D J re,D J lo] 24)):=(M _ _).alloc (O _) _;by_cases hok:L.length<=40/\0<=re/\re<=40/\1<=lo/\lo<=20
 ·have fk:=qH hok;have HL:=qH hln;have qq:n<=40:=by omega
  have i0:¬(40:Int) < (n:Int):=by omega
  have i1:¬re < 0:=by omega
  have i2:¬40 < re:=by omega
  have i3:¬lo < 1:=by omega
  have i4:¬20 < lo:=by omega
  have hk0:Blk (w.alloc (.cells #[H A n c,D J re,D J lo] 24)) w.heap.size 24 #[H A n c,D J re,D J lo]:=Blk.new _ _ _;clear hok hln;go_enter Tryz.func88,Tryz.ntmps88;go_wp2_with fail
  generalize w.alloc (.cells #[H A n c,D J re,D J lo] 24)=ZO at ah hk0 ⊢;go_loopw [32] (fun v wr=>∃i:Nat,i<=n/\v=D J i/\ZZ ZO.heap.size ZO wr/\Hid (∀j:Nat,j < i->zDj L j=Q)) (fun v _=>n-(intOf v).toNat)
  case atStart=>exact ⟨0,Nat.zero_le _,rfl,M _ _,qH (fun j hj=>by omega)⟩
  case round =>
   obtain ⟨i,hi,rfl,hbr,HS⟩:=hrel;have hkr:=hk0.below hbr hk0.lt;have hbw:=zAa ah hbr ah.size;by_cases hlt:i < n
   ·obtain ⟨g,o,rfl,hg,⟨x0,x1,x2⟩,_⟩:=(hA.below hbw).at_ hlt;have j0:(0:Int)<=(i:Int):=by omega
    have j1:(i:Int) < (n:Int):=by omega
    have j2:(i:Int)<=(c:Int):=by omega
    have hgd:zDj L i=(zAn (fa L i)&&!(decide (0 < zAN (L.take i) (fa L i)))):=by
     unfold zDj
     congr 1
     rw [<-decide_not];simp
    generalize hx:fa L i=x at x0 x1 x2 hgd;obtain ⟨b1,ay⟩:∃b,b=zAn x:=⟨_,rfl⟩
    obtain ⟨b2,ai⟩:∃b,b=decide (0 < zAN (L.take i) x):=⟨_,rfl⟩
    rw [<-ay,<-ai] at hgd;have HG:=qH hgd;have lF:=qH ay.symm;have iv:=qH ai.symm;have pq:=(hA.below hbw).alloc (.cells #[D J x.p,G x.r,D J x.d] 90);have iI:Blk (wr.alloc (.cells #[D J x.p,G x.r,D J x.d] 90)) wr.heap.size 90 #[D J x.p,G x.r,D J x.d]:=Blk.new _ _ _;have hkf:=hkr.alloc (.cells #[D J x.p,G x.r,D J x.d] 90);have bh:ZZ ZO.heap.size ZO (wr.alloc (.cells #[D J x.p,G x.r,D J x.d] 90)):=hbr.alloc hbr.size _;clear hgd ay ai hx;go_wp2_with fail
    clear hkr hbr hbw x0 x1 x2 hg;generalize wr.alloc (.cells #[D J x.p,G x.r,D J x.d] 90)=Y at pq iI hkf bh ⊢
    have KP:=fun wx (h:ZZ Y.heap.size Y wx)=>(show wx.cell? ⟨wr.heap.size,0,U⟩=Z (D J x.p)/\wx.cell? ⟨wr.heap.size,1,U⟩=Z (G x.r)/\wx.cell? ⟨wr.heap.size,2,U⟩=Z (D J x.d)/\wx.cell? ⟨w.heap.size,0,U⟩=Z (H (Z ⟨g,o,U⟩) n c) from
     ⟨((iI.below h iI.lt).cell 0).trans rfl,((iI.below h iI.lt).cell 1).trans rfl,((iI.below h iI.lt).cell 2).trans rfl,((hkf.below h hkf.lt).cell 0).trans rfl⟩)
    have HT:=qH (pq.take (i:=i) (by omega));refine zPb (C:=fun w'=>ZZ Y.heap.size Y w') 49 [(1,.pointer (Z ⟨w.heap.size,0,U⟩)),(4,.pointer (Z ⟨wr.heap.size,0,U⟩)),(3,D J (i:Int))] (by kernel_rfl) (by kernel_rfl) rfl (by kernel_rfl) (by intro q hq;simp at hq;rcases hq with rfl | rfl | rfl<;>simp) (zIX (zIX (zIX rfl (by simp) rfl) (by simp) rfl) (by simp) rfl) ((M _ _).drew) ?_;intro r hrc hrf;refine zKk (v:=fgV x) rfl (fun w' hC=>zYb (p:=.pointer (Z ⟨wr.heap.size,0,U⟩)) rfl rfl (zWs (KP _ hC).1 (KP _ hC).2.1 (KP _ hC).2.2.1)) ?_;refine zKk (v:=G b1) rfl (fun w' hC=>zTE (vs:=#[fgV x]) rfl (hrf _) (map1 rfl) (zRL _ _) ((zRK lF.out _).mono fun _ _ ⟨he,hb⟩=>⟨he,zAa hC hb hC.size⟩)) ?_;refine zKk (v:=G (!b1)) rfl (fun w' hC=>zYc (X:=G b1) rfl rfl (zUu _ _)) ?_;refine zKk (v:=G (!b1)) rfl (fun w' hC=>zTD rfl rfl) ?_;refine zIt (b:=!(!b1)) (v:=.pointer (Z ⟨w.heap.size,0,U⟩)) (zIu rfl rfl rfl) (fun h w' hC=>q_fa (p:=.pointer (Z ⟨w.heap.size,0,U⟩)) rfl rfl (zWq _ _)) ?_;refine zIt (b:=!(!b1)) (v:=H (Z ⟨g,o,U⟩) n c) (zIu rfl rfl rfl) (fun h w' hC=>zYb (p:=.pointer (Z ⟨w.heap.size,0,U⟩)) rfl (cnd h) (zWr (KP _ hC).2.2.2)) ?_;refine zIt (b:=!(!b1)) (v:=D J (i:Int)) (zIu rfl rfl rfl) (fun h w' hC=>zTD rfl rfl) ?_;refine zIt (b:=!(!b1)) (v:=H (Z ⟨g,o,U⟩) i c) (zIu rfl rfl rfl) (fun h w' hC=>zYd (X:=H (Z ⟨g,o,U⟩) n c) (I:=D J (i:Int)) rfl (cnd h) (cnd h) (zWt j0 j2 _)) ?_;refine zIt (b:=!(!b1)) (v:=fgV x) (zIu rfl rfl rfl) (fun h w' hC=>zYb (p:=.pointer (Z ⟨wr.heap.size,0,U⟩)) rfl rfl (zWs (KP _ hC).1 (KP _ hC).2.1 (KP _ hC).2.2.1)) ?_;refine zIt (b:=!(!b1)) (v:=G b2) (zIu rfl rfl rfl) (fun h w' hC=>zTE (vs:=#[H (Z ⟨g,o,U⟩) i c,fgV x]) rfl (hrf _) (map2 (cnd h) (cnd h)) (zLs _ _) ((zLr iv.out _ (HT.out.below hC)).mono fun _ _ ⟨he,hb⟩=>⟨he,zAa hC hb hC.size⟩)) ?_;refine zKk (v:=G (!b1||b2)) rfl (fun w' hC=>q_or rfl (fun _=>hrc _) rfl rfl) ?_;intro wx hwx;have hbf:=zAa bh hwx bh.size;clear hrc hrf r KP;simp only [zRI,frm,Act.put,List.setIfInBounds_toArray,List.set_cons_succ,List.set_cons_zero];clear pq iI hkf HT hwx
    cases hgo:(!b1||b2) with
    | true =>
     have hr:=qH (zLt (re:=re) (lo:=lo) (i:=i) (by rw [HL.out];exact hlt) (by rw [HG.out];revert hgo;cases b1<;>cases b2<;>simp));clear HG iv lF HS hgo;go_wp2_with fail
     go_ret;exact ⟨zBJ (by rw [hr.out]),zAa ah hbf ah.size⟩
    | false =>
     have cR:=qH (show ∀j:Nat,j < i+1->zDj L j=Q from fun j hj=>by
      rcases Nat.decEq j i with e | e
      ·exact HS.out j (by omega)
      ·subst e;rw [HG.out];revert hgo;cases b1<;>cases b2<;>simp)
     clear HG iv lF HS hgo;go_wp2_with fail
     go_roundw
     case rel=>exact ⟨i+1,by omega,by go_num,hbf,cR⟩
     case measure=>simp [intOf];omega
   ·have hr:=qH (show frB L re lo=Q from zCQ.2 ⟨fk.out.1,fk.out.2.1,fk.out.2.2.1,fk.out.2.2.2.1,fk.out.2.2.2.2,fun j hj=>HS.out j (by rw [HL.out] at hj;omega)⟩);have j1:¬(i:Int) < (n:Int):=by omega
    clear HS;go_wp2_with fail
    go_ret;exact ⟨zBJ (by rw [hr.out]),hbw⟩
 ·have hr:=qH (zTF hok);go_enter Tryz.func88,Tryz.ntmps88;go_wp2_with fail
  all_goals first
   | (exfalso;omega)
   | (go_ret;exact ⟨zBJ (by rw [hr.out]),ah⟩)
end Go.Proofs.YtlmdfmnbcndhoaaGreatDoor
namespace Go.Proofs
open Go.Shelf
def Tryz.lays169_ren:Go.Shelf.Ren:=⟨fun | 169=>61 | n=>n,fun | 70=>98 | 9=>9 | 0=>0 | 72=>101 | 37=>99 | 127=>163 | 3=>3 | 5=>5 | n=>n,fun | n=>n⟩
theorem Tryz.lays169:Go.Proofs.Lays.n169 ZX Tryz.lays169_ren:={
 mixed:=by kernel_rfl
 f169:=Tryz.func61.trans (congrArg Z (by kernel_rfl))
 t0:=Tryz.underlying0
 a0:=Tryz.isAgg0
 z0:=Tryz.sizeOf0
 v0:=Tryz.zeroValue0
 t3:=Tryz.underlying3
 a3:=Tryz.isAgg3
 z3:=Tryz.sizeOf3
 v3:=Tryz.zeroValue3
 t9:=Tryz.underlying9
 a9:=Tryz.isAgg9
 z9:=Tryz.sizeOf9
 v9:=Tryz.zeroValue9
 t37:=Tryz.underlying99
 a37:=Tryz.isAgg99
 z37:=Tryz.sizeOf99
 v37:=Tryz.zeroValue99
 t70:=Tryz.underlying98
 a70:=Tryz.isAgg98
 z70:=Tryz.sizeOf98
 v70:=Tryz.zeroValue98
 t72:=Tryz.underlying101
 a72:=Tryz.isAgg101
 z72:=Tryz.sizeOf101
 v72:=Tryz.zeroValue101
 t127:=Tryz.underlying163
 a127:=Tryz.isAgg163
 z127:=Tryz.sizeOf163
 v127:=Tryz.zeroValue163 }
theorem Tryz.Builder_Extra_169:Builder.Extra ZX Tryz.lays169_ren:={
 sizeBuilder:=by kernel_rfl
 liesBuilder:=by kernel_rfl
 t5:=Tryz.underlying5
 a5:=Tryz.isAgg5
 z5:=Tryz.sizeOf5
 v5:=Tryz.zeroValue5
 infoByte:=by kernel_rfl
 cellsByte:=by kernel_rfl
 sizeByte:=by kernel_rfl
 neB5:=by decide }
open Go.RowKit in
theorem Tryz.Builder_String_any (B b:Nat) (l:List UInt8) (w:ZY) (h:Lib.IsBuilder 101 5 B b (Lib.byteCells l) w) (hBw:B<=w.heap.size) :
  Calls ZX 61 #[.pointer (Z ⟨b,0,U⟩)] w fun e w'=>e=.returned (W ⟨l.toArray⟩)/\ZZ B w w':=Any.Builder_String_any Tryz.lays169 Tryz.Builder_Extra_169 B b l w h hBw
def Tryz.lays156_ren:Go.Shelf.Ren:=⟨fun | 156=>69 | 165=>117 | 166=>59 | 169=>61 | 240=>105 | 241=>158 | 276=>153 | 277=>187 | n=>n,fun | 31=>112 | 9=>9 | 3=>3 | 4=>4 | 0=>0 | 20=>20 | 72=>101 | 76=>104 | 70=>98 | 37=>99 | 75=>103 | 127=>163 | 164=>195 | 5=>5 | 80=>106 | n=>n,fun | n=>n⟩
theorem Tryz.lays156:Go.Proofs.Lays.n156 ZX Tryz.lays156_ren:={
 mixed:=by kernel_rfl
 f156:=Tryz.func69.trans (congrArg Z (by kernel_rfl))
 f165:=Tryz.func117.trans (congrArg Z (by kernel_rfl))
 f166:=Tryz.func59.trans (congrArg Z (by kernel_rfl))
 f169:=Tryz.func61.trans (congrArg Z (by kernel_rfl))
 f240:=Tryz.func105.trans (congrArg Z (by kernel_rfl))
 f241:=Tryz.func158.trans (congrArg Z (by kernel_rfl))
 f276:=Tryz.func153.trans (congrArg Z (by kernel_rfl))
 f277:=Tryz.func187.trans (congrArg Z (by kernel_rfl))
 t0:=Tryz.underlying0
 a0:=Tryz.isAgg0
 z0:=Tryz.sizeOf0
 v0:=Tryz.zeroValue0
 t3:=Tryz.underlying3
 a3:=Tryz.isAgg3
 z3:=Tryz.sizeOf3
 v3:=Tryz.zeroValue3
 t4:=Tryz.underlying4
 a4:=Tryz.isAgg4
 z4:=Tryz.sizeOf4
 v4:=Tryz.zeroValue4
 t9:=Tryz.underlying9
 a9:=Tryz.isAgg9
 z9:=Tryz.sizeOf9
 v9:=Tryz.zeroValue9
 t20:=Tryz.underlying20
 a20:=Tryz.isAgg20
 z20:=Tryz.sizeOf20
 v20:=Tryz.zeroValue20
 t31:=Tryz.underlying112
 a31:=Tryz.isAgg112
 z31:=Tryz.sizeOf112
 v31:=Tryz.zeroValue112
 t37:=Tryz.underlying99
 a37:=Tryz.isAgg99
 z37:=Tryz.sizeOf99
 v37:=Tryz.zeroValue99
 t70:=Tryz.underlying98
 a70:=Tryz.isAgg98
 z70:=Tryz.sizeOf98
 v70:=Tryz.zeroValue98
 t72:=Tryz.underlying101
 a72:=Tryz.isAgg101
 z72:=Tryz.sizeOf101
 v72:=Tryz.zeroValue101
 t75:=Tryz.underlying103
 a75:=Tryz.isAgg103
 z75:=Tryz.sizeOf103
 v75:=Tryz.zeroValue103
 t76:=Tryz.underlying104
 a76:=Tryz.isAgg104
 z76:=Tryz.sizeOf104
 v76:=Tryz.zeroValue104
 t127:=Tryz.underlying163
 a127:=Tryz.isAgg163
 z127:=Tryz.sizeOf163
 v127:=Tryz.zeroValue163
 t164:=Tryz.underlying195
 a164:=Tryz.isAgg195
 z164:=Tryz.sizeOf195
 v164:=Tryz.zeroValue195 }
theorem Tryz.Builder_Extra_156:Builder.Extra ZX Tryz.lays156_ren:={
 sizeBuilder:=by kernel_rfl
 liesBuilder:=by kernel_rfl
 t5:=Tryz.underlying5
 a5:=Tryz.isAgg5
 z5:=Tryz.sizeOf5
 v5:=Tryz.zeroValue5
 infoByte:=by kernel_rfl
 cellsByte:=by kernel_rfl
 sizeByte:=by kernel_rfl
 neB5:=by decide }
open Go.RowKit in
theorem Tryz.strings_Join_none (a:Option Addr) (c:Nat) (sep:ByteArray) (w:ZY) :
  Calls ZX 69 #[H a 0 c,W sep] w fun e w'=>e=.returned (W ⟨#[]⟩)/\w'=w:=Any.strings_Join_none Tryz.lays156 Tryz.Builder_Extra_156 a c sep w
open Go.RowKit in
theorem Tryz.strings_Join (bk o c:Nat) (xs:List ByteArray) (sep:ByteArray) (w:ZY) (hcells:∀(j:Nat) x,xs[j]? = Z x->w.cell? ⟨bk,o+j,U⟩=Z (W x)) (hbk:bk < w.heap.size) (hN:xs.length<=140737488355328) (hcap:xs.length<=c) (hlen:(Lib.join (xs.map (·.data.toList)) sep.data.toList).length<=140737488355328) :
  Calls ZX 69 #[H (Z ⟨bk,o,U⟩) xs.length c,W sep] w fun e w'=>e=.returned (W ⟨(Lib.join (xs.map (·.data.toList)) sep.data.toList).toArray⟩)/\ZZ w.heap.size w w':=Any.strings_Join Tryz.lays156 Tryz.Builder_Extra_156 bk o c xs sep w hcells hbk hN hcap hlen
def Tryz.lays137_ren:Go.Shelf.Ren:=⟨fun | 137=>161 | 217=>183 | 266=>202 | n=>n,fun | 9=>9 | 5=>5 | 3=>3 | n=>n,fun | n=>n⟩
theorem Tryz.lays137:Go.Proofs.Lays.n137 ZX Tryz.lays137_ren:={
 mixed:=by kernel_rfl
 f137:=Tryz.func161.trans (congrArg Z (by kernel_rfl))
 f217:=Tryz.func183.trans (congrArg Z (by kernel_rfl))
 f266:=Tryz.func202.trans (congrArg Z (by kernel_rfl))
 t3:=Tryz.underlying3
 a3:=Tryz.isAgg3
 z3:=Tryz.sizeOf3
 v3:=Tryz.zeroValue3
 t5:=Tryz.underlying5
 a5:=Tryz.isAgg5
 z5:=Tryz.sizeOf5
 v5:=Tryz.zeroValue5
 t9:=Tryz.underlying9
 a9:=Tryz.isAgg9
 z9:=Tryz.sizeOf9
 v9:=Tryz.zeroValue9 }
open Go.RowKit in
theorem Tryz.strings_IndexByte (s:ByteArray) (c:Int) (w:ZY) :
  Calls ZX 161 #[W s,D .u8 c] w fun e w'=>e=.returned (D J (Lib.indexByte s.data.toList c.toNat.toUInt8))/\w'=w:=Any.strings_IndexByte Tryz.lays137 s c w
def Tryz.lays104_ren:Go.Shelf.Ren:=⟨fun | 104=>145 | 211=>181 | 207=>201 | n=>n,fun | 9=>9 | 4=>4 | 24=>189 | 3=>3 | n=>n,fun | n=>n⟩
theorem Tryz.lays104:Go.Proofs.Lays.n104 ZX Tryz.lays104_ren:={
 mixed:=by kernel_rfl
 f104:=Tryz.func145.trans (congrArg Z (by kernel_rfl))
 f207:=Tryz.func201.trans (congrArg Z (by kernel_rfl))
 f211:=Tryz.func181.trans (congrArg Z (by kernel_rfl))
 t3:=Tryz.underlying3
 a3:=Tryz.isAgg3
 z3:=Tryz.sizeOf3
 v3:=Tryz.zeroValue3
 t4:=Tryz.underlying4
 a4:=Tryz.isAgg4
 z4:=Tryz.sizeOf4
 v4:=Tryz.zeroValue4
 t9:=Tryz.underlying9
 a9:=Tryz.isAgg9
 z9:=Tryz.sizeOf9
 v9:=Tryz.zeroValue9
 t24:=Tryz.underlying189
 a24:=Tryz.isAgg189
 z24:=Tryz.sizeOf189
 v24:=Tryz.zeroValue189 }
open Go.RowKit in
theorem Tryz.strings_CutSuffix (s p:ByteArray) (w:ZY) (hs:s.size<=9223372036854775807) :
  Calls ZX 145 #[W s,W p] w fun e w'=>e=.returned (.tuple #[W ⟨(Lib.trimSuffix s.data.toList p.data.toList).toArray⟩,G (Lib.hasSuffix s.data.toList p.data.toList)])/\w'=w:=Any.strings_CutSuffix Tryz.lays104 s p w hs
def Tryz.laysM171_ren:Go.Shelf.Ren:=⟨fun | 171=>124 | 243=>164 | 246=>191 | 283=>207 | 284=>208 | 285=>209 | 286=>210 | 129=>216 | 317=>215 | 318=>217 | 319=>218 | 320=>219 | 337=>220 | 338=>221 | n=>n,fun | 3=>3 | 9=>9 | 2=>2 | 4=>4 | 171=>234 | 0=>0 | 53=>235 | 37=>99 | 5=>5 | 173=>238 | 212=>242 | 51=>229 | 20=>20 | 213=>243 | 46=>218 | 232=>250 | 233=>251 | n=>n,fun | 17=>1 | 18=>4 | 19=>5 | n=>n⟩
theorem Tryz.laysM171:Go.Proofs.LaysM.n171 ZX Tryz.laysM171_ren:={
 mixed:=by kernel_rfl
 f129:=Tryz.func216.trans (congrArg Z (by kernel_rfl))
 f171:=Tryz.func124.trans (congrArg Z (by kernel_rfl))
 f243:=Tryz.func164.trans (congrArg Z (by kernel_rfl))
 f246:=Tryz.func191.trans (congrArg Z (by kernel_rfl))
 f283:=Tryz.func207.trans (congrArg Z (by kernel_rfl))
 f284:=Tryz.func208.trans (congrArg Z (by kernel_rfl))
 f285:=Tryz.func209.trans (congrArg Z (by kernel_rfl))
 f286:=Tryz.func210.trans (congrArg Z (by kernel_rfl))
 f317:=Tryz.func215.trans (congrArg Z (by kernel_rfl))
 f318:=Tryz.func217.trans (congrArg Z (by kernel_rfl))
 f319:=Tryz.func218.trans (congrArg Z (by kernel_rfl))
 f320:=Tryz.func219.trans (congrArg Z (by kernel_rfl))
 f337:=Tryz.func220.trans (congrArg Z (by kernel_rfl))
 f338:=Tryz.func221.trans (congrArg Z (by kernel_rfl))
 t0:=Tryz.underlying0
 a0:=Tryz.isAgg0
 z0:=Tryz.sizeOf0
 v0:=Tryz.zeroValue0
 t2:=Tryz.underlying2
 a2:=Tryz.isAgg2
 z2:=Tryz.sizeOf2
 v2:=Tryz.zeroValue2
 t3:=Tryz.underlying3
 a3:=Tryz.isAgg3
 z3:=Tryz.sizeOf3
 v3:=Tryz.zeroValue3
 t4:=Tryz.underlying4
 a4:=Tryz.isAgg4
 z4:=Tryz.sizeOf4
 v4:=Tryz.zeroValue4
 t5:=Tryz.underlying5
 a5:=Tryz.isAgg5
 z5:=Tryz.sizeOf5
 v5:=Tryz.zeroValue5
 t9:=Tryz.underlying9
 a9:=Tryz.isAgg9
 z9:=Tryz.sizeOf9
 v9:=Tryz.zeroValue9
 t20:=Tryz.underlying20
 a20:=Tryz.isAgg20
 z20:=Tryz.sizeOf20
 v20:=Tryz.zeroValue20
 t37:=Tryz.underlying99
 a37:=Tryz.isAgg99
 z37:=Tryz.sizeOf99
 v37:=Tryz.zeroValue99
 t46:=Tryz.underlying218
 a46:=Tryz.isAgg218
 z46:=Tryz.sizeOf218
 v46:=Tryz.zeroValue218
 t51:=Tryz.underlying229
 a51:=Tryz.isAgg229
 z51:=Tryz.sizeOf229
 v51:=Tryz.zeroValue229
 t53:=Tryz.underlying235
 a53:=Tryz.isAgg235
 z53:=Tryz.sizeOf235
 v53:=Tryz.zeroValue235
 t171:=Tryz.underlying234
 a171:=Tryz.isAgg234
 z171:=Tryz.sizeOf234
 v171:=Tryz.zeroValue234
 t173:=Tryz.underlying238
 a173:=Tryz.isAgg238
 z173:=Tryz.sizeOf238
 v173:=Tryz.zeroValue238
 t212:=Tryz.underlying242
 a212:=Tryz.isAgg242
 z212:=Tryz.sizeOf242
 v212:=Tryz.zeroValue242
 t213:=Tryz.underlying243
 a213:=Tryz.isAgg243
 z213:=Tryz.sizeOf243
 t232:=Tryz.underlying250
 a232:=Tryz.isAgg250
 z232:=Tryz.sizeOf250
 v232:=Tryz.zeroValue250
 t233:=Tryz.underlying251
 a233:=Tryz.isAgg251
 z233:=Tryz.sizeOf251
 v233:=Tryz.zeroValue251
 g17:=by kernel_rfl
 g18:=by kernel_rfl
 g19:=by kernel_rfl
 i0:=by kernel_rfl
 i2:=by kernel_rfl
 i3:=by kernel_rfl
 i4:=by kernel_rfl
 i5:=by kernel_rfl
 i9:=by kernel_rfl
 i20:=by kernel_rfl
 i37:=by kernel_rfl
 i46:=by kernel_rfl
 i51:=by kernel_rfl
 i53:=by kernel_rfl
 i171:=by kernel_rfl
 i173:=by kernel_rfl
 i212:=by kernel_rfl
 i232:=by kernel_rfl
 i233:=by kernel_rfl
 m17:=by kernel_rfl
 m18:=by kernel_rfl
 m19:=by kernel_rfl }
open Go.RowKit Go.Sort Go.Lib in
theorem Tryz.strconv_Itoa (n : Int) (h0 : -9223372036854775808 <= n) (h1 : n <= 9223372036854775807) (w : ZY) (htab : Lib.TabIs ZX w "internal/strconv.uint64pow10" .u64 Lib.pow10Tab) :
  Calls ZX 124 #[D J n] w fun e w'=>e=.returned (W ⟨(Lib.itoa n).toArray⟩)/\∃k os,w'=grow (w.drewN k) os:=Any.strconv_Itoa Tryz.laysM171 n h0 h1 w htab
def Tryz.lays171_ren:Go.Shelf.Ren:=⟨fun | 171=>124 | 243=>164 | 246=>191 | 283=>207 | 284=>208 | 285=>209 | 286=>210 | 129=>216 | 317=>215 | 318=>217 | 319=>218 | 320=>219 | 337=>220 | 338=>221 | n=>n,fun | 3=>3 | 9=>9 | 2=>2 | 4=>4 | 171=>234 | 0=>0 | 53=>235 | 37=>99 | 5=>5 | 173=>238 | 212=>242 | 51=>229 | 20=>20 | 213=>243 | 46=>218 | 232=>250 | 233=>251 | n=>n,fun | 17=>1 | 18=>4 | 19=>5 | n=>n⟩
theorem Tryz.lays171:Go.Proofs.Lays.n171 ZX Tryz.lays171_ren:={
 mixed:=by kernel_rfl
 f129:=Tryz.func216.trans (congrArg Z (by kernel_rfl))
 f171:=Tryz.func124.trans (congrArg Z (by kernel_rfl))
 f243:=Tryz.func164.trans (congrArg Z (by kernel_rfl))
 f246:=Tryz.func191.trans (congrArg Z (by kernel_rfl))
 f283:=Tryz.func207.trans (congrArg Z (by kernel_rfl))
 f284:=Tryz.func208.trans (congrArg Z (by kernel_rfl))
 f285:=Tryz.func209.trans (congrArg Z (by kernel_rfl))
 f286:=Tryz.func210.trans (congrArg Z (by kernel_rfl))
 f317:=Tryz.func215.trans (congrArg Z (by kernel_rfl))
 f318:=Tryz.func217.trans (congrArg Z (by kernel_rfl))
 f319:=Tryz.func218.trans (congrArg Z (by kernel_rfl))
 f320:=Tryz.func219.trans (congrArg Z (by kernel_rfl))
 f337:=Tryz.func220.trans (congrArg Z (by kernel_rfl))
 f338:=Tryz.func221.trans (congrArg Z (by kernel_rfl))
 t0:=Tryz.underlying0
 a0:=Tryz.isAgg0
 z0:=Tryz.sizeOf0
 v0:=Tryz.zeroValue0
 t2:=Tryz.underlying2
 a2:=Tryz.isAgg2
 z2:=Tryz.sizeOf2
 v2:=Tryz.zeroValue2
 t3:=Tryz.underlying3
 a3:=Tryz.isAgg3
 z3:=Tryz.sizeOf3
 v3:=Tryz.zeroValue3
 t4:=Tryz.underlying4
 a4:=Tryz.isAgg4
 z4:=Tryz.sizeOf4
 v4:=Tryz.zeroValue4
 t5:=Tryz.underlying5
 a5:=Tryz.isAgg5
 z5:=Tryz.sizeOf5
 v5:=Tryz.zeroValue5
 t9:=Tryz.underlying9
 a9:=Tryz.isAgg9
 z9:=Tryz.sizeOf9
 v9:=Tryz.zeroValue9
 t20:=Tryz.underlying20
 a20:=Tryz.isAgg20
 z20:=Tryz.sizeOf20
 v20:=Tryz.zeroValue20
 t37:=Tryz.underlying99
 a37:=Tryz.isAgg99
 z37:=Tryz.sizeOf99
 v37:=Tryz.zeroValue99
 t46:=Tryz.underlying218
 a46:=Tryz.isAgg218
 z46:=Tryz.sizeOf218
 v46:=Tryz.zeroValue218
 t51:=Tryz.underlying229
 a51:=Tryz.isAgg229
 z51:=Tryz.sizeOf229
 v51:=Tryz.zeroValue229
 t53:=Tryz.underlying235
 a53:=Tryz.isAgg235
 z53:=Tryz.sizeOf235
 v53:=Tryz.zeroValue235
 t171:=Tryz.underlying234
 a171:=Tryz.isAgg234
 z171:=Tryz.sizeOf234
 v171:=Tryz.zeroValue234
 t173:=Tryz.underlying238
 a173:=Tryz.isAgg238
 z173:=Tryz.sizeOf238
 v173:=Tryz.zeroValue238
 t212:=Tryz.underlying242
 a212:=Tryz.isAgg242
 z212:=Tryz.sizeOf242
 v212:=Tryz.zeroValue242
 t213:=Tryz.underlying243
 a213:=Tryz.isAgg243
 z213:=Tryz.sizeOf243
 t232:=Tryz.underlying250
 a232:=Tryz.isAgg250
 z232:=Tryz.sizeOf250
 v232:=Tryz.zeroValue250
 t233:=Tryz.underlying251
 a233:=Tryz.isAgg251
 z233:=Tryz.sizeOf251
 v233:=Tryz.zeroValue251
 g17:=by kernel_rfl
 g18:=by kernel_rfl
 g19:=by kernel_rfl }
open Go.RowKit Go.Sort Go.Lib in
theorem Tryz.strconv_Itoa_small (i:Nat) (hi:i < 100) (w:ZY) :
  Calls ZX 124 #[D J i] w fun e w'=>e=.returned (W ⟨(Lib.decDigits i).toArray⟩)/\w'=w:=Any.strconv_Itoa_small Tryz.lays171 i hi w
def Tryz.lays145_ren:Go.Shelf.Ren:=⟨fun | 145=>62 | 220=>110 | 219=>156 | 217=>183 | 225=>184 | 224=>185 | 267=>186 | 266=>202 | 314=>203 | n=>n,fun | 9=>9 | 4=>4 | 59=>107 | 3=>3 | 5=>5 | 46=>218 | 146=>230 | 51=>229 | n=>n,fun | 1=>0 | n=>n⟩
theorem Tryz.lays145:Go.Proofs.Lays.n145 ZX Tryz.lays145_ren:={
 mixed:=by kernel_rfl
 f145:=Tryz.func62.trans (congrArg Z (by kernel_rfl))
 f217:=Tryz.func183.trans (congrArg Z (by kernel_rfl))
 f219:=Tryz.func156.trans (congrArg Z (by kernel_rfl))
 f220:=Tryz.func110.trans (congrArg Z (by kernel_rfl))
 f224:=Tryz.func185.trans (congrArg Z (by kernel_rfl))
 f225:=Tryz.func184.trans (congrArg Z (by kernel_rfl))
 f266:=Tryz.func202.trans (congrArg Z (by kernel_rfl))
 f267:=Tryz.func186.trans (congrArg Z (by kernel_rfl))
 f314:=Tryz.func203.trans (congrArg Z (by kernel_rfl))
 t3:=Tryz.underlying3
 a3:=Tryz.isAgg3
 z3:=Tryz.sizeOf3
 v3:=Tryz.zeroValue3
 t4:=Tryz.underlying4
 a4:=Tryz.isAgg4
 z4:=Tryz.sizeOf4
 v4:=Tryz.zeroValue4
 t5:=Tryz.underlying5
 a5:=Tryz.isAgg5
 z5:=Tryz.sizeOf5
 v5:=Tryz.zeroValue5
 t9:=Tryz.underlying9
 a9:=Tryz.isAgg9
 z9:=Tryz.sizeOf9
 v9:=Tryz.zeroValue9
 t46:=Tryz.underlying218
 a46:=Tryz.isAgg218
 z46:=Tryz.sizeOf218
 v46:=Tryz.zeroValue218
 t51:=Tryz.underlying229
 a51:=Tryz.isAgg229
 z51:=Tryz.sizeOf229
 v51:=Tryz.zeroValue229
 t59:=Tryz.underlying107
 a59:=Tryz.isAgg107
 z59:=Tryz.sizeOf107
 v59:=Tryz.zeroValue107
 t146:=Tryz.underlying230
 a146:=Tryz.isAgg230
 z146:=Tryz.sizeOf230
 v146:=Tryz.zeroValue230
 g1:=by kernel_rfl }
open Go.RowKit Go.Lib in
theorem Tryz.strings_Cut (s sep:ByteArray) (m:Int) (w:ZY) (hs:s.size < 4294967281) (hm:w.cell? ⟨0,0,U⟩=Z (D J m)) :
  Calls ZX 62 #[W s,W sep] w fun e w'=>e=.returned (.tuple #[W ⟨(Lib.cut s.data.toList sep.data.toList).1.toArray⟩,W ⟨(Lib.cut s.data.toList sep.data.toList).2.1.toArray⟩,G (Lib.cut s.data.toList sep.data.toList).2.2])/\∃n,w'=w.drewN n:=Any.strings_Cut Tryz.lays145 s sep m w hs hm
def Tryz.lays146_ren:Go.Shelf.Ren:=⟨fun | 146=>119 | 221=>159 | 268=>188 | 138=>189 | 143=>190 | 195=>204 | 197=>205 | 218=>206 | 219=>156 | 260=>214 | 217=>183 | 225=>184 | 224=>185 | 267=>186 | 266=>202 | 314=>203 | n=>n,fun | 9=>9 | 31=>112 | 3=>3 | 4=>4 | 0=>0 | 105=>232 | 21=>21 | 5=>5 | 46=>218 | 119=>245 | 139=>248 | 138=>247 | 146=>230 | 51=>229 | n=>n,fun | 1=>0 | 3=>2 | 4=>3 | n=>n⟩
theorem Tryz.lays146:Go.Proofs.Lays.n146 ZX Tryz.lays146_ren:={
 mixed:=by kernel_rfl
 f138:=Tryz.func189.trans (congrArg Z (by kernel_rfl))
 f143:=Tryz.func190.trans (congrArg Z (by kernel_rfl))
 f146:=Tryz.func119.trans (congrArg Z (by kernel_rfl))
 f195:=Tryz.func204.trans (congrArg Z (by kernel_rfl))
 f197:=Tryz.func205.trans (congrArg Z (by kernel_rfl))
 f217:=Tryz.func183.trans (congrArg Z (by kernel_rfl))
 f218:=Tryz.func206.trans (congrArg Z (by kernel_rfl))
 f219:=Tryz.func156.trans (congrArg Z (by kernel_rfl))
 f221:=Tryz.func159.trans (congrArg Z (by kernel_rfl))
 f224:=Tryz.func185.trans (congrArg Z (by kernel_rfl))
 f225:=Tryz.func184.trans (congrArg Z (by kernel_rfl))
 f260:=Tryz.func214.trans (congrArg Z (by kernel_rfl))
 f266:=Tryz.func202.trans (congrArg Z (by kernel_rfl))
 f267:=Tryz.func186.trans (congrArg Z (by kernel_rfl))
 f268:=Tryz.func188.trans (congrArg Z (by kernel_rfl))
 f314:=Tryz.func203.trans (congrArg Z (by kernel_rfl))
 t0:=Tryz.underlying0
 a0:=Tryz.isAgg0
 z0:=Tryz.sizeOf0
 v0:=Tryz.zeroValue0
 t3:=Tryz.underlying3
 a3:=Tryz.isAgg3
 z3:=Tryz.sizeOf3
 v3:=Tryz.zeroValue3
 t4:=Tryz.underlying4
 a4:=Tryz.isAgg4
 z4:=Tryz.sizeOf4
 v4:=Tryz.zeroValue4
 t5:=Tryz.underlying5
 a5:=Tryz.isAgg5
 z5:=Tryz.sizeOf5
 v5:=Tryz.zeroValue5
 t9:=Tryz.underlying9
 a9:=Tryz.isAgg9
 z9:=Tryz.sizeOf9
 v9:=Tryz.zeroValue9
 t21:=Tryz.underlying21
 a21:=Tryz.isAgg21
 z21:=Tryz.sizeOf21
 v21:=Tryz.zeroValue21
 t31:=Tryz.underlying112
 a31:=Tryz.isAgg112
 z31:=Tryz.sizeOf112
 v31:=Tryz.zeroValue112
 t46:=Tryz.underlying218
 a46:=Tryz.isAgg218
 z46:=Tryz.sizeOf218
 v46:=Tryz.zeroValue218
 t51:=Tryz.underlying229
 a51:=Tryz.isAgg229
 z51:=Tryz.sizeOf229
 v51:=Tryz.zeroValue229
 t105:=Tryz.underlying232
 a105:=Tryz.isAgg232
 z105:=Tryz.sizeOf232
 v105:=Tryz.zeroValue232
 t119:=Tryz.underlying245
 a119:=Tryz.isAgg245
 z119:=Tryz.sizeOf245
 t138:=Tryz.underlying247
 a138:=Tryz.isAgg247
 z138:=Tryz.sizeOf247
 v138:=Tryz.zeroValue247
 t139:=Tryz.underlying248
 a139:=Tryz.isAgg248
 z139:=Tryz.sizeOf248
 v139:=Tryz.zeroValue248
 t146:=Tryz.underlying230
 a146:=Tryz.isAgg230
 z146:=Tryz.sizeOf230
 v146:=Tryz.zeroValue230
 g1:=by kernel_rfl
 g3:=by kernel_rfl
 g4:=by kernel_rfl }
open Go.RowKit Go.Lib in
theorem Tryz.strings_Split (s sep:ByteArray) (m:Int) (w:ZY) (hs:s.size < 4294967281) (hm:w.cell? ⟨0,0,U⟩=Z (D J m)) (h1:1<=sep.size) :
  Calls ZX 119 #[W s,W sep] w fun e w' =>
   e=.returned (H (Z ⟨w.heap.size,0,U⟩) (Lib.countB s sep+1) (Lib.countB s sep+1))/\w'=w.alloc (.cells ((Lib.splitB sep 0 (Lib.countB s sep) s).map Value.string).toArray 9):=Any.strings_Split Tryz.lays146 (by kernel_rfl) s sep m w hs hm h1
end Go.Proofs
namespace Go.Proofs.YtlmdfmnbcndhoaaGreatDoor
open Go
theorem zFa {d:Nat} (h:d < 10):(UInt8.ofNat (48+d)).toNat=48+d:=by
 rw [UInt8.toNat_ofNat'];omega
theorem zGp (u:Nat):Lib.decDigits u≠[]:=by
 rw [Lib.decDigits];split
 ·simp
 ·simp
theorem zDl (u:Nat):∀b∈Lib.decDigits u,48<=b.toNat/\b.toNat<=57:=by
 induction u using Nat.strongRecOn with
 | _ u ih =>
  intro b hb;rw [Lib.decDigits] at hb;split at hb
  ·rename_i h;simp only [List.mem_singleton] at hb;rw [hb,zFa h];omega
  ·rename_i h;rcases List.mem_append.1 hb with hb | hb
   ·exact ih (u / 10) (by omega) b hb
   ·simp only [List.mem_singleton] at hb;rw [hb,zFa (by omega)];omega
theorem zMB {x:Int}:∀b∈Lib.itoa x,b.toNat=45∨(48<=b.toNat/\b.toNat<=57):=by
 intro b hb;unfold Lib.itoa at hb;split at hb
 ·rcases List.mem_cons.1 hb with rfl | hb
  ·exact .inl (by decide)
  ·exact .inr (zDl _ b hb)
 ·exact .inr (zDl _ b hb)
theorem zMC {x:Int} {b:UInt8} (h:b.toNat≠45/\(b.toNat < 48∨57 < b.toNat)):b ∉ Lib.itoa x:=fun hb=>by
 rcases zMB b hb with h1 | h1<;>omega
theorem zPc {c:UInt8} {r:List UInt8}:∀{h:List UInt8},c ∉ h->Lib.indexByte (h++c :: r) c=(h.length:Int)
 | [],_=>by simp [Lib.indexByte]
 | b :: h,hc=>by
  have h1:c ∉ h:=fun e=>hc (List.mem_cons_of_mem _ e)
  have h2:b≠c:=fun e=>hc (by rw [e];exact List.mem_cons_self ..)
  rw [List.cons_append];unfold Lib.indexByte;rw [zPc h1,qN (by simpa using h2),qN (by simp)];simp
theorem zPd {c:UInt8}:∀{h:List UInt8},c ∉ h->Lib.indexByte h c = -1
 | [],_=>rfl
 | b :: h,hc=>by
  have h1:c ∉ h:=fun e=>hc (List.mem_cons_of_mem _ e)
  have h2:b≠c:=fun e=>hc (by rw [e];exact List.mem_cons_self ..)
  unfold Lib.indexByte;rw [zPd h1,qN (by simpa using h2)];rfl
theorem zPe {h r:List UInt8} {c:UInt8} (hc:c ∉ h):Lib.cut (h++c :: r) [c]=(h,r,Q):=by
 unfold Lib.cut;rw [Lib.index_one,zPc hc,qP (by omega)];simp
theorem zPf {s:List UInt8} {c:UInt8} (hc:c ∉ s):Lib.cut s [c]=(s,[],E):=by
 unfold Lib.cut;rw [Lib.index_one,zPd hc,qN (by omega)]
def bA (l:List UInt8):ByteArray:=⟨l.toArray⟩
theorem zDG (l:List UInt8):(bA l).data.toList=l:=by simp [bA]
theorem zAH (l:List UInt8):(bA l).size=l.length:=by simp [bA,ByteArray.size]
theorem zKl (a b:List UInt8):bA a++bA b=bA (a++b):=by
 apply ByteArray.ext;simp [bA]
theorem zYe (s:ByteArray):bA s.data.toList=s:=by cases s;simp [bA]
structure Tabs (w:ZY):Prop where
 pow : Lib.TabIs ZX w "internal/strconv.uint64pow10" .u64 Lib.pow10Tab
 most:∃m,w.cell? ⟨0,0,U⟩=Z (D J m)
theorem zPg {P:Program} {w w':ZY} {nm:String} {cs:Array Value} (h:w.var? P nm=Z cs) (hb:ZZ w.heap.size w w'):w'.var? P nm=Z cs:=by
 unfold World.var? at h ⊢;obtain ⟨g,hg,h2⟩:=Option.bind_eq_some_iff.1 h;rw [hg];have hlt:g < w.heap.size:=by
  rcases Nat.lt_or_ge g w.heap.size with h3 | h3
  ·exact h3
  ·rw [Array.getElem?_eq_none h3] at h2;cases h2
 show (match w'.heap[g]? with | some (.cells cs _ _)=>Z cs | _=>U)=Z cs;rw [hb.block g hlt];exact h2
theorem Tabs.below {w w':ZY} (h:Tabs w) (hb:ZZ w.heap.size w w'):Tabs w':=by
 obtain ⟨h1,⟨m,h2⟩⟩:=h;exact ⟨zPg h1 hb,⟨m,(hb.cell (World.block_lt_of_cell? w _ h2)).trans h2⟩⟩
theorem zIY (x:Int) (hx:I64 x) (w:ZY) (ht:Tabs w):Calls ZX 124 #[D J x] w fun e w'=>e=.returned (W (bA (Lib.itoa x)))/\ZZ w.heap.size w w':=by
 refine (Tryz.strconv_Itoa x hx.1 hx.2 w ht.pow).mono ?_;rintro e w' ⟨rfl,k,os,rfl⟩;exact ⟨rfl,Lib.below_grow _ _ (O _) _ _⟩
theorem zAr (l:List UInt8):(bA l).toList=l:=by
 rw [Lib.toList_data];exact zDG l
theorem zBt (a b:List UInt8):((bA a).toList==(bA b).toList)=(a==b):=by rw [zAr,zAr]
theorem zAB (a b:List UInt8) (ha:a.length<=100000) (hb:b.length<=100000):∀w,(Op.stringOp .add (bA a) (bA b)).run ZX w=.ok (W (bA (a++b))) w:=fun w=>by
 rw [run_string_add_sum w (bA a) (bA b) (by rw [zAH,zAH];omega),zKl]
theorem zHd {u:Nat} (hu:u < 9223372036854775808):(Lib.decDigits u).length<=21:=by
 have:=Lib.itoa_length_le (u:Int) (by omega) (by omega);unfold Lib.itoa at this;rw [qN (by omega)] at this;simpa using this
theorem zFN {u:Nat} (h:u < 10):Lib.decDigits u=[UInt8.ofNat (48+u)]:=by rw [Lib.decDigits,dif_pos h]
theorem zLu {u:Nat} (h:¬u < 10):Lib.decDigits u=Lib.decDigits (u / 10)++Lib.decDigits (u % 10):=by
 conv=>lhs;rw [Lib.decDigits]
 rw [dif_neg h,zFN (u:=u % 10) (by omega)]
theorem zRM (u:Nat) (h:u < 10) (w:ZY):(convert 99 9 (H (Z ⟨w.heap.size,0,U⟩) 1 1)).run ZX (w.alloc (.cells #[D .u8 (48+(u:Int))] 5))=.ok (W (bA (Lib.decDigits u))) (w.alloc (.cells #[D .u8 (48+(u:Int))] 5)):=by
 rw [zFN h]
 exact run_convert_bytes_back _ _ _ _ ⟨w.heap.size,0,U⟩ 1 [UInt8.ofNat (48+u)] Tryz.underlying99 Tryz.underlying5 Tryz.underlying9 (fun j hj=>by
  have:j=0:=by simpa using hj
  subst this
  rw [Addr.add_lit,World.cell?_alloc_at _ _ _ _ rfl]
  simp
  omega)
theorem zPh (u:Nat):u < 9223372036854775808->∀w:ZY,Calls ZX 127 #[D J (u:Int)] w fun e w'=>e=.returned (W (bA (Lib.decDigits u)))/\ZZ w.heap.size w w':=by
 induction u using Nat.strongRecOn with
 | _ u ih =>
  intro hu w;have i0:decide ((u:Int) < 0)=E:=by simp
  by_cases h:u < 10
  ·have hc:=zRM u h;have i1:(u:Int) < 10:=by omega
   have i2:IntKind.i64.wrap (48+(u:Int))=48+(u:Int):=IntWalk.i64_in _ (by omega);have i3:IntKind.u8.wrap (48+(u:Int))=48+(u:Int):=by unfold IntKind.wrap;simp [IntKind.signed,IntKind.bits];omega
   clear ih;go_enter Tryz.func127,Tryz.ntmps127;go_wp2_with fail
   go_ret;exact ⟨rfl,(M _ _).alloc (O _) _⟩
  ·obtain ⟨a,ha⟩:∃a,a=u / 10:=⟨_,rfl⟩
   obtain ⟨b,hb⟩:∃b,b=u % 10:=⟨_,rfl⟩
   have q1:(u:Int) / 10=(a:Int):=by omega
   have q2:(u:Int) % 10=(b:Int):=by omega
   have i1:decide ((u:Int) < 10)=E:=by simp;omega
   have i5:IntKind.i64.wrap (a:Int)=(a:Int):=IntWalk.i64_in _ (by omega);have i6:IntKind.i64.wrap (b:Int)=(b:Int):=IntWalk.i64_in _ (by omega);have hA:=qH (ih a (by omega) (by omega));have hB:=qH (ih b (by omega) (by omega));have hd:=zLu h;rw [<-ha,<-hb] at hd;have la:=zHd (u:=a) (by omega);have lb:=zHd (u:=b) (by omega);have hs:=zAB (Lib.decDigits a) (Lib.decDigits b) (by omega) (by omega);have HD:=qH hd;clear ih hd ha hb h;go_enter Tryz.func127,Tryz.ntmps127;go_wp2_with fail
   refine (hA.out _).mono ?_;rintro e w1 ⟨rfl,ay⟩;go_wp2_with fail
   refine (hB.out _).mono ?_;rintro e w2 ⟨rfl,ai⟩;have al:=ay.trans (ai.mono ay.size);go_wp2_with fail
   go_ret;exact ⟨by rw [HD.out];rfl,al⟩
theorem zLv (x:Int) (hx:I64 x) (w:ZY):Calls ZX 127 #[D J x] w fun e w'=>e=.returned (W (bA (Lib.itoa x)))/\ZZ w.heap.size w w':=by
 by_cases h:x < 0
 ·have i0:decide (x < 0)=Q:=by simpa using h
  have hi:Lib.itoa x=45 :: Lib.decDigits x.natAbs:=by unfold Lib.itoa;rw [qP h]
  by_cases hm:x = -9223372036854775808
  ·subst hm;have EZ:bA (Lib.itoa (-9223372036854775808))=⟨#[45,57,50,50,51,51,55,50,48,51,54,56,53,52,55,55,53,56,48,56]⟩:=by kernel_rfl
   have i3:wrap64 9223372036854775808 = -9223372036854775808:=by unfold wrap64;omega
   have HI:=qH EZ;clear hi EZ h;go_enter Tryz.func127,Tryz.ntmps127;go_wp2_with fail
   go_ret;exact ⟨by rw [HI.out];rfl,M _ _⟩
  ·obtain ⟨u,hu⟩:∃u:Nat,-x=(u:Int):=⟨x.natAbs,by omega⟩
   have Av:x.natAbs=u:=by omega
   rw [Av] at hi;have hlt:u < 9223372036854775808:=by have:=hx.1;omega
   have hU:=qH (zPh u hlt);have l1:=zHd hlt;have hs:=zAB [45] (Lib.decDigits u) (by simp) (by omega);have i1:IntKind.i64.wrap (u:Int)=(u:Int):=IntWalk.i64_in _ (by omega);have i2:(x==(u:Int))=E:=by simp;omega
   have HI:=qH hi;have hb:bA [45]=⟨#[45]⟩:=rfl;rw [hb] at hs;clear hi hm h Av hb;go_enter Tryz.func127,Tryz.ntmps127;go_wp2_with fail
   refine (hU.out _).mono ?_;rintro e w1 ⟨rfl,ay⟩;go_wp2_with fail
   go_ret;exact ⟨by rw [HI.out];rfl,ay⟩
 ·obtain ⟨u,rfl⟩:∃u:Nat,x=(u:Int):=⟨x.toNat,by omega⟩
  have:=zPh u (by have:=hx.2;omega) w;have hi:Lib.itoa (u:Int)=Lib.decDigits u:=by unfold Lib.itoa;rw [qN h];simp
  rw [hi];exact this
theorem zBm (x:Int) (hx:I64 x) (w:ZY):Calls ZX 78 #[D J x] w fun e w'=>e=.returned (W (bA (Lib.itoa x)))/\ZZ w.heap.size w w':=by
 have HK:=qH (zLv x hx w);go_enter Tryz.func78,Tryz.ntmps78;go_wp2_with fail
 refine HK.out.mono ?_;rintro e w1 ⟨rfl,ay⟩;go_wp2_with fail
 go_ret;exact ⟨rfl,ay⟩
theorem zIv (A:Option Addr) (n c:Nat) (L:List Fg) (re lo:Int) (f:Fg) (w:ZY) (hA:Fgs w A n L) :
  Calls ZX 53 #[.agg #[H A n c,D J re,D J lo],fgV f] w fun e w'=>e=.returned (D J (zAN L f:Int))/\ZZ w.heap.size w w':=by
 have hle:=hA.le;have HL:=qH hA.len;have ah:ZZ w.heap.size w ((w.alloc (.cells #[H A n c,D J re,D J lo] 24)).alloc (.cells #[D J f.p,G f.r,D J f.d] 90)):=((M _ _).alloc (O _) _).alloc (by simp) _;have aq:Blk ((w.alloc (.cells #[H A n c,D J re,D J lo] 24)).alloc (.cells #[D J f.p,G f.r,D J f.d] 90)) (w.heap.size+1) 90 #[D J f.p,G f.r,D J f.d]:=heap_alloc2_new w _ _;have hk0:=(Blk.new w 24 #[H A n c,D J re,D J lo]).alloc (.cells #[D J f.p,G f.r,D J f.d] 90);go_enter Tryz.func53,Tryz.ntmps53;go_wp2_with fail
 generalize (w.alloc (.cells #[H A n c,D J re,D J lo] 24)).alloc (.cells #[D J f.p,G f.r,D J f.d] 90)=ZO at ah hk0 aq ⊢;go_loopw [5] (fun v wr=>∃i:Nat,i<=n/\v=D J i/\ZZ ZO.heap.size ZO wr/\Hid (∀j:Nat,j < i->L[j]?≠Z f)) (fun v _=>n-(intOf v).toNat)
 case atStart=>exact ⟨0,Nat.zero_le _,rfl,M _ _,qH (fun j hj=>by omega)⟩
 case round =>
  obtain ⟨i,hi,rfl,hbr,HS⟩:=hrel;have hkr:=aq.below hbr aq.lt;obtain ⟨e0,e1,e2⟩:=cQ3 hkr;have e3:wr.cell? ⟨w.heap.size,0,U⟩=Z (H A n c):=((hk0.below hbr hk0.lt).cell 0).trans rfl;have hbw:=zAa ah hbr ah.size;by_cases hlt:i < n
  ·obtain ⟨g,o,rfl,hg,⟨x0,x1,x2⟩,_⟩:=(hA.below hbw).at_ hlt;have i0:(0:Int)<=(i:Int):=by omega
   have i1:(i:Int) < (n:Int):=by omega
   have heq:=fun w=>eqFg (fa L i) f w
   have hget:=zMy (L:=L) (i:=i) (by rw [HL.out];exact hlt)
   cases hq:fgB (fa L i) f with
   | true =>
    have hr:=qH (show zAN L f=i+1 from zGZ (by rw [hget,zLm.1 hq]) HS.out);clear HS hget;go_wp2_with fail
    go_quiet (fail)
    go_wp2_with fail
    go_ret;exact ⟨zGD (by rw [hr.out];omega),zAg hbw _⟩
   | false =>
    have cR:=qH (show ∀j:Nat,j < i+1->L[j]?≠Z f from fun j hj=>by
     rcases Nat.decEq j i with e | e
     ·exact HS.out j (by omega)
     ·subst e
      rw [hget]
      intro e2
      injection e2 with e2
      rw [e2,zMx] at hq
      cases hq)
    clear HS hget;go_wp2_with fail
    go_quiet (fail)
    go_wp2_with fail
    go_roundw
    case rel=>exact ⟨i+1,by omega,by go_num,zAg hbr _,cR⟩
    case measure=>simp [intOf];omega
  ·have hr:=qH (show zAN L f=0 from zEW fun j e=>by
    have hj:=(List.getElem?_eq_some_iff.1 e).1
    rw [HL.out] at hj
    exact HS.out j (by omega) e)
   have i1:¬(i:Int) < (n:Int):=by omega
   clear HS;go_wp2_with fail
   go_ret;exact ⟨zGD (by rw [hr.out];rfl),hbw⟩
theorem zPi {L:List Fg} {i:Nat} (hi:i < L.length):zDj L i=Q↔1<=(fa L i).p/\(fa L i).p<=9/\0<=(fa L i).d/\(fa L i).d<=6/\zAN L (fa L i)=i+1:=by
 unfold zDj;rw [Bool.and_eq_true,zAv,decide_eq_true_eq,zKd hi];simp [and_assoc]
theorem zNL (A:Option Addr) (n c:Nat) (L:List Fg) (re lo:Int) (w:ZY) (hA:Fgs w A n L) :
  Calls ZX 18 #[.agg #[H A n c,D J re,D J lo]] w fun e w'=>e=.returned (G (frB L re lo))/\ZZ w.heap.size w w':=by
 have hln:=hA.len;have ah:ZZ w.heap.size w (w.alloc (.cells #[H A n c,D J re,D J lo] 24)):=(M _ _).alloc (O _) _;by_cases hok:L.length<=40/\0<=re/\re<=40/\1<=lo/\lo<=20
 ·have fk:=qH hok;have HL:=qH hln;have qq:n<=40:=by omega
  have i0:¬(40:Int) < (n:Int):=by omega
  have i1:¬re < 0:=by omega
  have i2:¬40 < re:=by omega
  have i3:¬lo < 1:=by omega
  have i4:¬20 < lo:=by omega
  have hk0:Blk (w.alloc (.cells #[H A n c,D J re,D J lo] 24)) w.heap.size 24 #[H A n c,D J re,D J lo]:=Blk.new _ _ _;clear hok hln;go_enter Tryz.func18,Tryz.ntmps18;go_wp2_with fail
  generalize w.alloc (.cells #[H A n c,D J re,D J lo] 24)=ZO at ah hk0 ⊢;go_loopw [3] (fun v wr=>∃i:Nat,i<=n/\v=D J i/\ZZ ZO.heap.size ZO wr/\Hid (∀j:Nat,j < i->zDj L j=Q)) (fun v _=>n-(intOf v).toNat)
  case atStart=>exact ⟨0,Nat.zero_le _,rfl,M _ _,qH (fun j hj=>by omega)⟩
  case round =>
   obtain ⟨i,hi,rfl,hbr,HS⟩:=hrel;have hkr:=hk0.below hbr hk0.lt;have hbw:=zAa ah hbr ah.size;have e0:wr.cell? ⟨w.heap.size,0,U⟩=Z (H A n c):=(hkr.cell 0).trans rfl;by_cases hlt:i < n
   ·obtain ⟨g,o,rfl,hg,⟨x0,x1,x2⟩,_⟩:=(hA.below hbw).at_ hlt;have j0:(0:Int)<=(i:Int):=by omega
    have j1:(i:Int) < (n:Int):=by omega
    have HG:=qH (zPi (L:=L) (i:=i) (by rw [HL.out];exact hlt));have hlen:i < L.length:=by rw [HL.out];exact hlt
    have hix:zAN L (fa L i)<=n:=by have:=zDF (L:=L) (f:=fa L i);rw [HL.out] at this;exact this
    generalize hx:fa L i=x at x0 x1 x2 HG hix;have HX:=qH hx;have aL:=qH hlen;clear hx hlen;have pq:=(hA.below hbw).alloc (.cells #[D J x.p,G x.r,D J x.d] 90);have bh:ZZ ZO.heap.size ZO (wr.alloc (.cells #[D J x.p,G x.r,D J x.d] 90)):=hbr.alloc hbr.size _;have HC:=qH (zIv (Z ⟨g,o,U⟩) n c L re lo x _ pq);have hkf:=hkr.alloc (.cells #[D J x.p,G x.r,D J x.d] 90);obtain ⟨y0,y1,y2⟩:=cQ3 hkf;by_cases hth:1<=x.p/\x.p<=9/\0<=x.d/\x.d<=6
    ·obtain ⟨t1,t2,t3,t4⟩:=hth;have wP:=qH (show 1<=x.p/\x.p<=9/\0<=x.d/\x.d<=6 from ⟨t1,t2,t3,t4⟩);have u1:¬x.p < 1:=by omega
     have u2:¬9 < x.p:=by omega
     have u3:¬x.d < 0:=by omega
     have u4:¬6 < x.d:=by omega
     clear t1 t2 t3 t4;go_wp2_with fail
     refine HC.out.mono ?_;rintro e w5 ⟨rfl,az⟩;have aM:=zAa bh az bh.size;by_cases hi1:zAN L x=i+1
     ·have v0:((zAN L x:Int) != (i:Int)+1)=E:=by simp;omega
      have cR:=qH (show ∀j:Nat,j < i+1->zDj L j=Q from fun j hj=>by
       rcases Nat.decEq j i with e | e
       ·exact HS.out j (by omega)
       ·subst e
        have:=wP.out
        exact HG.out.2 ⟨this.1,this.2.1,this.2.2.1,this.2.2.2,hi1⟩)
      clear HS hi1;go_wp2_with fail
      go_roundw
      case rel=>exact ⟨i+1,by omega,by go_num,aM,cR⟩
      case measure=>simp [intOf];omega
     ·have v0:((zAN L x:Int) != (i:Int)+1)=Q:=by simp;omega
      have hr:=qH (zLt (re:=re) (lo:=lo) (L:=L) (i:=i) aL.out (by
       cases e:zDj L i with
       | false=>rfl
       | true=>exact absurd (HG.out.1 e).2.2.2.2 hi1))
      clear HS hi1;go_wp2_with fail
      go_ret;exact ⟨zBJ (by rw [hr.out]),zAa ah aM ah.size⟩
    ·have hr:=qH (zLt (re:=re) (lo:=lo) (L:=L) (i:=i) aL.out (by
      cases e:zDj L i with
      | false=>rfl
      | true=>have h5:=HG.out.1 e;exact absurd ⟨h5.1,h5.2.1,h5.2.2.1,h5.2.2.2.1⟩ hth))
     go_wp2_with fail
     all_goals first
      | (exfalso;omega)
      | (go_ret;exact ⟨zBJ (by rw [hr.out]),zAa ah bh ah.size⟩)
   ·have hr:=qH (show frB L re lo=Q from zCQ.2 ⟨fk.out.1,fk.out.2.1,fk.out.2.2.1,fk.out.2.2.2.1,fk.out.2.2.2.2,fun j hj=>HS.out j (by rw [HL.out] at hj;omega)⟩);have j1:¬(i:Int) < (n:Int):=by omega
    clear HS;go_wp2_with fail
    go_ret;exact ⟨zBJ (by rw [hr.out]),hbw⟩
 ·have hr:=qH (zTF hok);go_enter Tryz.func18,Tryz.ntmps18;go_wp2_with fail
  all_goals first
   | (exfalso;omega)
   | (go_ret;exact ⟨zBJ (by rw [hr.out]),ah⟩)
