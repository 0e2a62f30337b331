/-
  Lemmas, part 28. Conditions: each theorem's own.
-/
import Derived.Test.YtlmdfmnbcndhoaaGreatDoorRq03
import Derived.Test.YtlmdfmnbcndhoaaGreatDoorRq27
import Derived.Test.YtlmdfmnbcndhoaaGreatDoorRq05
open Go.Value renaming bool→G,int→D,slice→H
open Go.IntKind renaming i64→J
open Option renaming none→U,some→Z
open Bool renaming false→E,true→Q
namespace Go.Proofs.YtlmdfmnbcndhoaaGreatDoor
open Go.RowKit
theorem zQp {p q p' q':Nat→Bool}:∀{n:Nat},(∀i,i < n→(p i=p' i∧q i=q' i)∨(p i=q' i∧q i=p' i))→zAc p n+zAc q n=zAc p' n+zAc q' n
 | 0,_=>rfl
 | n+1,h=>by
  have ih:=zQp (n:=n) (fun i hi=>h i (by omega));have hb:∀(r:Nat→Bool),zAc r (n+1)=zAc r n+(if r n then 1 else 0):=fun r=>by
   cases hr:r n with
   | true=>rw [zAm hr];rfl
   | false=>rw [zAi hr];rfl
  rw [hb p,hb q,hb p',hb q'];rcases h n (by omega) with ⟨e1,e2⟩ | ⟨e1,e2⟩<;>rw [e1,e2]<;>omega
def dnB (L:List Lt) (i:Nat):Bool:=isP (la L i)&&dwn L i
def liN (L:List Lt) (i:Nat):Nat:=if (la L (i+1)).gate < (la L i).gate then i+1 else i
def riN (L:List Lt) (i:Nat):Nat:=if (la L (i+1)).gate < (la L i).gate then i else i+1
structure PosP (K:Int) (L:List Lt):Prop where
 good:Good K L
 flat:zFX L=Q
 arcs:zXf L
 near:∀i,dnB L i=Q→(la L (i+1)).gate-(la L i).gate=1∨(la L i).gate-(la L (i+1)).gate=1
section
variable {K:Int} {L:List Lt}
theorem zCP {i:Nat}:dnB L i=Q↔isP (la L i)=Q∧dwn L i=Q:=by unfold dnB;rw [Bool.and_eq_true]
theorem PosP.up (p:PosP K L) {i:Nat} (h:dnB L i=Q):i+1 < L.length∧isP (la L (i+1))=Q∧dwn L (i+1)=E:=by
 obtain ⟨h1,h2⟩:=zCP.1 h;obtain ⟨h3,h4⟩:=p.arcs i (zBA h1) h1 h2;exact ⟨h3,h4,by rw [zPe h1,h2];rfl⟩
theorem PosP.up_iff (p:PosP K L) {i:Nat} (hi:i+1 < L.length):(isP (la L (i+1))&&!dwn L (i+1))=dnB L i:=by
 cases h:dnB L i with
 | true=>obtain ⟨_,h2,h3⟩:=p.up h;rw [h2,h3];rfl
 | false =>
  cases h2:isP (la L (i+1)) with
  | false=>rfl
  | true =>
   cases h3:dwn L (i+1) with
   | true=>rfl
   | false =>
    obtain ⟨h4,h5⟩:=p.good.below p.arcs i (by omega) h3;rw [zCP.2 ⟨h4,h5⟩] at h;cases h
theorem PosP.ups (p:PosP K L) (q:Nat→Bool):∀m,m+1≤L.length→zAc (fun j=>(isP (la L j)&&!dwn L j)&&q j) (m+1)=zAc (fun i=>dnB L i&&q (i+1)) m
 | 0,_=>by
  have h0:dwn L 0=Q:=by unfold dwn pN zAc;rfl
  exact zAi (by rw [h0];simp)
 | m+1,hm=>by
  have ih:=p.ups q m (by omega);have he:=p.up_iff (i:=m) (by omega);have hb:∀(r:Nat→Bool) (n:Nat),zAc r (n+1)=zAc r n+(if r n then 1 else 0):=fun r n=>by
   cases hr:r n with
   | true=>rw [zAm hr];rfl
   | false=>rw [zAi hr];rfl
  rw [hb _ (m+1),ih,hb _ m,he]
theorem PosP.ends (p:PosP K L) (q:Nat→Bool):zAc (fun j=>isP (la L j)&&q j) L.length=zAc (fun i=>dnB L i&&q (liN L i)) L.length+zAc (fun i=>dnB L i&&q (riN L i)) L.length:=by
 have hpos:0 < L.length:=p.good.pos;obtain ⟨n,hn⟩:∃n,L.length=n+1:=⟨L.length-1,by omega⟩
 have h1:zAc (fun j=>isP (la L j)&&q j) L.length=zAc (fun j=>dnB L j&&q j) L.length+zAc (fun j=>(isP (la L j)&&!dwn L j)&&q j) L.length:=by
  refine zKf (fun j _=>?_) (fun j _ h=>?_)
  ·unfold dnB
   cases isP (la L j)<;>cases dwn L j<;>cases q j<;>rfl
  ·unfold dnB at h
   revert h
   cases isP (la L j)<;>cases dwn L j<;>cases q j<;>simp
 have h2:zAc (fun j=>(isP (la L j)&&!dwn L j)&&q j) L.length=zAc (fun i=>dnB L i&&q (i+1)) L.length:=by
  have hl:(dnB L n&&q (n+1))=E:=by
   cases h:dnB L n with
   | false=>rfl
   | true=>have:=(p.up h).1;omega
  rw [hn,p.ups q n (by omega),zAi (p:=fun i=>dnB L i&&q (i+1)) hl]
 rw [h1,h2];refine zQp fun i _=>?_
 unfold liN riN;split
 ·right;exact ⟨rfl,rfl⟩
 ·left;exact ⟨rfl,rfl⟩
theorem zUQ (i:Nat):zBL L i=la L (liN L i):=by unfold zBL liN;split<;>rfl
theorem zUR (i:Nat):zUO L i=(la L (riN L i)).gate:=by
 unfold zUO riN;by_cases h:(la L (i+1)).gate < (la L i).gate
 ·rw [if_pos h,if_neg (by omega)]
 ·rw [if_neg h,if_pos (by omega)]
theorem PosP.gates (p:PosP K L) {i:Nat} (h:dnB L i=Q):(la L (riN L i)).gate=(la L (liN L i)).gate+1∧isP (la L (liN L i))=Q∧isP (la L (riN L i))=Q:=by
 have h1:=p.near i h;have h2:=(p.up h).2.1;have h3:=(zCP.1 h).1;unfold liN riN;split
 ·exact ⟨by omega,h2,h3⟩
 ·exact ⟨by omega,h3,h2⟩
theorem PosP.li_inj (p:PosP K L) {a b:Nat} (ha:dnB L a=Q) (hb:dnB L b=Q) (x y:Nat) (hx:x=liN L a∨x=riN L a) (hy:y=liN L b∨y=riN L b) (e:x=y):a=b:=by
 have h1:=(p.up ha).2.2;have h2:=(p.up hb).2.2;have h3:=(zCP.1 ha).2;have h4:=(zCP.1 hb).2;have hxa:x=a∨x=a+1:=by
  unfold liN riN at hx;split at hx<;>rcases hx with h | h<;>simp [h]
 have hyb:y=b∨y=b+1:=by
  unfold liN riN at hy;split at hy<;>rcases hy with h | h<;>simp [h]
 subst e;rcases hxa with rfl | rfl<;>rcases hyb with h | h
 ·exact h
 ·rw [h,h2] at h3;cases h3
 ·rw [←h,h1] at h4;cases h4
 ·omega
theorem PosP.before (p:PosP K L) {x y:Nat} (hx:isP (la L x)=Q) (hy:isP (la L y)=Q) (h:(la L x).gate < (la L y).gate∨(la L x).gate=(la L y).gate∧(la L x).rank < (la L y).rank):atN L x < atN L y:=by
 have g:=p.good;have hg:∀i,i < L.length→isP (la L i)=Q→0≤(la L i).gate:=fun i hi hp=>(g.gates i hi hp).1
 rw [←zFY hg g.ranks (zBA hx) hx,←zFY hg g.ranks (zBA hy) hy]
 have:=zOR (p:=fun j=>isP (la L j)&&zEI (la L j) (la L x)) (q:=fun j=>isP (la L j)&&zEI (la L j) (la L y)) (n:=L.length) (i:=x) (fun m _ hm=>by
  simp only [Bool.and_eq_true,zCL] at hm ⊢
  exact ⟨hm.1,by omega⟩) (zBA hx) (by simp only [Bool.and_eq_true,zCL];exact ⟨hx,h⟩) (by
  cases hh:(isP (la L x)&&zEI (la L x) (la L x)) with
  | false=>rfl
  | true=>simp only [Bool.and_eq_true,zCL] at hh;omega)
 omega
theorem PosP.rank_ne (p:PosP K L) {x y:Nat} (hx:isP (la L x)=Q) (hy:isP (la L y)=Q) (hne:x≠y) (hg:(la L x).gate=(la L y).gate):(la L x).rank≠(la L y).rank:=by
 rcases Nat.lt_or_ge x y with h | h
 ·exact (zBo.1 (p.good.ranks y (zBA hy)) hy).2 x h hx hg
 ·exact fun e=>(zBo.1 (p.good.ranks x (zBA hx)) hx).2 y (by omega) hy hg.symm e.symm
theorem PosP.cross (p:PosP K L) {a b:Nat} (ha:dnB L a=Q) (hb:dnB L b=Q) (hab:a≠b):¬(atN L (liN L a) < atN L (liN L b)∧atN L (liN L b) < atN L (riN L a)∧atN L (riN L a) < atN L (riN L b)):=by
 obtain ⟨a1,a2⟩:=zCP.1 ha;obtain ⟨b1,b2⟩:=zCP.1 hb;refine p.good.arcs p.flat p.arcs a1 a2 b1 b2 hab ?_ ?_
 ·unfold liN riN;split
  ·right;exact ⟨rfl,rfl⟩
  ·left;exact ⟨rfl,rfl⟩
 ·unfold liN riN;split
  ·right;exact ⟨rfl,rfl⟩
  ·left;exact ⟨rfl,rfl⟩
theorem PosP.beside (p:PosP K L) {a b:Nat} (ha:dnB L a=Q) (hb:dnB L b=Q) (h:(la L (riN L a)).gate=(la L (liN L b)).gate):(la L (riN L a)).rank < (la L (liN L b)).rank:=by
 obtain ⟨g1,g2,g3⟩:=p.gates ha;obtain ⟨k1,k2,k3⟩:=p.gates hb;have hne:a≠b:=fun e=>by subst e;omega
 have hd:riN L a≠liN L b:=fun e=>hne (p.li_inj ha hb _ _ (.inr rfl) (.inl rfl) e)
 have hr:=p.rank_ne g3 k2 hd h;rcases Int.lt_or_gt_of_ne hr with h1 | h1
 ·exact h1
 ·exact absurd ⟨p.before g2 k2 (by omega),p.before k2 g3 (by omega),p.before g3 k3 (by omega)⟩ (p.cross ha hb hne)
theorem PosP.rank_count (p:PosP K L) {x:Nat} (hx:isP (la L x)=Q):(la L x).rank=(zAc (fun j=>isP (la L j)&&((la L j).gate==(la L x).gate&&decide ((la L j).rank≤(la L x).rank))) L.length:Int):=by
 have g:=p.good;have hr:=zBo.1 (g.ranks x (zBA hx)) hx;have hb:∀m,m < L.length→(isP (la L m)&&(la L m).gate==(la L x).gate)=Q→1≤(la L m).rank∧(la L m).rank≤(zAc (fun m=>isP (la L m)&&(la L m).gate==(la L x).gate) L.length:Int):=fun m hm hp=>by
  simp only [Bool.and_eq_true,beq_iff_eq] at hp;have:=(zBo.1 (g.ranks m hm) hp.1).1;rw [hp.2] at this;exact this
 have hd:∀i j,i < L.length→j < L.length→(isP (la L i)&&(la L i).gate==(la L x).gate)=Q→(isP (la L j)&&(la L j).gate==(la L x).gate)=Q→(la L i).rank=(la L j).rank→i=j:=fun i j hi hj hp hq e=>by
  simp only [Bool.and_eq_true,beq_iff_eq] at hp hq;by_cases h:i=j
  ·exact h
  ·exact absurd e (p.rank_ne hp.1 hq.1 h (hp.2.trans hq.2.symm))
 have hlow:=zTl hb hd (la L x).rank.toNat (by have:=hr.1;unfold gN at this;omega);rw [zCf (q:=fun m=>(isP (la L m)&&(la L m).gate==(la L x).gate)&&decide ((la L m).rank≤(((la L x).rank.toNat:Nat):Int)))]
 ·rw [hlow];have:=hr.1;omega
 ·intro m _;rw [Bool.and_assoc]
  congr 2
  have:=hr.1;rw [show (((la L x).rank.toNat:Nat):Int)=(la L x).rank by omega]
def nuN (L:List Lt) (i:Nat):Nat:=zAc (fun a=>dnB L a&&((la L (riN L a)).gate==(la L (riN L i)).gate&&decide ((la L (liN L a)).rank≤(la L (liN L i)).rank))) L.length
theorem zWv (g:Int):lpC L g L.length=zAc (fun a=>dnB L a&&(la L (riN L a)).gate==g) L.length:=by
 unfold lpC;refine zCf fun a _=>?_
 rw [zUR];rfl
theorem PosP.left_rank (p:PosP K L) {i:Nat} (h:dnB L i=Q):(la L (liN L i)).rank=(lpC L (la L (liN L i)).gate L.length:Int)+(nuN L i:Int):=by
 obtain ⟨g1,g2,g3⟩:=p.gates h;rw [p.rank_count g2,p.ends];have e1:zAc (fun a=>dnB L a&&((la L (liN L a)).gate==(la L (liN L i)).gate&&decide ((la L (liN L a)).rank≤(la L (liN L i)).rank))) L.length=nuN L i:=by
  unfold nuN;refine zCf fun a _=>?_
  cases ha:dnB L a with
  | false=>rfl
  | true =>
   have:=(p.gates ha).1;have e:((la L (liN L a)).gate==(la L (liN L i)).gate)=((la L (riN L a)).gate==(la L (riN L i)).gate):=by rw [this,g1,Bool.eq_iff_iff];simp
   rw [e]
 have e2:zAc (fun a=>dnB L a&&((la L (riN L a)).gate==(la L (liN L i)).gate&&decide ((la L (riN L a)).rank≤(la L (liN L i)).rank))) L.length=lpC L (la L (liN L i)).gate L.length:=by
  rw [zWv];refine zCf fun a _=>?_
  cases ha:dnB L a with
  | false=>rfl
  | true =>
   cases he:((la L (riN L a)).gate==(la L (liN L i)).gate) with
   | false=>rfl
   | true =>
    have:=p.beside ha h (by simpa using he);simp;omega
 rw [e1,e2];omega
end
structure It where
 fg:Option Fg
 n:Int
 b:Bool
def okI (t:It):Prop:=(∀f,t.fg=Z f→zAx f=Q)∧1≤t.n∧t.n≤999999999
def itW (t:It):List UInt8:=match t.fg with
 | some f=>zAq f++46 :: Lib.itoa t.n++[if t.b then 62 else 60]
 | none=>Lib.itoa t.n++[if t.b then 111 else 117]
def btI (L:List Fg) (t:It):Bi:=match t.fg with
 | some f=>⟨if zBa L f=0 then -1 else (zBa L f:Int),t.n,t.b⟩
 | none=>⟨0,t.n,t.b⟩
def zOv (L:List Fg) (t:It):Bool:=match t.fg with
 | some f=>zBF L f
 | none=>E
theorem zQq (f:Fg):(46:UInt8) ∉ zAq f:=fun hb=>by
 unfold zAq at hb;have h1:∀x:Int,(46:UInt8) ∉ Lib.itoa x:=fun x=>zMQ (by decide)
 rcases List.mem_append.1 hb with h | h
 ·split at h
  ·simp at h
  ·exact h1 _ h
 ·rcases List.mem_cons.1 h with h | h
  ·split at h<;>cases h
  ·exact h1 _ h
theorem zKQ (A:List UInt8) (c:UInt8):zHj (A++[c])=Lib.cut A [46]:=by unfold zHj;rw [List.dropLast_concat]
theorem zEt (A:List UInt8) (c d:UInt8):zBZ (A++[c]) d=decide (c=d):=by unfold zBZ;simp
theorem zNl (L:List Fg) {t:It} (h:okI t):zNj L (itW t)=btI L t∧zOq (itW t)=E∧zTu (itW t)=t.fg.isNone∧zUL L (itW t)=zOv L t:=by
 obtain ⟨fg,n,b⟩:=t;obtain ⟨h1,h2,h3⟩:=h;have hc:=zIJ h2 h3;simp only at hc h1
 cases fg with
 | none =>
  have hcut:zHj (Lib.itoa n++[if b then 111 else 117])=(Lib.itoa n,[],E):=by rw [zKQ];exact zPw (zMQ (by decide))
  simp only [itW,btI,zOv];unfold zNj zOq zTu zUL;rw [hcut];simp only [List.dropLast_concat,hc,zEt]
  cases b<;>exact ⟨rfl,rfl,rfl,rfl⟩
 | some f =>
  have hf:=h1 f rfl;have hcut:zHj (zAq f++46 :: Lib.itoa n++[if b then 62 else 60])=(zAq f,Lib.itoa n,Q):=by rw [zKQ];exact zPv (zQq f)
  have hp:=zFp hf rfl;simp only [itW,btI,zOv];unfold zNj zOq zTu zUL zEy zKD zEQ;rw [hcut];simp only [hp,hc,zEt]
  cases b<;>exact ⟨rfl,rfl,rfl,rfl⟩
theorem zGy {x:List UInt8} {c:UInt8} (h:zBZ x c=Q):x=x.dropLast++[c]:=by
 unfold zBZ at h;rw [decide_eq_true_eq] at h;obtain ⟨C,rfl⟩:=List.getLast?_eq_some_iff.1 h;rw [List.dropLast_concat]
theorem zUS {S:List UInt8} {c:UInt8} (h:(Lib.cut S [c]).2.2=Q):S=(Lib.cut S [c]).1++c :: (Lib.cut S [c]).2.1∧c ∉ (Lib.cut S [c]).1:=by
 by_cases hc:c∈S
 ·obtain ⟨a,r,rfl,ha⟩:=zJJ hc;rw [zPv ha];exact ⟨rfl,ha⟩
 ·rw [zPw hc] at h;cases h
theorem zQr {x:List UInt8} (h:zOq x=E):∃t,okI t∧x=itW t:=by
 unfold zOq at h
 cases hc:(zHj x).2.2 with
 | true =>
  rw [hc,if_pos rfl] at h;simp only [Bool.or_eq_false_iff,Bool.not_eq_false',Bool.or_eq_true] at h;obtain ⟨⟨h1,h2⟩,h3⟩:=h;obtain ⟨v,hv⟩:∃v,zAu (zHj x).2.1=(v,Q):=⟨(zAu (zHj x).2.1).1,by rw [←h3]⟩
  obtain ⟨e1,e2,e3⟩:=zDt hv;obtain ⟨f,hf⟩:∃f,zIH (zHj x).1=Z f:=by
   unfold zKD at h1
   cases hp:zIH (zHj x).1 with
   | none=>rw [hp] at h1;cases h1
   | some f=>exact ⟨f,rfl⟩
  obtain ⟨k1,k2⟩:=zLP hf;have hx:=(zUS hc).1;rw [show (Lib.cut x.dropLast [46]).1=(zHj x).1 from rfl,show (Lib.cut x.dropLast [46]).2.1=(zHj x).2.1 from rfl,←k2,e1] at hx;refine ⟨⟨Z f,v,zBZ x 62⟩,⟨fun g hg=>(by injection hg with hg;subst hg;exact k1),e2,e3⟩,?_⟩;simp only [itW];rcases h2 with h2 | h2
  ·rw [h2,if_pos rfl,←hx];exact zGy h2
  ·have hne:zBZ x 62=E:=by
    have:=zGy h2;rw [this,zEt];rfl
   rw [hne,←hx];exact zGy h2
 | false =>
  rw [hc,if_neg (by simp)] at h;simp only [Bool.or_eq_false_iff,Bool.not_eq_false',Bool.or_eq_true] at h;obtain ⟨h2,h3⟩:=h;obtain ⟨v,hv⟩:∃v,zAu x.dropLast=(v,Q):=⟨(zAu x.dropLast).1,by rw [←h3]⟩
  obtain ⟨e1,e2,e3⟩:=zDt hv;refine ⟨⟨U,v,zBZ x 111⟩,⟨fun g hg=>(by cases hg),e2,e3⟩,?_⟩;simp only [itW];rcases h2 with h2 | h2
  ·rw [h2,if_pos rfl,←e1];exact zGy h2
  ·have hne:zBZ x 111=E:=by
    have:=zGy h2;rw [this,zEt];rfl
   rw [hne,←e1];exact zGy h2
theorem zQs (L:List Fg) {T:List It} (h:∀t∈T,okI t):(T.map itW).map (zNj L)=T.map (btI L)∧zGt L (T.map itW)=T.any (zOv L)∧zEW (T.map itW)=(match T.head? with | some t=>t.fg.isNone | none=>E):=by
 refine ⟨?_,?_,?_⟩
 ·rw [List.map_map];exact List.map_congr_left fun t ht=>(zNl L (h t ht)).1
 ·unfold zGt;rw [List.any_map]
  induction T with
  | nil=>rfl
  | cons t T ih =>
   rw [List.any_cons,List.any_cons,ih fun t ht=>h t (List.mem_cons_of_mem _ ht)];simp only [Function.comp];rw [(zNl L (h t (List.mem_cons_self ..))).2.2.2]
 ·have h1:(T.map itW).any zOq=E:=by
   rw [List.any_eq_false];intro x hx;obtain ⟨t,ht,rfl⟩:=List.mem_map.1 hx;rw [(zNl L (h t ht)).2.1];simp
  unfold zEW;rw [h1,Bool.false_or]
  cases T with
  | nil=>rfl
  | cons t T=>exact (zNl L (h t (List.mem_cons_self ..))).2.2.1
theorem zOw {ZR:List (List UInt8)} (h:zEW ZR=E):∃T:List It,(∀t∈T,okI t)∧ZR=T.map itW:=by
 unfold zEW at h;rw [Bool.or_eq_false_iff] at h;have h1:=h.1;clear h
 induction ZR with
 | nil=>exact ⟨[],by simp,rfl⟩
 | cons x ZR ih =>
  rw [List.any_cons,Bool.or_eq_false_iff] at h1;obtain ⟨t,ht,rfl⟩:=zQr h1.1;obtain ⟨T,hT,rfl⟩:=ih h1.2
  exact ⟨t :: T,fun s hs=>by
   rcases List.mem_cons.1 hs with rfl | hs
   ·exact ht
   ·exact hT s hs,rfl⟩
theorem zSl (t:It):(32:UInt8) ∉ itW t:=fun hb=>by
 obtain ⟨fg,n,b⟩:=t;have h1:=(zFs n).no32
 cases fg with
 | none =>
  simp only [itW] at hb;rcases List.mem_append.1 hb with h | h
  ·exact h1 h
  ·cases b<;>simp at h
 | some f =>
  simp only [itW] at hb;rcases List.mem_append.1 hb with h | h
  ·rcases List.mem_append.1 h with h | h
   ·exact (zDf f).no32 h
   ·rcases List.mem_cons.1 h with h | h
    ·cases h
    ·exact h1 h
  ·cases b<;>simp at h
theorem zOx {T:List It} (h:T≠[]):zBx 32 (Lib.join (T.map itW) [32])=T.map itW :=
 zHH (by simpa using h) fun p hp=>by
  obtain ⟨t,_,rfl⟩:=List.mem_map.1 hp;exact zSl t
def Dia (w:World) (p:Nat) (K:Int) (A:Option Addr) (n c:Nat) (v2 v3 v4 v5 v6:Value):Prop:=Blk w p 148 #[D J K,H A n c,v2,v3,v4,v5,v6]
section
variable {w w':World} {p:Nat} {K:Int} {A:Option Addr} {n c:Nat} {v2 v3 v4 v5 v6:Value}
theorem Dia.c0 (h:Dia w p K A n c v2 v3 v4 v5 v6):w.cell? ⟨p,0,U⟩=Z (D J K):=by rw [Blk.cell h];rfl
theorem Dia.c1 (h:Dia w p K A n c v2 v3 v4 v5 v6):w.cell? ⟨p,1,U⟩=Z (H A n c):=by rw [Blk.cell h];rfl
theorem Dia.c2 (h:Dia w p K A n c v2 v3 v4 v5 v6):w.cell? ⟨p,2,U⟩=Z v2:=by rw [Blk.cell h];rfl
theorem Dia.c3 (h:Dia w p K A n c v2 v3 v4 v5 v6):w.cell? ⟨p,3,U⟩=Z v3:=by rw [Blk.cell h];rfl
theorem Dia.c4 (h:Dia w p K A n c v2 v3 v4 v5 v6):w.cell? ⟨p,4,U⟩=Z v4:=by rw [Blk.cell h];rfl
theorem Dia.c5 (h:Dia w p K A n c v2 v3 v4 v5 v6):w.cell? ⟨p,5,U⟩=Z v5:=by rw [Blk.cell h];rfl
theorem Dia.c6 (h:Dia w p K A n c v2 v3 v4 v5 v6):w.cell? ⟨p,6,U⟩=Z v6:=by rw [Blk.cell h];rfl
theorem Dia.lt (h:Dia w p K A n c v2 v3 v4 v5 v6):p < w.heap.size:=Blk.lt h
theorem Dia.below {B:Nat} (h:Dia w p K A n c v2 v3 v4 v5 v6) (hb:Below B w w') (hB:p < B):Dia w' p K A n c v2 v3 v4 v5 v6:=Blk.below h hb hB
theorem Dia.next (h:Dia w p K A n c v2 v3 v4 v5 v6) (hb:Below w.heap.size w w'):Dia w' p K A n c v2 v3 v4 v5 v6:=Blk.below h hb h.lt
theorem Dia.frozen (h:Dia w p K A n c v2 v3 v4 v5 v6) (i:Nat):w.frozen? ⟨p,i,U⟩=E:=Blk.frozen h i
end
set_option maxRecDepth 100000 in
set_option maxHeartbeats 1600000 in
theorem zGJ (l:Lt) (b p:Nat) (K:Int) (w:World) (hb:w.cell? ⟨b,0,U⟩=Z (.pointer (Z ⟨p,0,U⟩))) (hp:w.cell? ⟨p,0,U⟩=Z (D J K)) :
  Calls Tryz.prog 198 #[ltV l,.pointer (Z ⟨b,0,U⟩)] w fun e w'=>e=.returned (G (!lpB K l))∧Below w.heap.size w w':=by
 have hbb:=(Below.refl w.heap.size w).alloc (Nat.le_refl _) (.cells #[D J l.kind,D J l.gate,D J l.rank,D J l.id,D J l.sign,G l.over] 76);have hblt:=World.block_lt_of_cell? w _ hb;have hplt:=World.block_lt_of_cell? w _ hp;have sn:=(hbb.cell (p:=⟨b,0,U⟩) hblt).trans hb;have gI:=(hbb.cell (p:=⟨p,0,U⟩) hplt).trans hp;unfold ltV
 cases k1:(l.kind==1) with
 | true =>
  cases q1:decide (l.gate < 0) with
  | true =>
   have xt:l.gate < 0:=by simpa using q1
   have hf:=qH (show (!lpB K l)=Q by unfold lpB;rw [if_pos (show l.kind=1 by simpa using k1)];simp at q1;simp;omega);go_enter Tryz.func198,Tryz.ntmps198;go_wp2_with fail
   go_quiet (fail)
   go_wp2_with fail
   go_ret;exact ⟨zAj hf.out.symm,zAf ((Below.refl _ _).alloc (Nat.le_refl _) _) _⟩
  | false =>
   cases q2:decide (K < l.gate) with
   | true =>
    have xq:K < l.gate:=by simpa using q2
    have hf:=qH (show (!lpB K l)=Q by unfold lpB;rw [if_pos (show l.kind=1 by simpa using k1)];simp at q2;simp;omega);go_enter Tryz.func198,Tryz.ntmps198;go_wp2_with fail
    go_quiet (fail)
    go_wp2_with fail
    go_ret;exact ⟨zAj hf.out.symm,zAf ((Below.refl _ _).alloc (Nat.le_refl _) _) _⟩
   | false =>
    cases q3:(l.id != 0) with
    | true =>
     have hf:=qH (show (!lpB K l)=Q by unfold lpB;rw [if_pos (show l.kind=1 by simpa using k1)];simp at q3;simp;omega);go_enter Tryz.func198,Tryz.ntmps198;go_wp2_with fail
     go_quiet (fail)
     go_wp2_with fail
     go_ret;exact ⟨zAj hf.out.symm,zAf ((Below.refl _ _).alloc (Nat.le_refl _) _) _⟩
    | false =>
     cases q4:(l.sign != 0) with
     | true =>
      have hf:=qH (show (!lpB K l)=Q by unfold lpB;rw [if_pos (show l.kind=1 by simpa using k1)];simp at q4;simp;omega);go_enter Tryz.func198,Tryz.ntmps198;go_wp2_with fail
      go_quiet (fail)
      go_wp2_with fail
      go_ret;exact ⟨zAj hf.out.symm,zAf ((Below.refl _ _).alloc (Nat.le_refl _) _) _⟩
     | false =>
      cases q5:l.over with
      | true =>
       have hf:=qH (show (!lpB K l)=Q by unfold lpB;rw [if_pos (show l.kind=1 by simpa using k1)];simp [q5]);go_enter Tryz.func198,Tryz.ntmps198;go_wp2_with fail
       go_quiet (fail)
       go_wp2_with fail
       go_ret;exact ⟨zAj hf.out.symm,zAf ((Below.refl _ _).alloc (Nat.le_refl _) _) _⟩
      | false =>
       have hf:=qH (show (!lpB K l)=E by unfold lpB;rw [if_pos (show l.kind=1 by simpa using k1)];simp at q1 q2 q3 q4;simp;exact ⟨by omega,by omega,by omega,by omega,q5⟩);go_enter Tryz.func198,Tryz.ntmps198;go_wp2_with fail
       go_quiet (fail)
       go_wp2_with fail
       go_ret;exact ⟨zAj hf.out.symm,zAf ((Below.refl _ _).alloc (Nat.le_refl _) _) _⟩
 | false =>
  cases k2:(l.kind==2) with
  | true =>
   cases q1:(l.gate != 0) with
   | true =>
    have hf:=qH (show (!lpB K l)=Q by unfold lpB;rw [if_neg (show ¬l.kind=1 by simpa using k1),if_pos (show l.kind=2 by simpa using k2)];simp at q1;simp;omega);go_enter Tryz.func198,Tryz.ntmps198;go_wp2_with fail
    go_ret;exact ⟨zAj hf.out.symm,(Below.refl _ _).alloc (Nat.le_refl _) _⟩
   | false =>
    cases q2:(l.rank != 0) with
    | true =>
     have hf:=qH (show (!lpB K l)=Q by unfold lpB;rw [if_neg (show ¬l.kind=1 by simpa using k1),if_pos (show l.kind=2 by simpa using k2)];simp at q2;simp;omega);go_enter Tryz.func198,Tryz.ntmps198;go_wp2_with fail
     go_ret;exact ⟨zAj hf.out.symm,(Below.refl _ _).alloc (Nat.le_refl _) _⟩
    | false =>
     cases q3:(l.sign != 1) with
     | false =>
      have ux:l.sign=1∨l.sign = -1:=by simp at q3;exact .inl q3
      have Q3:=qH ux;clear ux
      have hf:=qH (show (!lpB K l)=E by unfold lpB;rw [if_neg (show ¬l.kind=1 by simpa using k1),if_pos (show l.kind=2 by simpa using k2)];have ZS:=Q3.out;simp at q1 q2;simp;omega);go_enter Tryz.func198,Tryz.ntmps198;go_wp2_with fail
      go_ret;exact ⟨zAj hf.out.symm,(Below.refl _ _).alloc (Nat.le_refl _) _⟩
     | true =>
      cases q4:(l.sign != -1) with
      | false =>
       have ux:l.sign=1∨l.sign = -1:=by simp at q4;exact .inr q4
       have Q3:=qH ux;clear ux
       have hf:=qH (show (!lpB K l)=E by unfold lpB;rw [if_neg (show ¬l.kind=1 by simpa using k1),if_pos (show l.kind=2 by simpa using k2)];have ZS:=Q3.out;simp at q1 q2;simp;omega);go_enter Tryz.func198,Tryz.ntmps198;go_wp2_with fail
       go_ret;exact ⟨zAj hf.out.symm,(Below.refl _ _).alloc (Nat.le_refl _) _⟩
      | true =>
       have hf:=qH (show (!lpB K l)=Q by unfold lpB;rw [if_neg (show ¬l.kind=1 by simpa using k1),if_pos (show l.kind=2 by simpa using k2)];simp at q3 q4;simp;omega);go_enter Tryz.func198,Tryz.ntmps198;go_wp2_with fail
       go_ret;exact ⟨zAj hf.out.symm,(Below.refl _ _).alloc (Nat.le_refl _) _⟩
  | false =>
   have hf:=qH (show (!lpB K l)=Q by unfold lpB;rw [if_neg (show ¬l.kind=1 by simpa using k1),if_neg (show ¬l.kind=2 by simpa using k2)];rfl);go_enter Tryz.func198,Tryz.ntmps198;go_wp2_with fail
   go_ret;exact ⟨zAj hf.out.symm,(Below.refl _ _).alloc (Nat.le_refl _) _⟩
def zIr (K:Int) (L:List Lt) (i:Nat):Bool:=!lpB K (la L i)
set_option maxHeartbeats 1600000 in
theorem zGz (b p:Nat) (K:Int) (A:Option Addr) (n c:Nat) (L:List Lt) (w:World) (hA:Lets w A n L) (hb:w.cell? ⟨b,0,U⟩=Z (.pointer (Z ⟨p,0,U⟩))) (hp:w.cell? ⟨p,0,U⟩=Z (D J K)) :
  Calls Tryz.prog 211 #[H A n c,.func (.func 198) #[] #[.pointer (Z ⟨b,0,U⟩)]] w fun e w'=>e=.returned (D J (zGA (zIr K L) n))∧Below w.heap.size w w':=by
 have hle:=hA.le;have hblt:=World.block_lt_of_cell? w _ hb;have hplt:=World.block_lt_of_cell? w _ hp;go_enter Tryz.func211,Tryz.ntmps211;go_wp2_with fail
 go_loopw [8] (fun i wr=>∃k:Nat,k≤n∧i=D J k∧Below w.heap.size w wr∧Hid (NoneTo (zIr K L) k)) (fun i _=>n-(intOf i).toNat)
 case atStart=>exact ⟨0,Nat.zero_le _,rfl,Below.refl _ _,NoneTo.zero _⟩
 case round =>
  obtain ⟨k,hk,rfl,hbw,hno⟩:=hrel;by_cases hlt:k < n
  ·obtain ⟨g,o,rfl,hg,hx,hok⟩:=(hA.below hbw).at_ hlt;obtain ⟨h0,h1,h2,h3,h4,h5⟩:=hx;have hbr:=(hbw.cell (p:=⟨b,0,U⟩) hblt).trans hb;have hpr:=(hbw.cell (p:=⟨p,0,U⟩) hplt).trans hp
   cases hq:lpB K (la L k) with
   | true =>
    have hs:=qH (hno.out.succ (show zIr K L k=E by unfold zIr;rw [hq];rfl));have HQ:=qH hq;clear hno hq;go_wp2_with fail
    refine (zGJ (la L k) b p K _ hbr hpr).mono ?_;rintro e w1 ⟨rfl,aj⟩;rw [HQ.out];have r7:=zAa hbw aj hbw.size;go_wp2_with fail
    go_roundw
    case rel=>exact ⟨k+1,by omega,by go_num,r7,hs⟩
    case measure=>simp [intOf];omega
   | false =>
    have hf:=qH (zFW (n:=n) hno.out (show zIr K L k=Q by unfold zIr;rw [hq];rfl) hlt);have HQ:=qH hq;clear hno hq;go_wp2_with fail
    refine (zGJ (la L k) b p K _ hbr hpr).mono ?_;rintro e w1 ⟨rfl,aj⟩;rw [HQ.out];have r7:=zAa hbw aj hbw.size;go_wp2_with fail
    go_ret;exact ⟨zAp hf.out.symm,r7⟩
  ·have hkn:k=n:=by omega
   subst hkn;go_wp2_with fail
   go_ret;exact ⟨zAp (zEH hno.out).symm,hbw⟩
set_option maxHeartbeats 400000 in
theorem zEA (b p:Nat) (K:Int) (A:Option Addr) (n c:Nat) (L:List Lt) (w:World) (hA:Lets w A n L) (hb:w.cell? ⟨b,0,U⟩=Z (.pointer (Z ⟨p,0,U⟩))) (hp:w.cell? ⟨p,0,U⟩=Z (D J K)) :
  Calls Tryz.prog 197 #[H A n c,.func (.func 198) #[] #[.pointer (Z ⟨b,0,U⟩)]] w fun e w'=>e=.returned (G (!zAB K L))∧Below w.heap.size w w':=by
 have HL:=qH hA.len
 have hf:=qH (show decide (0≤zGA (zIr K L) n) = !zAB K L by
  unfold zAB
  rw [HL.out]
  rcases zKe (zIr K L) n with ⟨h,h'⟩ | ⟨k,hk,h,_,hp⟩
  ·rw [h,zAv.2 (fun i hi=>by have:=h' i hi;unfold zIr at this;simpa using this)];rfl
  ·rw [h,zDm hk (by unfold zIr at hp;simpa using hp)];simp)
 go_enter Tryz.func197,Tryz.ntmps197;go_wp2_with fail
 refine (zGz b p K A n c L _ hA hb hp).mono ?_;rintro e w1 ⟨rfl,aj⟩;go_wp2_with fail
 go_ret;exact ⟨zAj hf.out,aj⟩
theorem zDw {x:Bool} (b p:Nat) (K:Int) (A:Option Addr) (n c:Nat) (L:List Lt) (w:World) (hx:zAB K L=x) (hA:Lets w A n L) (hb:w.cell? ⟨b,0,U⟩=Z (.pointer (Z ⟨p,0,U⟩))) (hp:w.cell? ⟨p,0,U⟩=Z (D J K)) :
  Calls Tryz.prog 197 #[H A n c,.func (.func 198) #[] #[.pointer (Z ⟨b,0,U⟩)]] w fun e w'=>e=.returned (G (!x))∧Below w.heap.size w w':=by
 subst hx;exact zEA b p K A n c L w hA hb hp
set_option maxHeartbeats 800000 in
theorem zIh (p:Nat) (K:Int) (A:Option Addr) (n c:Nat) (L:List Lt) (v2 v3 v4 v5 v6:Value) (w:World) (hA:Lets w A n L) (hd:Dia w p K A n c v2 v3 v4 v5 v6) :
  Calls Tryz.prog 175 #[.pointer (Z ⟨p,0,U⟩)] w fun e w'=>e=.returned (G (zAB K L))∧Below w.heap.size w w':=by
 have hbb:=(Below.refl w.heap.size w).alloc (Nat.le_refl _) (.cells #[.pointer (Z ⟨p,0,U⟩)] 143);have hc0:=(hbb.cell (p:=⟨p,0,U⟩) hd.lt).trans hd.c0;have hc1:=(hbb.cell (p:=⟨p,1,U⟩) hd.lt).trans hd.c1;have hbx:(w.alloc (.cells #[.pointer (Z ⟨p,0,U⟩)] 143)).cell? ⟨w.heap.size,0,U⟩=Z (.pointer (Z ⟨p,0,U⟩)):=by rw [World.cell?_alloc_at _ _ _ _ rfl];rfl
 obtain ⟨x,hx⟩:∃x,zAB K L=x:=⟨_,rfl⟩
 have HX:=qH hx;rw [hx];clear hx;go_enter Tryz.func175,Tryz.ntmps175;go_wp2_with fail
 refine (zDw w.heap.size p K A n c L _ HX.out (hA.below hbb) hbx hc0).mono ?_;rintro e w1 ⟨rfl,aj⟩;have ab:=hbb.trans (aj.mono (by simp));go_wp2_with fail
 go_ret;exact ⟨zAj (by simp),ab⟩
set_option maxHeartbeats 800000 in
theorem zIO (p:Nat) (K:Int) (A:Option Addr) (n c:Nat) (L:List Lt) (v2 v3 v4 v5 v6:Value) (w:World) (hA:Lets w A n L) (h0:0 < n) (hd:Dia w p K A n c v2 v3 v4 v5 v6) :
  Calls Tryz.prog 176 #[.pointer (Z ⟨p,0,U⟩)] w fun e w'=>e=.returned (G (isP (la L 0)&&decide (pN L n % 2=0)))∧Below w.heap.size w w':=by
 have hc0:=hd.c0;have hc1:=hd.c1;obtain ⟨g,o,rfl,hg,hx,_⟩:=hA.at_ h0;have hz:=hx.kind;simp only [Nat.zero_mul,Nat.add_zero] at hz;by_cases hk:(la L 0).kind=1
 ·have ag:((la L 0).kind==1)=Q:=by simpa using hk
  have hf:=qH (show (isP (la L 0)&&decide (pN L n % 2=0))=((pN L n:Int) % 2==0) by rw [zGc hk];rw [Bool.eq_iff_iff];simp;omega);clear hk;go_enter Tryz.func176,Tryz.ntmps176;go_wp2_with fail
  refine (zLv K (Z ⟨g,o,U⟩) n c L _ hA).mono ?_;rintro e w1 ⟨rfl,aj⟩;go_wp2_with fail
  go_ret;exact ⟨zAj hf.out.symm,aj⟩
 ·have ag:((la L 0).kind==1)=E:=by simpa using hk
  have hf:=qH (show (isP (la L 0)&&decide (pN L n % 2=0))=E by rw [zGQ hk];rfl);clear hk;go_enter Tryz.func176,Tryz.ntmps176;go_wp2_with fail
  go_ret;exact ⟨zAj hf.out.symm,Below.refl _ _⟩
end Go.Proofs.YtlmdfmnbcndhoaaGreatDoor
