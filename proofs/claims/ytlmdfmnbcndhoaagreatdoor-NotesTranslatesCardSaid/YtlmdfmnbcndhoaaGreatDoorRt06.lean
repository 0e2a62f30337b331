/-
  Lemmas. Conditions: each one's own.
-/
import Derived.Laws.StructEq
import Derived.Laws.ResultCell
import Derived.Test.YtlmdfmnbcndhoaaGreatDoorRt05
open Go.RowKit
set_option maxHeartbeats 6400000
set_option maxRecDepth 100000
open Bool renaming false->E,true->Q
open Option renaming none->U,some->Z
open Nat renaming le_refl->O
open Go renaming World->ZY
open Go.Value renaming bool->G,int->D,slice->H,string->W
open Go.IntKind renaming i64->J
open Go.RowKit renaming Below->ZZ
open Go.Proofs.Tryz renaming prog->ZX
open Go.RowKit.Below renaming refl->M
namespace Go.Proofs.YtlmdfmnbcndhoaaGreatDoor
theorem zPn {p:Nat->Bool} {n:Nat} (h:∀i j,i < n->j < n->p i=Q->p j=Q->i=j):zAe p n<=1:=by
 rcases Nat.eq_zero_or_pos (zAe p n) with h0 | h0
 ·omega
 ·obtain ⟨i,hi,hp⟩:=zUr h0;rw [zIr hi hp (fun m hm hpm=>h m i hm hi hpm hp)];omega
theorem zRP {p:Nat->Bool} {n:Nat} (h:0 < zAe p n):∃i,i < n/\p i=Q/\∀j,j < i->p j=E:=by
 induction n with
 | zero=>simp [zAe] at h
 | succ n ih =>
  by_cases h0:0 < zAe p n
  ·obtain ⟨i,hi,r⟩:=ih h0;exact ⟨i,by omega,r⟩
  ·cases hp:p n with
   | false=>rw [zAG hp] at h;omega
   | true =>
    refine ⟨n,by omega,hp,fun j hj=>?_⟩
    cases hq:p j with
    | false=>rfl
    | true=>have:=zKg hj hq;omega
theorem zPo (n:Nat):zGH (fun _=>1) n=n:=by
 induction n with
 | zero=>rfl
 | succ n ih=>simp only [zGH];rw [ih]
theorem zBs {L:List Lt} {i:Nat}:crB L i=Q↔(isC (la L i)=Q->(1<=(la L i).id/\(la L i).id<=((cN L L.length / 2:Nat):Int))/\∀j,j < i->isC (la L j)=Q->(la L j).id=(la L i).id->(la L j).over≠(la L i).over/\(la L j).sign=(la L i).sign):=by
 unfold crB
 cases h:isC (la L i) with
 | false=>simp
 | true =>
  simp only [Bool.not_true,Bool.false_or,Bool.and_eq_true,decide_eq_true_eq,zAL,forall_const];refine and_congr_right fun _=>forall_congr' fun j=>forall_congr' fun _=>?_
  cases h2:isC (la L j)<;>simp
  by_cases h3:(la L j).id=(la L i).id<;>simp [h3]
theorem zBW {L:List Lt} {i:Nat}:rkB L i=Q↔(isP (la L i)=Q->(1<=(la L i).rank/\(la L i).rank<=(gN L (la L i).gate L.length:Int))/\∀j,j < i->isP (la L j)=Q->(la L j).gate=(la L i).gate->(la L j).rank≠(la L i).rank):=by
 unfold rkB
 cases h:isP (la L i) with
 | false=>simp
 | true =>
  simp only [Bool.not_true,Bool.false_or,Bool.and_eq_true,decide_eq_true_eq,zAL,forall_const];refine and_congr_right fun _=>forall_congr' fun j=>forall_congr' fun _=>?_
  cases h2:isP (la L j)<;>simp [keyB]
  by_cases h3:(la L j).gate=(la L i).gate<;>simp [h3]
theorem zPp {L:List Lt} {n:Nat} (h:∀i,i < n->isC (la L i)=Q->1<=(la L i).id/\(la L i).id<=((cN L L.length / 2:Nat):Int)) :
  cN L n=zGH (fun d=>tN L ((d+1:Nat):Int) n) (cN L L.length / 2):=by
 unfold cN
 rw [zEh (p:=fun i=>isC (la L i)) (c:=fun i=>((la L i).id-1).toNat) (n:=n) (k:=cN L L.length / 2) (by
  intro m hm hc
  have:=h m hm hc
  omega)]
 refine zEg fun d _=>zEY fun m hm=>?_
 cases hc:isC (la L m) with
 | false=>rfl
 | true =>
  have:=h m hm hc;simp only [Bool.true_and];rw [Bool.eq_iff_iff];simp;omega
theorem zEi {L:List Lt} (h:∀i,i < L.length->crB L i=Q) {i j:Nat} (hi:i < L.length) (hj:j < L.length) (hci:isC (la L i)=Q) (hcj:isC (la L j)=Q) (hid:(la L i).id=(la L j).id) (hne:i≠j) :
  (la L i).over≠(la L j).over/\(la L i).sign=(la L j).sign:=by
 rcases Nat.lt_or_gt_of_ne hne with hlt | hlt
 ·exact (zBs.1 (h j hj) hcj).2 i hlt hci hid
 ·have:=(zBs.1 (h i hi) hci).2 j hlt hcj hid.symm;exact ⟨fun e=>this.1 e.symm,this.2.symm⟩
theorem zJd (L:List Lt) (d:Int) (b:Bool) (n:Nat):tN L d n=zAe (fun m=>isC (la L m)&&(la L m).id==d&&(la L m).over==b) n+zAe (fun m=>isC (la L m)&&(la L m).id==d&&(la L m).over != b) n:=by
 unfold tN;refine zOR (fun m _=>?_) (fun m _=>?_)
 ·cases (la L m).over<;>cases b<;>simp
 ·rintro ⟨h1,h2⟩;simp at h1 h2;exact h2.2 h1.2
theorem zJe {L:List Lt} (h:∀i,i < L.length->crB L i=Q) (d:Int) (p:Bool->Bool) (hp:∀a b,p a=Q->p b=Q->a=b):zAe (fun m=>isC (la L m)&&(la L m).id==d&&p (la L m).over) L.length<=1:=by
 refine zPn fun i j hi hj h1 h2=>?_
 simp at h1 h2;rcases Nat.decEq i j with e | e
 ·exact absurd (hp _ _ h1.2 h2.2) (zEi h hi hj h1.1.1 h2.1.1 (by rw [h1.1.2,h2.1.2]) e).1
 ·exact e
theorem zYf {L:List Lt} (h:∀i,i < L.length->crB L i=Q) (d:Int):tN L d L.length<=2:=by
 rw [zJd L d Q];have h1:=zJe h d (fun o=>o==Q) (by simp);have h2:=zJe h d (fun o=>o != Q) (by simp);omega
theorem zPq {L:List Lt} (he:cN L L.length % 2=0) (h:∀i,i < L.length->crB L i=Q) {d:Nat} (hd:d < cN L L.length / 2):tN L ((d+1:Nat):Int) L.length=2:=by
 have hs:=zPp (L:=L) (n:=L.length) (fun i hi hc=>(zBs.1 (h i hi) hc).1);exact zOT (f:=fun d=>tN L ((d+1:Nat):Int) L.length) (c:=2) (fun i _=>zYf h _) (by omega) d hd
theorem zWw {L:List Lt} (h:zBK L=Q):dN L L.length=cN L L.length / 2:=by
 unfold zBK at h;simp only [Bool.and_eq_true,decide_eq_true_eq,zAL] at h;obtain ⟨he,h⟩:=h;unfold dN
 rw [zEh (p:=nwB L) (c:=fun i=>((la L i).id-1).toNat) (n:=L.length) (k:=cN L L.length / 2) (by
  intro m hm hc
  unfold nwB at hc
  simp at hc
  have:=(zBs.1 (h m hm) hc.1).1
  omega)]
 refine Eq.trans (zEg (g:=fun _=>1) fun d hd=>?_) (zPo _);have ht:=zPq he h hd;obtain ⟨i,hi,hp,hno⟩:=zRP (p:=fun i=>isC (la L i)&&(la L i).id==((d+1:Nat):Int)) (n:=L.length) (by unfold tN at ht;omega);simp at hp;refine zIr hi ?_ (fun m hm hpm=>?_)
 ·simp only [Bool.and_eq_true,beq_iff_eq];refine ⟨?_,by omega⟩;unfold nwB;simp only [Bool.and_eq_true,zAL];refine ⟨hp.1,fun j hj=>?_⟩;have:=hno j hj;rw [hp.2];simp only [Bool.not_eq_true'];exact this
 ·simp only [Bool.and_eq_true,beq_iff_eq] at hpm;obtain ⟨hnw,hcl⟩:=hpm;unfold nwB at hnw;simp only [Bool.and_eq_true,zAL] at hnw;have hb:=(zBs.1 (h m hm) hnw.1).1;have hid:(la L m).id=((d+1:Nat):Int):=by omega
  rcases Nat.lt_trichotomy m i with hlt | rfl | hgt
  ·have:=hno m hlt;simp [hnw.1] at this;omega
  ·rfl
  ·have:=hnw.2 i hgt;simp [hp.1] at this;omega
theorem zDo (K:Int) (L:List Lt):(zAE K L&&zCw L&&zBK L)=zIT K L:=by
 rw [Bool.eq_iff_iff];unfold zAE zCw zBK zIT;simp only [Bool.and_eq_true,decide_eq_true_eq,zAL];constructor
 ·rintro ⟨⟨hl,hr⟩,he,hc⟩ i hi;have hli:=hl i hi;unfold lpB at hli;unfold rlB;by_cases h1:(la L i).kind=1
  ·rw [qP h1] at hli ⊢;have hpi:isP (la L i)=Q:=by unfold isP;simp [h1]
   have hri:=zBW.1 (hr i hi) hpi;simp only [decide_eq_true_eq] at hli ⊢;refine ⟨hli.2.2.1,hli.2.2.2.1,hli.2.2.2.2,hli.1,hli.2.1,hri.1.1,hri.1.2,?_⟩;refine zIr hi (by simp [smB]) (fun m hm hs=>?_);simp [smB] at hs;have hpm:isP (la L m)=Q:=by unfold isP;simp [hs.1.1,h1]
   rcases Nat.lt_trichotomy m i with hlt | rfl | hgt
   ·exact absurd hs.2 (hri.2 m hlt hpm hs.1.2)
   ·rfl
   ·exact absurd hs.2.symm ((zBW.1 (hr m hm) hpm).2 i hgt hpi hs.1.2.symm)
  ·rw [qN h1] at hli ⊢;by_cases h2:(la L i).kind=2
   ·rw [qP h2] at hli ⊢;have hci:isC (la L i)=Q:=by unfold isC;simp [h2]
    have hcr:=zBs.1 (hc i hi) hci;simp only [decide_eq_true_eq] at hli ⊢;have ht:tN L (la L i).id L.length=2:=by
     have hd:((la L i).id-1).toNat < cN L L.length / 2:=by omega
     have:=zPq he hc hd
     rwa [show ((((la L i).id-1).toNat+1:Nat):Int)=(la L i).id by omega] at this
    refine ⟨hli.1,hli.2.1,hli.2.2,hcr.1.1,hcr.1.2,?_,ht⟩;have hs:=zJd L (la L i).id (la L i).over L.length;have o1:=zJe hc (la L i).id (fun o=>o==(la L i).over) (by simp);have o2:=zJe hc (la L i).id (fun o=>o != (la L i).over) (by intro a b;cases a<;>cases b<;>cases (la L i).over<;>simp);have he:prN L (la L i) L.length=zAe (fun m=>isC (la L m)&&(la L m).id==(la L i).id&&(la L m).over != (la L i).over) L.length:=by
     refine zEY fun m hm=>?_
     unfold prB;rw [Bool.eq_iff_iff];simp only [Bool.and_eq_true,beq_iff_eq,bne_iff_ne,isC];constructor
     ·rintro ⟨⟨⟨a,b⟩,c⟩,d⟩;exact ⟨⟨a.trans h2,b⟩,d⟩
     ·rintro ⟨⟨a,b⟩,d⟩;refine ⟨⟨⟨a.trans h2.symm,b⟩,?_⟩,d⟩;have hcm:isC (la L m)=Q:=by unfold isC;simp [a]
      exact (zEi hc hm hi hcm hci b (fun e=>d (by rw [e]))).2
    omega
   ·rw [qN h2] at hli;cases hli
 ·intro h;have hl:∀i,i < L.length->lpB K (la L i)=Q:=by
   intro i hi;have:=h i hi;unfold rlB at this;unfold lpB;by_cases h1:(la L i).kind=1
   ·rw [qP h1] at this ⊢;simp only [decide_eq_true_eq] at this ⊢;exact ⟨this.2.2.2.1,this.2.2.2.2.1,this.1,this.2.1,this.2.2.1⟩
   ·rw [qN h1] at this ⊢;by_cases h2:(la L i).kind=2
    ·rw [qP h2] at this ⊢;simp only [decide_eq_true_eq] at this ⊢;exact ⟨this.1,this.2.1,this.2.2.1⟩
    ·rw [qN h2] at this;cases this
  have hcx:∀i,i < L.length->isC (la L i)=Q->(1<=(la L i).id/\(la L i).id<=((cN L L.length / 2:Nat):Int))/\prN L (la L i) L.length=1/\tN L (la L i).id L.length=2:=by
   intro i hi hc;have:=h i hi;unfold isC at hc;simp at hc;unfold rlB at this;rw [qN (by omega),qP hc] at this;simp only [decide_eq_true_eq] at this;exact ⟨⟨this.2.2.2.1,this.2.2.2.2.1⟩,this.2.2.2.2.2.1,this.2.2.2.2.2.2⟩
  refine ⟨⟨hl,fun i hi=>zBW.2 fun hp=>?_⟩,?_,fun i hi=>zBs.2 fun hci=>⟨(hcx i hi hci).1,fun j hj hcj hid=>?_⟩⟩
  ·have hk:(la L i).kind=1:=by unfold isP at hp;simpa using hp
   have:=h i hi;unfold rlB at this;rw [qP hk] at this;simp only [decide_eq_true_eq] at this;refine ⟨⟨this.2.2.2.2.2.1,this.2.2.2.2.2.2.1⟩,fun j hj hpj hg hr=>?_⟩;have hkj:(la L j).kind=1:=by unfold isP at hpj;simpa using hpj
   have:=zOS (p:=fun j=>smB (la L i) (la L j)) (Nat.le_of_eq this.2.2.2.2.2.2.2) (i:=i) (j:=j) hi (by omega) (by simp [smB]) (by simp [smB,hk,hkj,hg,hr]);omega
  ·rw [zPp (fun i hi hc=>(hcx i hi hc).1)];refine zOU fun d _=>?_
   rcases Nat.eq_zero_or_pos (tN L ((d+1:Nat):Int) L.length) with h0 | h0
   ·rw [h0]
   ·obtain ⟨m,hm,hp⟩:=zUr h0;simp at hp;have:=(hcx m hm hp.1).2.2;rw [hp.2] at this;rw [show ((d+1:Nat):Int)=(d:Int)+1 by omega,this]
  ·obtain ⟨_,hpr,ht⟩:=hcx i hi hci;have hs:=zJd L (la L i).id (la L i).over L.length;have hsub:∀m,m < L.length->prB (la L i) (la L m)=Q->(isC (la L m)&&(la L m).id==(la L i).id&&(la L m).over != (la L i).over)=Q:=by
    intro m _ hp;unfold isC at hci;simp [prB] at hp hci;simp [isC,hp.1.1.1,hci,hp.1.1.2,hp.2]
   have hle:=zTC hsub;have h1:=zKg (p:=fun m=>isC (la L m)&&(la L m).id==(la L i).id&&(la L m).over==(la L i).over) hi (by simp [hci]);unfold prN at hpr;have hov:(la L j).over≠(la L i).over:=by
    intro e;have:=zOS (p:=fun m=>isC (la L m)&&(la L m).id==(la L i).id&&(la L m).over==(la L i).over) (n:=L.length) (by omega) (i:=i) (j:=j) hi (by omega) (by simp [hci]) (by simp [hcj,hid,e]);omega
   refine ⟨hov,?_⟩;have:=zUs hsub (by omega) j (by omega) (by simp [hcj,hid,hov]);simp [prB] at this;exact this.1.2
theorem zIA (L:List Lt) (i:Nat) (q:Nat->Bool):∀X:List Nat,(zND L i X).countP q=X.countP q+(if q i then 1 else 0)
 | []=>by simp [zND,List.countP_cons]
 | x :: X=>by
  unfold zND;split
  ·rw [List.countP_cons,List.countP_cons,zIA L i q X];omega
  ·rw [List.countP_cons,List.countP_cons]
theorem zNR (L:List Lt) (q:Nat->Bool) (m:Nat):(zNE L m).countP q=zAe (fun j=>isP (la L j)&&q j) m:=by
 induction m with
 | zero=>rfl
 | succ m ih =>
  unfold zNE zAe
  cases h:isP (la L m) with
  | true=>rw [qP rfl,zIA,ih];simp
  | false=>simp [ih]
theorem zMH (L:List Lt) (i:Nat):∀X:List Nat,(zND L i X).length=X.length+1
 | []=>rfl
 | x :: X=>by unfold zND;split<;>simp [zMH L i X]
theorem zRQ (L:List Lt) (m:Nat):(zNE L m).length=pN L m:=by
 induction m with
 | zero=>rfl
 | succ m ih =>
  unfold zNE pN zAe
  cases h:isP (la L m) with
  | true=>rw [qP rfl,zMH,ih];simp [pN]
  | false=>simp [ih,pN]
theorem zFP (L:List Lt):(axL L).length=pN L L.length:=zRQ L _
theorem zJf (L:List Lt) (i x:Nat):∀X:List Nat,x∈zND L i X↔x=i∨x∈X
 | []=>by simp [zND]
 | y :: X=>by
  unfold zND;split
  ·simp [zJf L i x X];constructor<;>(rintro (h | h | h)<;>simp [h])
  ·simp
theorem zJg (L:List Lt) (x m:Nat):x∈zNE L m↔x < m/\isP (la L x)=Q:=by
 induction m with
 | zero=>simp [zNE]
 | succ m ih =>
  unfold zNE
  cases h:isP (la L m) with
  | true =>
   rw [qP rfl,zJf,ih];constructor
   ·rintro (rfl | ⟨h1,h2⟩)
    ·exact ⟨by omega,h⟩
    ·exact ⟨by omega,h2⟩
   ·rintro ⟨h1,h2⟩;rcases Nat.decEq x m with e | e
    ·exact .inr ⟨by omega,h2⟩
    ·exact .inl e
  | false =>
   simp only [Bool.false_eq_true,if_false];rw [ih];constructor
   ·rintro ⟨h1,h2⟩;exact ⟨by omega,h2⟩
   ·rintro ⟨h1,h2⟩;refine ⟨?_,h2⟩;rcases Nat.decEq x m with e | e
    ·omega
    ·subst e;rw [h] at h2;cases h2
theorem zFd {a b:Lt}:zNC a b=Q↔a.gate < b.gate∨(a.gate=b.gate/\a.rank < b.rank):=by unfold zNC;simp
theorem zPr {L:List Lt} {i:Nat}:∀{X:List Nat},X.Pairwise (fun a b=>zNC (la L a) (la L b)=Q)->(∀x∈X,¬((la L x).gate=(la L i).gate/\(la L x).rank=(la L i).rank))->(zND L i X).Pairwise (fun a b=>zNC (la L a) (la L b)=Q)
 | [],_,_=>by simp [zND]
 | x :: X,h,hne=>by
  rw [List.pairwise_cons] at h;unfold zND;split
  ·rename_i hx;rw [List.pairwise_cons];refine ⟨fun y hy=>?_,zPr h.2 (fun y hy=>hne y (by simp [hy]))⟩;rcases (zJf L i y X).1 hy with rfl | hy
   ·exact hx
   ·exact h.1 y hy
  ·rename_i hx;have hix:zNC (la L i) (la L x)=Q:=by
    have hne':=hne x (by simp);rw [zFd] at hx ⊢;omega
   rw [List.pairwise_cons,List.pairwise_cons];refine ⟨fun y hy=>?_,h⟩;rcases List.mem_cons.1 hy with rfl | hy
   ·exact hix
   ·have:=h.1 y hy;rw [zFd] at this hix ⊢;omega
theorem zLF {L:List Lt} (h:∀i,i < L.length->rkB L i=Q):∀m,m<=L.length->(zNE L m).Pairwise (fun a b=>zNC (la L a) (la L b)=Q)
 | 0,_=>by simp [zNE]
 | m+1,hm=>by
  have ih:=zLF h m (by omega);unfold zNE
  cases hp:isP (la L m) with
  | false=>simpa using ih
  | true =>
   rw [qP rfl];refine zPr ih fun x hx hk=>?_
   rw [zJg] at hx;exact (zBW.1 (h m (by omega)) hp).2 x hx.1 hx.2 hk.1 hk.2
theorem zKA {L:List Lt} {i:Nat}:∀{X:List Nat} {p:Nat},X.Pairwise (fun a b=>zNC (la L a) (la L b)=Q)->X[p]? = Z i->X.countP (fun j=>zNC (la L j) (la L i))=p
 | [],p,_,h=>by simp at h
 | x :: X,0,h,hx=>by
  simp at hx;subst hx
  rw [List.pairwise_cons] at h;rw [List.countP_cons,List.countP_eq_zero.2]
  ·have:zNC (la L x) (la L x)=E:=by
    cases hq:zNC (la L x) (la L x) with
    | false=>rfl
    | true=>rw [zFd] at hq;omega
   rw [this];rfl
  ·intro y hy hq;have:=h.1 y hy;rw [zFd] at this hq;omega
 | x :: X,p+1,h,hx=>by
  simp at hx;rw [List.pairwise_cons] at h;rw [List.countP_cons,zKA h.2 hx,h.1 i (List.mem_of_getElem? hx)];rfl
def fsN (L:List Lt) (g:Nat):Nat:=zGH (fun d=>gN L (d:Int) L.length) g
def atN (L:List Lt) (i:Nat):Nat:=fsN L (la L i).gate.toNat+((la L i).rank.toNat-1)
theorem zNS {L:List Lt} (hg:∀i,i < L.length->isP (la L i)=Q->0<=(la L i).gate) (h:∀i,i < L.length->rkB L i=Q) {i:Nat} (hi:i < L.length) (hp:isP (la L i)=Q) :
  zAe (fun j=>isP (la L j)&&zNC (la L j) (la L i)) L.length=atN L i:=by
 rw [zOR (p:=fun j=>isP (la L j)&&decide ((la L j).gate < (la L i).gate)) (q:=fun j=>(isP (la L j)&&(la L j).gate==(la L i).gate)&&decide ((la L j).rank<=(((la L i).rank.toNat-1:Nat):Int)))]
 ·unfold atN;have hr:=(zBW.1 (h i hi) hp).1
  congr 1
  ·rw [zEh (c:=fun j=>(la L j).gate.toNat) (k:=(la L i).gate.toNat) (by
    intro m hm hq
    simp at hq
    have:=hg m hm hq.1
    omega)]
   refine zEg fun d hd=>zEY fun m hm=>?_
   cases hq:isP (la L m) with
   | false=>rfl
   | true =>
    have:=hg m hm hq;simp only [Bool.true_and];rw [Bool.eq_iff_iff];simp;omega
  ·refine zWn (p:=fun j=>isP (la L j)&&(la L j).gate==(la L i).gate) (f:=fun j=>(la L j).rank) ?_ ?_ _ ?_
   ·intro m hm hq;simp at hq;have:=(zBW.1 (h m hm) hq.1).1;rw [hq.2] at this;exact this
   ·intro a b ha hb hqa hqb e;simp at hqa hqb;rcases Nat.lt_trichotomy a b with hlt | rfl | hgt
    ·exact absurd e ((zBW.1 (h b hb) hqb.1).2 a hlt hqa.1 (by rw [hqa.2,hqb.2]))
    ·rfl
    ·exact absurd e.symm ((zBW.1 (h a ha) hqa.1).2 b hgt hqb.1 (by rw [hqa.2,hqb.2]))
   ·have:(la L i).rank<=((zAe (fun j=>isP (la L j)&&(la L j).gate==(la L i).gate) L.length:Nat):Int):=hr.2;omega
 ·intro m hm;have hr:=(zBW.1 (h i hi) hp).1
  cases hq:isP (la L m) with
  | false=>rfl
  | true =>
   simp only [Bool.true_and];rw [Bool.eq_iff_iff];simp [zNC];omega
 ·rintro m _ ⟨h1,h2⟩;simp at h1 h2;omega
theorem zWx {L:List Lt} (hg:∀i,i < L.length->isP (la L i)=Q->0<=(la L i).gate) (h:∀i,i < L.length->rkB L i=Q) {i:Nat} (hi:i < L.length) (hp:isP (la L i)=Q):(axL L)[atN L i]? = Z i:=by
 have hm:i∈axL L:=(zJg L i _).2 ⟨hi,hp⟩;obtain ⟨p,hlt,he⟩:=List.getElem_of_mem hm;have pW:(axL L)[p]? = Z i:=by rw [List.getElem?_eq_getElem hlt,he]
 have:=zKA (zLF h _ (O _)) pW;rw [zNR,zNS hg h hi hp] at this;rw [this];exact pW
theorem zJh {L:List Lt} (h:∀i,i < L.length->rkB L i=Q):(axL L).Nodup:=by
 refine (zLF h _ (O _)).imp fun hab e=>?_
 subst e;rw [zFd] at hab;omega
theorem zLG {X:List Nat} (hn:X.Nodup) {p v:Nat} (h:X[p]? = Z v):zWo X v=p:=by
 unfold zWo
 induction X generalizing p with
 | nil=>simp at h
 | cons x X ih =>
  rw [List.nodup_cons] at hn;rw [List.findIdx_cons]
  cases p with
  | zero=>simp at h;subst h;simp
  | succ p =>
   simp at h;have:(x==v)=E:=by simpa using (fun e=>hn.1 (by rw [e];exact List.mem_of_getElem? h):¬x=v)
   rw [this,ih hn.2 h];rfl
theorem zUG {s:List Bool} {x y:Nat}:sat (s.set x Q) y=(sat s y||decide (x=y)):=by
 unfold sat;rw [List.getElem?_set];by_cases h:x=y
 ·subst h;by_cases hl:x < s.length
  ·simp [hl]
  ·simp [hl]
 ·simp [h]
def unN (s:List Bool):Nat:=s.countP (fun b=>!b)
theorem zLH:∀{s:List Bool} {x:Nat},sat s x=E->unN (s.set x Q)+1=unN s
 | [],x,h=>by simp [sat] at h
 | b :: s,0,h=>by simp [sat] at h;subst h;simp [unN]
 | b :: s,x+1,h=>by
  have:=zLH (s:=s) (x:=x) (by simpa [sat] using h);unfold unN at this ⊢;simp only [List.set_cons_succ,List.countP_cons];omega
theorem zUH {s:List Bool} {x:Nat} (h:sat s x=E):0 < unN s:=by have:=zLH h;omega
theorem zWy (s:List Bool):unN s<=s.length:=List.countP_le_length
structure Good (K:Int) (L:List Lt):Prop where
 pos:0 < L.length
 first:isP (la L 0)=Q
 even:pN L L.length % 2=0
 gates:∀i,i < L.length->isP (la L i)=Q->0<=(la L i).gate/\(la L i).gate<=K
 ranks:∀i,i < L.length->rkB L i=Q
 cross:∀i,i < L.length->crB L i=Q
 ceven:cN L L.length % 2=0
 kinds:∀i,i < L.length->isP (la L i)=Q∨isC (la L i)=Q
theorem zFe {K:Int} {L:List Lt} (hp:0 < L.length) (h1:isP (la L 0)=Q) (h2:pN L L.length % 2=0) (h3:zAE K L=Q) (h4:zCw L=Q) (h5:zBK L=Q):Good K L:=by
 unfold zAE at h3;unfold zCw at h4;unfold zBK at h5;simp only [Bool.and_eq_true,decide_eq_true_eq,zAL] at h3 h4 h5;refine ⟨hp,h1,h2,fun i hi hp=>?_,h4,h5.2,h5.1,fun i hi=>?_⟩
 ·have:=h3 i hi;unfold lpB at this;unfold isP at hp;rw [qP (by simpa using hp)] at this;simp only [decide_eq_true_eq] at this;exact ⟨this.1,this.2.1⟩
 ·have:=h3 i hi;unfold lpB at this;unfold isP isC;by_cases e1:(la L i).kind=1
  ·left;simp [e1]
  ·by_cases e2:(la L i).kind=2
   ·right;simp [e2]
   ·rw [qN e1,qN e2] at this;cases this
theorem zFf {K:Int} {L:List Lt} (hp:0 < L.length) (h:zBf K L=Q):Good K L:=by
 unfold zBf at h;rw [<-zDo] at h;simp only [Bool.and_eq_true,decide_eq_true_eq] at h;exact zFe hp h.1.1.1 h.1.1.2 h.1.2.1.1 h.1.2.1.2 h.1.2.2
section
variable {K:Int} {L:List Lt}
theorem zWz {i:Nat} (h:L.length<=i):la L i=dl:=by unfold la;rw [List.getElem?_eq_none h];rfl
theorem zKB {i:Nat} (h:isP (la L i)=Q):i < L.length:=by
 rcases Nat.lt_or_ge i L.length with hl | hl
 ·exact hl
 ·rw [zWz hl] at h;cases h
theorem zFg {i:Nat} (h:isC (la L i)=Q):i < L.length:=by
 rcases Nat.lt_or_ge i L.length with hl | hl
 ·exact hl
 ·rw [zWz hl] at h;cases h
theorem Good.nodup (g:Good K L):(axL L).Nodup:=zJh g.ranks
theorem Good.at_ (g:Good K L) {i:Nat} (hp:isP (la L i)=Q):(axL L)[atN L i]? = Z i:=zWx (fun i hi hp=>(g.gates i hi hp).1) g.ranks (zKB hp) hp
theorem Good.idx (g:Good K L) {i:Nat} (hp:isP (la L i)=Q):zWo (axL L) i=atN L i:=zLG g.nodup (g.at_ hp)
theorem Good.at_lt (g:Good K L) {i:Nat} (hp:isP (la L i)=Q):atN L i < (axL L).length:=(List.getElem?_eq_some_iff.1 (g.at_ hp)).1
theorem zHi {j:Nat} (hj:j < (axL L).length):isP (la L (xat (axL L) j))=Q/\xat (axL L) j < L.length:=by
 have h:(axL L)[j]? = Z (axL L)[j]:=List.getElem?_eq_getElem hj;have hm:=(zJg L (axL L)[j] L.length).1 (List.getElem_mem hj);unfold xat;rw [h];exact ⟨hm.2,hm.1⟩
theorem Good.m_pos (g:Good K L):0 < (axL L).length:=by
 have:=g.at_lt g.first;omega
theorem Good.other (g:Good K L) {i:Nat} (hc:isC (la L i)=Q) :
  zKa L i≠i/\isC (la L (zKa L i))=Q/\(la L (zKa L i)).id=(la L i).id/\(la L (zKa L i)).over≠(la L i).over/\(la L (zKa L i)).sign=(la L i).sign/\(∀j,isC (la L j)=Q->(la L j).id=(la L i).id->j≠i->j=zKa L i):=by
 have hi:=zFg hc;have hb:=(zBs.1 (g.cross i hi) hc).1;have ht:=zPq (d:=((la L i).id-1).toNat) g.ceven g.cross (by omega);rw [show ((((la L i).id-1).toNat+1:Nat):Int)=(la L i).id by omega] at ht;have hex:∃j,j < L.length/\j≠i/\isC (la L j)=Q/\(la L j).id=(la L i).id:=by
  rcases Classical.em (∃j,j < L.length/\j≠i/\isC (la L j)=Q/\(la L j).id=(la L i).id) with h | h
  ·exact h
  ·have:tN L (la L i).id L.length=1:=zIr hi (by simp [hc]) (fun m hm hp=>by
    simp at hp
    rcases Nat.decEq m i with e | e
    ·exact absurd ⟨m,hm,e,hp.1,hp.2⟩ h
    ·exact e)
   omega
 have hall:∀j k,isC (la L j)=Q->(la L j).id=(la L i).id->j≠i->isC (la L k)=Q->(la L k).id=(la L i).id->k≠i->j=k:=by
  intro j k hj hji hjn hk hki hkn;rcases Nat.decEq j k with e | e
  ·have a1:=(zEi g.cross (zFg hj) (zFg hk) hj hk (hji.trans hki.symm) e).1;have a2:=(zEi g.cross (zFg hj) hi hj hc hji hjn).1;have a3:=(zEi g.cross (zFg hk) hi hk hc hki hkn).1
   revert a1 a2 a3
   cases (la L j).over<;>cases (la L k).over<;>cases (la L i).over<;>simp
  ·exact e
 have hf:zKa L i≠i/\isC (la L (zKa L i))=Q/\(la L (zKa L i)).id=(la L i).id:=by
  unfold zKa
  cases hq:(List.range L.length).find? (fun j=>j != i&&isC (la L j)&&(la L j).id==(la L i).id) with
  | none =>
   rw [List.find?_eq_none] at hq;obtain ⟨j,hj,h1,h2,h3⟩:=hex;exact absurd (by simp [h1,h2,h3]) (hq j (List.mem_range.2 hj))
  | some j =>
   have:=List.find?_some hq;simp at this;exact ⟨this.1.1,this.1.2,this.2⟩
 have ho:=zEi g.cross (zFg hf.2.1) hi hf.2.1 hc hf.2.2 hf.1;exact ⟨hf.1,hf.2.1,hf.2.2,ho.1,ho.2,fun j hj hji hjn=>hall j _ hj hji hjn hf.2.1 hf.2.2 hf.1⟩
theorem zKC {n i:Nat} {b:Bool} (hi:i < n):zCx n i b < 2*n:=by
 unfold zCx;split
 ·omega
 ·have:=Nat.mod_lt (i+n-1) (show 0 < n by omega);omega
theorem zJi {n d:Nat} (h:d < 2*n):zBU n d < n:=by
 unfold zBU;split
 ·exact Nat.mod_lt _ (by omega)
 ·omega
theorem zPs {d:Nat} (hd:2*L.length<=d) (hm:0 < (axL L).length) (hN:d < zCO L) :
  ∃v b,zCe L (axL L) d=zCx L.length v b/\isP (la L v)=Q/\v < L.length/\((d % 2=0/\v=xat (axL L) (((d-2*L.length) / 2+1) % (axL L).length)/\b = !dwn L v)∨(d % 2=1/\v=xat (axL L) ((d-2*L.length) / 2)/\b=dwn L v)):=by
 unfold zCe;unfold zCO at hN;rw [qP hd];by_cases h0:d % 2=0
 ·rw [qP h0];have hj:=zHi (L:=L) (j:=((d-2*L.length) / 2+1) % (axL L).length) (Nat.mod_lt _ hm);exact ⟨_,_,rfl,hj.1,hj.2,.inl ⟨h0,rfl,rfl⟩⟩
 ·rw [qN h0];have hj:=zHi (L:=L) (j:=(d-2*L.length) / 2) (by omega);exact ⟨_,_,rfl,hj.1,hj.2,.inr ⟨by omega,rfl,rfl⟩⟩
theorem Good.left_cross (_g:Good K L) {d:Nat} (hd:d < 2*L.length) (hc:isC (la L (zBU L.length d))=Q) :
  zCe L (axL L) d=zCx L.length (zKa L (zBU L.length d)) ((d % 2==0)==((la L (zBU L.length d)).over==((la L (zBU L.length d)).sign==1))):=by
 unfold zCe;rw [qN (by omega),qP hc]
theorem Good.left_pass (g:Good K L) {d:Nat} (hd:d < 2*L.length) (hp:isP (la L (zBU L.length d))=Q) :
  zCe L (axL L) d=if dwn L (zBU L.length d)==(d % 2==0) then 2*L.length+2*atN L (zBU L.length d) else 2*L.length+2*((atN L (zBU L.length d)+(axL L).length-1) % (axL L).length)+1:=by
 unfold zCe;rw [qN (by omega),qN (by rw [zOV hp];simp),g.idx hp]
theorem Good.into (g:Good K L) {d:Nat} (hd:d < zCO L):zCe L (axL L) d < zCO L:=by
 rcases Nat.lt_or_ge d (2*L.length) with hl | hl
 ·rcases g.kinds _ (zJi hl) with hp | hc
  ·have ha:=g.at_lt hp;rw [g.left_pass hl hp];unfold zCO;split
   ·omega
   ·have:=Nat.mod_lt (atN L (zBU L.length d)+(axL L).length-1) g.m_pos;omega
  ·rw [g.left_cross hl hc];have:=zKC (b:=(d % 2==0)==((la L (zBU L.length d)).over==((la L (zBU L.length d)).sign==1))) (zFg (g.other hc).2.1);unfold zCO;omega
 ·obtain ⟨v,b,h1,_,h3,_⟩:=zPs hl g.m_pos hd;rw [h1];have:=zKC (b:=b) h3;unfold zCO;omega
end
structure Plc where
 gate:Int
 left:Int
instance : DecidableEq Plc := fun a b =>
 if h:a.gate=b.gate/\a.left=b.left then .isTrue (by cases a;cases b;simp at h;simp [h])
 else .isFalse (fun e=>h (by subst e;simp))
structure Fc where
 above:Bool
 darts:List Int
 places:List Plc
 fingers:List Int
 outer:Bool
instance : DecidableEq Fc := fun a b =>
 if h:a.above=b.above/\a.darts=b.darts/\a.places=b.places/\a.fingers=b.fingers/\a.outer=b.outer then .isTrue (by cases a;cases b;simp at h;simp [h])
 else .isFalse (fun e=>h (by subst e;simp))
section
variable {K:Int} {L:List Lt}
theorem zGJ (L:List Lt) {a b:Nat} (h:a < b):fsN L a+gN L (a:Int) L.length<=fsN L b:=by
 obtain ⟨k,rfl⟩:∃k,b=a+1+k:=⟨b-a-1,by omega⟩
 unfold fsN
 induction k with
 | zero=>exact O _
 | succ k ih=>exact Nat.le_trans (ih (by omega)) (Nat.le_add_right _ _)
theorem Good.rank (g:Good K L) {i:Nat} (hp:isP (la L i)=Q):1<=(la L i).rank/\(la L i).rank<=(gN L (la L i).gate L.length:Int):=(zBW.1 (g.ranks i (zKB hp)) hp).1
end
theorem zCn {α β:Type} (f:α->List β) (k:Nat) (hk:∀a,(f a).length=k):∀L:List α,(L.flatMap f).length=L.length*k
 | []=>by simp
 | a :: L=>by rw [List.flatMap_cons,List.length_append,hk,zCn f k hk L,List.length_cons,Nat.add_mul,Nat.one_mul,Nat.add_comm]
theorem zFQ {α β:Type} (f:α->List β) (k:Nat) (hk:∀a,(f a).length=k):∀(L:List α) (j i:Nat) (x:α),L[j]? = Z x->i < k->(L.flatMap f)[j*k+i]? = (f x)[i]?
 | [],j,_,_,h,_=>by simp at h
 | a :: L,0,i,x,h,hi=>by
  simp only [List.getElem?_cons_zero,Option.some.injEq] at h;subst h;rw [List.flatMap_cons,Nat.zero_mul,Nat.zero_add,List.getElem?_append_left (by rw [hk];exact hi)]
 | a :: L,j+1,i,x,h,hi=>by
  rw [List.getElem?_cons_succ] at h;rw [List.flatMap_cons,List.getElem?_append_right (by rw [hk,Nat.add_mul,Nat.one_mul];omega),hk,show (j+1)*k+i-k=j*k+i by rw [Nat.add_mul,Nat.one_mul];omega];exact zFQ f k hk L j i x h hi
theorem zMI {α β:Type} (f:α->List β) (k:Nat) (hk:∀a,(f a).length=k):∀(L:List α) (j i:Nat) (x x':α) (u:β),L[j]? = Z x->i < k->f x'=(f x).set i u->(L.flatMap f).set (j*k+i) u=(L.set j x').flatMap f
 | [],j,_,_,_,_,h,_,_=>by simp at h
 | a :: L,0,i,x,x',u,h,hi,he=>by
  simp only [List.getElem?_cons_zero,Option.some.injEq] at h;subst h;rw [List.flatMap_cons,Nat.zero_mul,Nat.zero_add,List.set_append_left _ _ (by rw [hk];exact hi),List.set_cons_zero,List.flatMap_cons,he]
 | a :: L,j+1,i,x,x',u,h,hi,he=>by
  rw [List.getElem?_cons_succ] at h;rw [List.flatMap_cons,List.set_append_right _ _ (by rw [hk,Nat.add_mul,Nat.one_mul];omega),hk,show (j+1)*k+i-k=j*k+i by rw [Nat.add_mul,Nat.one_mul];omega,zMI f k hk L j i x x' u h hi he,List.set_cons_succ,List.flatMap_cons]
theorem zJj {α β:Type} (f:α->List β) (k:Nat) (hk:∀a,(f a).length=k) {L:List α} {j i:Nat} {x x':α} {u:β} (h:L[j]? = Z x) (hi:i < k) (he:f x'=(f x).set i u) {q:Nat} (hq:q=j*k+i):(L.flatMap f).set q u=(L.set j x').flatMap f:=by
 subst hq;exact zMI f k hk L j i x x' u h hi he
theorem Row.put {w:ZY} {base size:Nat} {g off n c:Nat} {xs:List Value} (h:Row w base size (Z ⟨g,off,U⟩) n c xs) {q:Nat} (hq:q < n*size) (u:Value):Row (w.setCell ⟨g,off+q,U⟩ u) base size (Z ⟨g,off,U⟩) n c (xs.set q u):=by
 obtain ⟨h1,h2,h3,h4,h5⟩:=h.at_ _ rfl;simp only [] at h4 h5;refine ⟨by simpa using h.len,h.cap,h.nil,fun ad ha=>?_⟩;injection ha with ha
 subst ha;refine ⟨rfl,h2,by simpa [World.setCell] using h3,fun j v hv=>?_,fun j hj=>?_⟩
 ·by_cases e:q=j
  ·subst e;rw [List.getElem?_set_self (by rw [h.len];exact hq)] at hv;injection hv with hv
   subst hv;have hc:=(h5 q (by have:=h.cap;exact Nat.lt_of_lt_of_le hq (Nat.mul_le_mul_right _ this))).1;obtain ⟨v0,BQ⟩:=Option.isSome_iff_exists.1 hc;exact World.cell?_setCell_same _ _ _ BQ
  ·rw [List.getElem?_set_ne e] at hv;rw [World.cell?_setCell_other _ _ _ _ (by intro he;injection he with _ he;simp at he;omega)];exact h4 j v hv
 ·obtain ⟨k1,k2⟩:=h5 j hj;refine ⟨?_,?_⟩
  ·by_cases e:q=j
   ·subst e;obtain ⟨v0,BQ⟩:=Option.isSome_iff_exists.1 k1;rw [World.cell?_setCell_same _ _ _ BQ];rfl
   ·rw [World.cell?_setCell_other _ _ _ _ (by intro he;injection he with _ he;simp at he;omega)];exact k1
  ·rw [World.frozen?_setCell];exact k2
def ltC (l:Lt):List Value:=[D J l.kind,D J l.gate,D J l.rank,D J l.id,D J l.sign,G l.over]
theorem zDJ (l:Lt):(ltC l).length=6:=rfl
structure OwnL (w:ZY) (base:Nat) (A:Option Addr) (n c:Nat) (L:List Lt):Prop where
 row:Row w base 6 A n c (L.flatMap ltC)
 fits:∀x∈L,LtOk x
 le:n<=2932031007402
section
variable {w w':ZY} {base:Nat} {A:Option Addr} {n c:Nat} {L:List Lt}
theorem OwnL.len (h:OwnL w base A n c L):L.length=n:=by
 have:=h.row.len;rw [zCn ltC 6 zDJ] at this;omega
theorem OwnL.lets (h:OwnL w base A n c L):Lets w A n L:=by
 refine ⟨h.len,h.le,h.fits,fun hn=>?_⟩;obtain ⟨g,off,rfl,_,hlt⟩:=h.row.form hn;refine ⟨g,off,rfl,hlt,fun j x hx=>?_⟩;have key:∀i u,i < 6->(ltC x)[i]? = Z u->w.cell? ⟨g,off+(j*6+i),U⟩=Z u:=fun i u hi hu=>h.row.cell (by rw [zFQ ltC 6 zDJ L j i x hx hi];exact hu)
 exact ⟨key 0 _ (by omega) rfl,key 1 _ (by omega) rfl,key 2 _ (by omega) rfl,key 3 _ (by omega) rfl,key 4 _ (by omega) rfl,key 5 _ (by omega) rfl⟩
theorem OwnL.next (h:OwnL w base A n c L) (hb:ZZ w.heap.size w w'):OwnL w' base A n c L:=⟨h.row.below hb,h.fits,h.le⟩
theorem OwnL.alloc (h:OwnL w base A n c L) (o:Obj):OwnL (w.alloc o) base A n c L:=⟨h.row.alloc o,h.fits,h.le⟩
theorem OwnL.nil (w:ZY) (base:Nat):OwnL w base U 0 0 []:=⟨Row.none_ _ _ _,by simp,by omega⟩
theorem OwnL.put {g off:Nat} (h:OwnL w base (Z ⟨g,off,U⟩) n c L) {j i q:Nat} {x x':Lt} {u:Value} (hx:L[j]? = Z x) (hi:i < 6) (he:ltC x'=(ltC x).set i u) (hok:LtOk x') (hq:q=j*6+i) :
  OwnL (w.setCell ⟨g,off+q,U⟩ u) base (Z ⟨g,off,U⟩) n c (L.set j x'):=by
 have hj:j < n:=by rw [<-h.len];exact (List.getElem?_eq_some_iff.1 hx).1
 refine ⟨?_,fun y hy=>?_,h.le⟩
 ·rw [<-zJj ltC 6 zDJ hx hi he hq];exact h.row.put (by omega) u
 ·rcases List.mem_or_eq_of_mem_set hy with hy | rfl
  ·exact h.fits y hy
  ·exact hok
end
theorem OwnL.block {w:ZY} {base g:Nat} {L:List Lt} (h:Blk w g 76 (L.flatMap ltC).toArray) (hb:base<=g) (hf:∀x∈L,LtOk x) (hle:L.length<=2932031007402):OwnL w base (Z ⟨g,0,U⟩) L.length L.length L:=by
 refine ⟨⟨zCn ltC 6 zDJ L,O _,fun e=>(by cases e),fun ad ha=>?_⟩,hf,hle⟩;injection ha with ha
 subst ha;have hc:∀j,w.cell? ⟨g,0+j,U⟩=(L.flatMap ltC)[j]?:=fun j=>by rw [Nat.zero_add,h.cell,List.getElem?_toArray]
 refine ⟨rfl,hb,h.lt,fun j u hu=>by rw [hc,hu],fun j hj=>⟨?_,?_⟩⟩
 ·rw [hc,List.getElem?_eq_getElem (by rw [zCn ltC 6 zDJ];exact hj)];rfl
 ·exact h.frozen _
section
variable {w w':ZY} {base:Nat} {A:Option Addr} {n c:Nat} {ZP:List Plc}
end
theorem zAi {P:Program} {fn:Func} {p:Tmp} {ty:TypeId} {R:Ending->ZY->Prop} {a:Act} {w:ZY} {g:Nat} {t:TypeId} {cs:Array Value} {fr:Nat×Nat} {d:TypeDesc} (h:fn.results=#[.cell p ty])
  (hp:a.tmps.getD p undef=.pointer (Z ⟨g,0,U⟩)) (hg:w.heap[g]? = Z (.cells cs t fr)) (hu:P.underlying ty=Z d) (hd:(match d with | .struct _ | .array _ _=>Q | _=>E)=Q) (hi:(P.info? ty).map (·.size)=Z cs.size)
  (hdf:a.defers=[]) (hR:R (.returned (.agg cs)) w):bodyPost P fn R .ret a w:=bodyPost_ret (results_cell_row h a.tmps w g t cs fr d hp hg hu hd hi) hdf hR
theorem zAF {P:Program} {fn:Func} {p u:Tmp} {ty:TypeId} {R:Ending->ZY->Prop} {a:Act} {w:ZY} {g:Nat} {t:TypeId} {cs:Array Value} {fr:Nat×Nat} {d:TypeDesc} {v:Value} (h:fn.results=#[.cell p ty,.tmp u])
  (hp:a.tmps.getD p undef=.pointer (Z ⟨g,0,U⟩)) (hv:a.tmps.getD u undef=v) (hg:w.heap[g]? = Z (.cells cs t fr)) (hu:P.underlying ty=Z d) (hd:(match d with | .struct _ | .array _ _=>Q | _=>E)=Q) (hi:(P.info? ty).map (·.size)=Z cs.size)
  (hdf:a.defers=[]) (hR:R (.returned (.tuple #[.agg cs,v])) w):bodyPost P fn R .ret a w:=by
 refine bodyPost_ret ?_ hdf hR;rw [results_cell_tmp h,hp,hv];simp [asAddr,run_loadVar_row w g t ty cs fr d hg hu hd hi,Result.andThen]
theorem zUI (K:Int) (w:ZY):(Instr.build 55 #[(0,D J K)]).run ZX w=.ok (.agg #[D J K,H U 0 0]) w:=run_build w _ _ _ (by kernel_rfl)
theorem zUJ (K:Int) (A:Option Addr) (n c:Nat) (w:ZY):(Instr.build 55 #[(0,D J K),(1,H A n c)]).run ZX w=.ok (.agg #[D J K,H A n c]) w:=run_build w _ _ _ (by kernel_rfl)
theorem zWA (K:Int) (A:Option Addr) (n c:Nat) (w:ZY):(Instr.build 148 #[(0,.agg #[D J K,H A n c])]).run ZX w=.ok (.agg #[D J K,H A n c,H U 0 0,H U 0 0,H U 0 0,.map U,H U 0 0]) w:=run_build w _ _ _ (by kernel_rfl)
theorem zMJ:(Tryz.prog.info? 76).map (fun i=>(i.zero,i.size,i.bytes))=Z (Z (.agg #[D J 0,D J 0,D J 0,D J 0,D J 0,G E]),6,48):=by kernel_rfl
theorem zPt (a b:Lt) (w:ZY):(Instr.buildSlice 53 2 #[(0,ltV a),(1,ltV b)]).run ZX w=.ok (H (Z ⟨w.heap.size,0,U⟩) 2 2) (w.alloc (.cells ([a,b].flatMap ltC).toArray 76)):=by
 obtain ⟨i0,hi,cD,bu,cM⟩:=info_parts zMJ;refine run_buildSlice w _ _ 2 _ _ i0 _ Tryz.underlying53 hi cD (by rw [bu];omega) (by rw [bu];omega) ?_;rw [bu]
 kernel_rfl
theorem zCs {x:Int} (h0:0<=x) (h1:x < 10):Lib.itoa x=[UInt8.ofNat (48+x.toNat)]:=by
 obtain ⟨k,rfl⟩:=Int.eq_ofNat_of_zero_le h0;unfold Lib.itoa;rw [qN (by omega)];simp only [Int.toNat_natCast];exact zFN (by omega)
theorem zJk {a b:Nat} (ha:a < 256) (hb:b < 256) (h:UInt8.ofNat a=UInt8.ofNat b):a=b:=by
 have:=congrArg UInt8.toNat h;simp only [UInt8.toNat_ofNat'] at this;omega
theorem zPu {x y:Fg} (hx:zAn x=Q) (hy:zAn y=Q) (h:zAj x=zAj y):x=y:=by
 obtain ⟨a1,a2,a3,a4⟩:=zAv.1 hx;obtain ⟨b1,b2,b3,b4⟩:=zAv.1 hy;obtain ⟨p,r,d⟩:=x;obtain ⟨p',r',d'⟩:=y;simp only at a1 a2 a3 a4 b1 b2 b3 b4;unfold zAj at h;simp only at h;rw [zCs a3 (by omega),zCs b3 (by omega),zCs (x:=p) (by omega) (by omega),zCs (x:=p') (by omega) (by omega)] at h;have hd:∀a b:Int,0<=a->a<=9->0<=b->b<=9->UInt8.ofNat (48+a.toNat)=UInt8.ofNat (48+b.toNat)->a=b:=fun a b h1 h2 h3 h4 e=>by
  have:=zJk (by omega) (by omega) e;omega
 by_cases e1:p=1
 ·by_cases e2:p'=1
  ·rw [qP e1,qP e2] at h;simp only [List.nil_append,List.cons.injEq,and_true] at h;obtain ⟨h1,h2⟩:=h;have hr:r=r':=by cases r<;>cases r'<;>first | rfl | (exfalso;simp at h1)
   rw [e1,e2,hr,hd d d' a3 (by omega) b3 (by omega) h2]
  ·rw [qP e1,qN e2] at h;have:=congrArg List.length h;simp at this
 ·by_cases e2:p'=1
  ·rw [qN e1,qP e2] at h;have:=congrArg List.length h;simp at this
  ·rw [qN e1,qN e2] at h;simp only [List.cons_append,List.nil_append,List.cons.injEq,and_true] at h;obtain ⟨h0,h1,h2⟩:=h;have hr:r=r':=by cases r<;>cases r'<;>first | rfl | (exfalso;simp at h1)
   rw [hd p p' (by omega) (by omega) (by omega) (by omega) h0,hr,hd d d' a3 (by omega) b3 (by omega) h2]
open Classical in
noncomputable def zGs (S:List UInt8):Option Fg:=if h:∃f,zAn f=Q/\zAj f=S then Z h.choose else U
theorem zCA {S:List UInt8} {f:Fg} (h1:zAn f=Q) (h2:zAj f=S):zGs S=Z f:=by
 have h:∃f,zAn f=Q/\zAj f=S:=⟨f,h1,h2⟩
 unfold zGs;rw [dif_pos h]
 congr 1
 exact zPu h.choose_spec.1 h1 (h.choose_spec.2.trans h2.symm)
theorem zKD {S:List UInt8} (h:∀f,zAn f=Q->zAj f≠S):zGs S=U:=by
 unfold zGs;rw [dif_neg (fun ⟨f,h1,h2⟩=>h f h1 h2)]
theorem zLI {S:List UInt8} {f:Fg} (h:zGs S=Z f):zAn f=Q/\zAj f=S:=by
 unfold zGs at h;split at h
 ·rename_i hh;injection h with h
  subst h;exact hh.choose_spec
 ·cases h
theorem Blk.store3 {w:ZY} {g:Nat} {t:TypeId} {v0 v1 v2:Value} (h:Blk w g t #[v0,v1,v2]) (u0 u1 u2:Value) :
  Blk (((w.setCell ⟨g,0,U⟩ u0).setCell ⟨g,1,U⟩ u1).setCell ⟨g,2,U⟩ u2) g t #[u0,u1,u2]:=((h.set_ 0 _).set_ 1 _).set_ 2 _
theorem zCg {a w:ZY} {g B:Nat} (h:ZZ B a w) (hB:B<=g) (u0 u1 u2:Value) :
  ZZ B a (((w.setCell ⟨g,0,U⟩ u0).setCell ⟨g,1,U⟩ u1).setCell ⟨g,2,U⟩ u2) :=
 ((h.setCell (p:=⟨g,0,U⟩) hB _).setCell (p:=⟨g,1,U⟩) hB _).setCell (p:=⟨g,2,U⟩) hB _
theorem zUK {x:Fg} {S:List UInt8} (h:zAj x=S) (hx:zAn x=Q) (w:ZY):Calls ZX 154 #[fgV x] w fun e w'=>e=.returned (W (bA S))/\ZZ w.heap.size w w':=by
 subst h;exact zKn x hx w
theorem zXR (p:Int) (r:Bool) (d:Int) (w:ZY):(Instr.build 90 #[(0,D J p),(1,G r),(2,D J d)]).run ZX w=.ok (fgV ⟨p,r,d⟩) w:=run_build w _ _ _ (by kernel_rfl)
theorem zWB (w:ZY):(Instr.build 90 #[]).run ZX w=.ok (.agg #[D J 0,G E,D J 0]) w:=run_build w _ _ _ (by kernel_rfl)
def parV (o:Option Fg):Value:=match o with | some f=>.tuple #[fgV f,D J 0] | none=>.tuple #[fgV df,D J 6]
theorem zEz (S:List UInt8) (w:ZY) :
  Calls ZX 166 #[W (bA S)] w fun e w'=>e=.returned (parV (zGs S))/\ZZ w.heap.size w w':=by
 have ah:ZZ w.heap.size w (w.alloc (.cells #[D J 0,G E,D J 0] 90)):=(M _ _).alloc (O _) _;have hk0:Blk (w.alloc (.cells #[D J 0,G E,D J 0] 90)) w.heap.size 90 #[D J 0,G E,D J 0]:=Blk.new _ _ _;go_enter Tryz.func166,Tryz.ntmps166;go_wp2_with fail
 generalize w.alloc (.cells #[D J 0,G E,D J 0] 90)=ZO at ah hk0 ⊢;go_loopw [4] (fun v wr=>∃p:Nat,1<=p/\p<=10/\v=D J p/\ZZ ZO.heap.size ZO wr/\Hid (∀f,zAn f=Q->f.p < (p:Int)->zAj f≠S)) (fun v _=>10-(intOf v).toNat)
 case atStart=>exact ⟨1,by omega,by omega,rfl,M _ _,qH (fun f hf h=>by have:=zAv.1 hf;omega)⟩
 case round =>
  obtain ⟨p,hp1,hp,rfl,hbr,HP⟩:=hrel;by_cases hlt:p < 10
  ·have i1:(p:Int)<=9:=by omega
   go_wp2_with fail
   go_loopw [5] (fun v w1=>∃d:Nat,d<=7/\v=D J d/\ZZ ZO.heap.size ZO w1/\Hid (∀f,zAn f=Q->(f.p < (p:Int)∨f.p=(p:Int)/\f.d < (d:Int))->zAj f≠S)) (fun v _=>7-(intOf v).toNat)
   case atStart=>exact ⟨0,by omega,rfl,hbr,qH (fun f hf h=>by rcases h with h | h;exact HP.out f hf h;have:=zAv.1 hf;omega)⟩
   case round =>
    clear hbr;obtain ⟨d,hd,rfl,hbr,HD⟩:=hrel;by_cases hdl:d < 7
    ·have i2:(d:Int)<=6:=by omega
     go_wp2_with fail
     have ai:ZZ ZO.heap.size ZO (wr.alloc (.cells #[G E,G Q] 4)):=hbr.alloc hbr.size _;have hbb:Blk (wr.alloc (.cells #[G E,G Q] 4)) wr.heap.size 4 #[G E,G Q]:=Blk.new _ _ _;generalize wr.alloc (.cells #[G E,G Q] 4)=X at ai hbb ⊢;generalize wr.heap.size=gb at hbb ⊢;go_loopw [19] (fun v w3=>∃k:Nat,k<=2/\v=D J k/\ZZ X.heap.size X w3/\Hid (∀f,zAn f=Q->(f.p < (p:Int)∨f.p=(p:Int)/\(f.d < (d:Int)∨f.d=(d:Int)/\(f.r=E/\1<=k∨f.r=Q/\2<=k)))->zAj f≠S)) (fun v _=>2-(intOf v).toNat)
     case atStart=>exact ⟨0,by omega,rfl,M _ _,qH (fun f hf h=>HD.out f hf (by rcases h with h | ⟨h,h2 | ⟨_,h3⟩⟩;exact .inl h;exact .inr ⟨h,h2⟩;omega))⟩
     case round =>
      clear hbr;obtain ⟨k,hk,rfl,hbr,HK⟩:=hrel;have hbbr:=hbb.below hbr hbb.lt;have al:=zAa ai hbr ai.size;by_cases hkl:k < 2
      ·obtain ⟨r,hr⟩:∃r:Bool,(k=0/\r=E∨k=1/\r=Q):=by
        rcases (show k=0∨k=1 by omega) with h | h
        ·exact ⟨E,.inl ⟨h,rfl⟩⟩
        ·exact ⟨Q,.inr ⟨h,rfl⟩⟩
       have hcell:wr.cell? ⟨gb,k,U⟩=Z (G r):=by
        rcases hr with ⟨rfl,rfl⟩ | ⟨rfl,rfl⟩
        ·exact (hbbr.cell 0).trans rfl
        ·exact (hbbr.cell 1).trans rfl
       have hth:zAn ⟨(p:Int),r,(d:Int)⟩=Q:=zAv.2 ⟨by simp only;omega,by simp only;omega,by simp only;omega,by simp only;omega⟩;have j0:(0:Int)<=(k:Int):=by omega
       have j1:(k:Int) < 2:=by omega
       have HR:=qH hr;have wP:=qH hth;obtain ⟨NX,CJ⟩:∃T,zAj ⟨(p:Int),r,(d:Int)⟩=T:=⟨_,rfl⟩
       have HN:=qH (fun w=>zUK CJ hth w);have gQ:=qH CJ;have az:ZZ ZO.heap.size ZO (wr.alloc (.cells #[D J (p:Int),G r,D J (d:Int)] 90)):=al.alloc al.size _;have u9:ZZ X.heap.size X (wr.alloc (.cells #[D J (p:Int),G r,D J (d:Int)] 90)):=hbr.alloc hbr.size _;have fX:Blk (wr.alloc (.cells #[D J (p:Int),G r,D J (d:Int)] 90)) wr.heap.size 90 #[D J (p:Int),G r,D J (d:Int)]:=Blk.new _ _ _;clear hr hth CJ;by_cases hq:NX=S
       ·have hres:=qH (show zGs S=Z ⟨(p:Int),r,(d:Int)⟩ from zCA wP.out (gQ.out.trans hq));have n0:((bA NX).toList==(bA S).toList)=Q:=by rw [zBt];simpa using hq
        clear hq;go_wp2_with fail
        refine (HN.out _).mono ?_;rintro e w6 ⟨rfl,aM⟩;have mW:=fX.below aM fX.lt;have cV:=zAa az aM az.size;have ei:=hk0.below cV hk0.lt;obtain ⟨c0,c1,c2⟩:=cQ3 mW;obtain ⟨d0,d1,d2⟩:=cQ3 ei;have z0:=ei.frozen 0;have z1:=ei.frozen 1;have z2:=ei.frozen 2;have hS:=ei.store3 (D J (p:Int)) (G r) (D J (d:Int));have gM:=zCg (zAa ah cV ah.size) (O w.heap.size) (D J (p:Int)) (G r) (D J (d:Int));clear mW ei hcell aM u9 fX hbb hbbr;go_wp2_with fail
        (try simp only [Exit.inBlock,Exit.then])
        exact zAF rfl rfl rfl hS Tryz.underlying90 rfl (by kernel_rfl) rfl ⟨by rw [hres.out];rfl,gM⟩
       ·have ua:=qH (show ∀f,zAn f=Q->(f.p < (p:Int)∨f.p=(p:Int)/\(f.d < (d:Int)∨f.d=(d:Int)/\(f.r=E/\1<=k+1∨f.r=Q/\2<=k+1)))->zAj f≠S from fun f hf h=>by
         by_cases h5:f.p < (p:Int)∨f.p=(p:Int)/\(f.d < (d:Int)∨f.d=(d:Int)/\(f.r=E/\1<=k∨f.r=Q/\2<=k))
         ·exact HK.out f hf h5
         ·have hfe:f=⟨(p:Int),r,(d:Int)⟩:=by
           obtain ⟨fp,frr,fd⟩:=f
           simp only at h h5
           rcases h with h | ⟨h1,h | ⟨h2,h3⟩⟩
           ·exact absurd (.inl h) h5
           ·exact absurd (.inr ⟨h1,.inl h⟩) h5
           ·rcases HR.out with ⟨k0,r0⟩ | ⟨k0,r0⟩
            ·rcases h3 with ⟨h3,_⟩ | ⟨_,h4⟩
             ·rw [h1,h2,h3,r0]
             ·omega
            ·rcases h3 with ⟨h3,h4⟩ | ⟨h3,h4⟩
             ·exact absurd (.inr ⟨h1,.inr ⟨h2,.inl ⟨h3,by omega⟩⟩⟩) h5
             ·rw [h1,h2,h3,r0]
          rw [hfe,gQ.out];exact hq)
        have n0:((bA NX).toList==(bA S).toList)=E:=by rw [zBt];simpa using hq
        clear hq HK;go_wp2_with fail
        refine (HN.out _).mono ?_;rintro e w6 ⟨rfl,aM⟩;have cV:=zAa u9 aM u9.size;clear hcell fX hbbr az;go_wp2_with fail
        go_roundw
        case rel=>exact ⟨k+1,by omega,by go_num,cV,ua⟩
        case measure=>simp [intOf];omega
      ·have j1:¬(k:Int) < 2:=by omega
       have D0:=qH (show ∀f,zAn f=Q->(f.p < (p:Int)∨f.p=(p:Int)/\f.d < ((d+1:Nat):Int))->zAj f≠S from fun f hf h=>HK.out f hf (by
        rcases h with h | ⟨h1,h2⟩
        ·exact .inl h
        ·refine .inr ⟨h1,?_⟩
         by_cases h3:f.d < (d:Int)
         ·exact .inl h3
         ·refine .inr ⟨by omega,?_⟩
          cases e:f.r with
          | false=>exact .inl ⟨rfl,by omega⟩
          | true=>exact .inr ⟨rfl,by omega⟩))
       clear HK HD hbb hbbr;go_wp2_with fail
       go_roundw
       case rel=>exact ⟨d+1,by omega,by go_num,al,D0⟩
       case measure=>simp [intOf];omega
    ·have i2:¬(d:Int)<=6:=by omega
     have DI:=qH (show ∀f,zAn f=Q->f.p < ((p+1:Nat):Int)->zAj f≠S from fun f hf h=>HD.out f hf (by
      have:=zAv.1 hf
      by_cases h1:f.p < (p:Int)
      ·exact .inl h1
      ·exact .inr ⟨by omega,by omega⟩))
     clear HD HP;go_wp2_with fail
     go_roundw
     case rel=>exact ⟨p+1,by omega,by omega,by go_num,hbr,DI⟩
     case measure=>simp [intOf];omega
  ·have i1:¬(p:Int)<=9:=by omega
   have hres:=qH (show zGs S=U from zKD fun f hf=>HP.out f hf (by have:=zAv.1 hf;omega));have ei:=hk0.below hbr hk0.lt;obtain ⟨d0,d1,d2⟩:=cQ3 ei;have z0:=ei.frozen 0;have z1:=ei.frozen 1;have z2:=ei.frozen 2;have hS:=ei.store3 (D J 0) (G E) (D J 0);have gM:=zCg (zAa ah hbr ah.size) (O w.heap.size) (D J 0) (G E) (D J 0);clear HP ei;go_wp2_with fail
   (try simp only [Exit.inBlock,Exit.then])
   exact zAF rfl rfl rfl hS Tryz.underlying90 rfl (by kernel_rfl) rfl ⟨by rw [hres.out];rfl,gM⟩
def Txts (w:ZY) (A:Option Addr) (n:Nat) (T:List (List UInt8)):Prop:=Els 1 (fun S=>[zDE S]) w A n T
def xa (T:List (List UInt8)) (i:Nat):List UInt8:=(T[i]?).getD []
abbrev rdC (A:Option Addr) (n c:Nat) (re lo:Int) (B:Option Addr) (m d:Nat) (bad lost:Bool):Array Value:=#[H A n c,D J re,D J lo,H B m d,G bad,G lost]
structure Rd (w:ZY) (rb:Nat) (A:Option Addr) (n c:Nat) (re lo:Int) (T:List (List UInt8)) (bad lost:Bool):Prop where
 ex:∃B m d,Blk w rb 123 (rdC A n c re lo B m d bad lost)/\Txts w B m T/\m<=d/\∀k,blk B=Z k->k < rb
theorem Txts.from1 {w:ZY} {g o n:Nat} {x:List UInt8} {T:List (List UInt8)} (h:Txts w (Z ⟨g,o,U⟩) (n+1) (x :: T)):Txts w (Z ⟨g,o+1,U⟩) n T:=by
 refine ⟨by have:=h.len;simpa using this,by have:=h.le;omega,fun h0=>?_⟩;obtain ⟨g',o',e,hb,hc⟩:=h.2.2 (by omega);injection e with e
 injection e with e1 e2
 subst e1;subst e2
 exact ⟨g,o+1,rfl,hb,fun j y hy q v hv=>by
  have:=hc (j+1) y (by simpa using hy) q v hv
  rwa [show o+(j+1)*1+q=o+1+j*1+q by omega] at this⟩
theorem Txts.keepBlk {w w':ZY} {g o n:Nat} {T:List (List UInt8)} {rb:Nat} (h:Txts w (Z ⟨g,o,U⟩) n T) (hg:w.grownBy w' (Z rb)) (hne:g≠rb):Txts w' (Z ⟨g,o,U⟩) n T:=by
 refine ⟨h.len,h.le,fun h0=>?_⟩;obtain ⟨g',o',e,hb,hc⟩:=h.2.2 h0;injection e with e
 injection e with e1 e2
 subst e1;subst e2
 refine ⟨g,o,rfl,Nat.lt_of_lt_of_le hb hg.size,fun j x hx q v hv=>?_⟩;rw [World.cell?_of_block (w:=w) (w':=w') (hg.block g hb (fun e=>hne (by injection e)))];exact hc j x hx q v hv
theorem zHj (rb:Nat) (A:Option Addr) (n c:Nat) (re lo:Int) (T:List (List UInt8)) (bad lost:Bool) (w:ZY) (h:Rd w rb A n c re lo T bad lost) :
  Calls ZX 146 #[.pointer (Z ⟨rb,0,U⟩)] w fun e w'=>e=.returned (W (bA (xa T 0)))/\Rd w' rb A n c re lo T.tail (bad||T.isEmpty) lost/\w.grownBy w' (Z rb):=by
 obtain ⟨B,m,d,hk,hT,hmd,hne⟩:=h.ex;have hle:=hT.le;have c0:w.cell? ⟨rb,3,U⟩=Z (H B m d):=(hk.cell 3).trans rfl;have z3:=hk.frozen 3;have z4:=hk.frozen 4
 cases T with
 | nil =>
  obtain rfl:0=m:=hT.len;have h4:w.cell? ⟨rb,4,U⟩=Z (G bad):=(hk.cell 4).trans rfl;have hS:=hk.set_ 4 (G Q);have hg:w.grownBy (w.setCell ⟨rb,4,U⟩ (G Q)) (Z rb):=⟨rfl,rfl,rfl,by simp [World.setCell],fun k _ hne=>Below.heap_setCell _ _ _ _ (fun e=>hne (by rw [e]))⟩;have HS:=qH hS;have HG:=qH hg;clear hS hg;go_enter Tryz.func146,Tryz.ntmps146;go_wp2_with fail
  go_ret;refine ⟨rfl,⟨B,0,d,?_,Els.nil _ _,by omega,hne⟩,HG.out⟩;have:=HS.out;simpa using this
 | cons x T =>
  have hlen:T.length+1=m:=hT.len;obtain ⟨g,o,vu,hgl,hcl⟩:=hT.2.2 (by omega);subst vu;have hx:w.cell? ⟨g,o,U⟩=Z (W (bA x)):=hcl 0 x rfl 0 _ rfl;obtain ⟨k,aq⟩:∃k,k=T.length:=⟨_,rfl⟩
  obtain rfl:m=k+1:=by omega
  have et:=Txts.from1 hT;have hgrow:∀u,w.grownBy (w.setCell ⟨rb,3,U⟩ u) (Z rb):=fun u=>⟨rfl,rfl,rfl,by simp [World.setCell],fun k _ hne=>Below.heap_setCell _ _ _ _ (fun e=>hne (by rw [e]))⟩
  have HG:=qH hgrow;have hgr:g < rb:=hne g rfl;have vf:∀u,Txts (w.setCell ⟨rb,3,U⟩ u) (Z ⟨g,o+1,U⟩) k T:=fun u=>et.keepBlk (hgrow u) (Nat.ne_of_lt hgr)
  have ol:=qH vf;have HS:=qH (fun u=>hk.set_ 3 u);by_cases hd1:d=1
  ·subst hd1;obtain rfl:k=0:=by omega
   obtain rfl:T=[]:=List.length_eq_zero_iff.1 aq.symm;clear aq hlen hcl hgrow vf hT et;go_enter Tryz.func146,Tryz.ntmps146;go_wp2_with fail
   go_ret;exact ⟨rfl,⟨_,_,_,by simpa using HS.out _,Els.nil _ _,O _,fun k hk=>by cases hk;exact hgr⟩,HG.out _⟩
  ·have tk:1 < d:=by omega
   clear aq hlen hcl hgrow vf hT et;go_enter Tryz.func146,Tryz.ntmps146;go_wp2_with fail
   go_ret;exact ⟨rfl,⟨_,_,_,by simpa using HS.out _,ol.out _,by omega,fun k hk=>by cases hk;exact hgr⟩,HG.out _⟩
theorem zBo (w:ZY) (row:Option Nat):w.grownBy w row:=⟨rfl,rfl,rfl,O _,fun _ _ _=>rfl⟩
def isB (T:List (List UInt8)) (S:List UInt8):Bool:=decide (T.head? = Z S)
def isT (T:List (List UInt8)) (S:List UInt8):List (List UInt8):=if T.head? = Z S then T.tail else T
theorem zJl (x:List UInt8) (T:List (List UInt8)):isB (x :: T) x=Q:=by simp [isB]
theorem zFR (x:List UInt8) (T:List (List UInt8)):isT (x :: T) x=T:=by simp [isT]
theorem zTG {x S:List UInt8} (T:List (List UInt8)) (h:x≠S):isB (x :: T) S=E:=by simp [isB,h]
theorem zWC {x S:List UInt8} (T:List (List UInt8)) (h:x≠S):isT (x :: T) S=x :: T:=by simp [isT,h]
theorem zPv (rb:Nat) (A:Option Addr) (n c:Nat) (re lo:Int) (T:List (List UInt8)) (bad lost:Bool) (S:List UInt8) (w:ZY) (h:Rd w rb A n c re lo T bad lost) :
  Calls ZX 148 #[.pointer (Z ⟨rb,0,U⟩),W (bA S)] w fun e w'=>e=.returned (G (isB T S))/\Rd w' rb A n c re lo (isT T S) bad lost/\w.grownBy w' (Z rb):=by
 obtain ⟨B,m,d,hk,hT,hmd,hne⟩:=h.ex;have hle:=hT.le;have c0:w.cell? ⟨rb,3,U⟩=Z (H B m d):=(hk.cell 3).trans rfl;have z3:=hk.frozen 3;have HH:=qH h;clear h
 cases T with
 | nil =>
  obtain rfl:0=m:=hT.len;clear hk hT hne;go_enter Tryz.func148,Tryz.ntmps148;go_wp2_with fail
  go_ret;exact ⟨rfl,HH.out,zBo _ _⟩
 | cons x T =>
  have hlen:T.length+1=m:=hT.len;obtain ⟨g,o,vu,hgl,hcl⟩:=hT.2.2 (by omega);subst vu;have hx:w.cell? ⟨g,o,U⟩=Z (W (bA x)):=hcl 0 x rfl 0 _ rfl;obtain ⟨k,aq⟩:∃k,k=T.length:=⟨_,rfl⟩
  obtain rfl:m=k+1:=by omega
  have et:=Txts.from1 hT;by_cases hq:x=S
  ·have n0:((bA x).toList==(bA S).toList)=Q:=by rw [zBt];simpa using hq
   have hgrow:∀u,w.grownBy (w.setCell ⟨rb,3,U⟩ u) (Z rb):=fun u=>⟨rfl,rfl,rfl,by simp [World.setCell],fun k _ hne=>Below.heap_setCell _ _ _ _ (fun e=>hne (by rw [e]))⟩
   have HG:=qH hgrow;have hgr:g < rb:=hne g rfl;have vf:∀u,Txts (w.setCell ⟨rb,3,U⟩ u) (Z ⟨g,o+1,U⟩) k T:=fun u=>et.keepBlk (hgrow u) (Nat.ne_of_lt hgr)
   have ol:=qH vf;have HS:=qH (fun u=>hk.set_ 3 u);have HE:=qH (show isB (x :: T) S=Q/\isT (x :: T) S=T by rw [<-hq];exact ⟨zJl _ _,zFR _ _⟩);clear hq HH;by_cases hd1:d=1
   ·subst hd1;obtain rfl:k=0:=by omega
    obtain rfl:T=[]:=List.length_eq_zero_iff.1 aq.symm;clear aq hlen hcl hgrow vf hT et;go_enter Tryz.func148,Tryz.ntmps148;go_wp2_with fail
    go_ret;exact ⟨zBJ HE.out.1.symm,by rw [HE.out.2];exact ⟨_,_,_,by simpa using HS.out _,Els.nil _ _,O _,fun k hk=>by cases hk;exact hgr⟩,HG.out _⟩
   ·have tk:1 < d:=by omega
    clear aq hlen hcl hgrow vf hT et;go_enter Tryz.func148,Tryz.ntmps148;go_wp2_with fail
    go_ret;exact ⟨zBJ HE.out.1.symm,by rw [HE.out.2];exact ⟨_,_,_,by simpa using HS.out _,ol.out _,by omega,fun k hk=>by cases hk;exact hgr⟩,HG.out _⟩
  ·have n0:((bA x).toList==(bA S).toList)=E:=by rw [zBt];simpa using hq
   have HE:=qH (show isB (x :: T) S=E/\isT (x :: T) S=x :: T from ⟨zTG _ hq,zWC _ hq⟩);clear hq hk hT et hcl hlen aq hne;go_enter Tryz.func148,Tryz.ntmps148;go_wp2_with fail
   go_ret;exact ⟨zBJ HE.out.1.symm,by rw [HE.out.2];exact HH.out,zBo _ _⟩
noncomputable def zDA (L:List Fg) (S:List UInt8):Nat:=match zGs S with | some f=>zAN L f | none=>0
noncomputable def zKE (S:List UInt8):Bool:=(zGs S).isNone
noncomputable def zEH (L:List Fg) (S:List UInt8):Bool:=match zGs S with | some f=>decide (zAN L f=0) | none=>E
theorem zCW {a b c:ZY} {row:Option Nat} (h:ZZ a.heap.size a b) (k:b.grownBy c row):a.grownBy c row :=
 ⟨k.os.trans h.os,k.tape.trans h.tape,k.output.trans h.output,Nat.le_trans h.size k.size,fun i hi hne=>(k.block i (Nat.lt_of_lt_of_le hi h.size) hne).trans (h.block i hi)⟩
theorem zBv {w:ZY} {rb:Nat} (q:Nat) (u:Value):w.grownBy (w.setCell ⟨rb,q,U⟩ u) (Z rb) :=
 ⟨rfl,rfl,rfl,by simp [World.setCell],fun k _ hne=>Below.heap_setCell _ _ _ _ (fun e=>hne (by rw [e]))⟩
theorem Txts.keepAny {w w':ZY} {B:Option Addr} {n:Nat} {T:List (List UInt8)} {rb:Nat} (h:Txts w B n T) (hg:w.grownBy w' (Z rb)) (hne:∀k,blk B=Z k->k < rb):Txts w' B n T:=by
 refine ⟨h.len,h.le,fun h0=>?_⟩;obtain ⟨g,o,e,hb,hc⟩:=h.2.2 h0;subst e;refine ⟨g,o,rfl,Nat.lt_of_lt_of_le hb hg.size,fun j x hx q v hv=>?_⟩;rw [World.cell?_of_block (w:=w) (w':=w') (hg.block g hb (fun e=>Nat.ne_of_lt (hne g rfl) (by injection e)))];exact hc j x hx q v hv
theorem zFh (rb:Nat) (A:Option Addr) (n c:Nat) (L:List Fg) (re lo:Int) (T:List (List UInt8)) (bad lost:Bool) (S:List UInt8) (w:ZY) (h:Rd w rb A n c re lo T bad lost) (hA:Fgs w A n L) :
  Calls ZX 128 #[.pointer (Z ⟨rb,0,U⟩),W (bA S)] w fun e w'=>e=.returned (D J (zDA L S:Int))/\Rd w' rb A n c re lo T (bad||zKE S) (lost||zEH L S)/\w.grownBy w' (Z rb):=by
 obtain ⟨B,m,d,hk,hT,hmd,hne⟩:=h.ex;have j7:=zEz S w
 cases hp:zGs S with
 | none =>
  rw [hp] at j7;have fY:Hid (Calls ZX 166 #[W (bA S)] w fun e w'=>e=.returned (.tuple #[.agg #[D J 0,G E,D J 0],D J 6])/\ZZ w.heap.size w w'):=qH j7;have HR:=qH (show zDA L S=0/\zKE S=Q/\zEH L S=E by unfold zDA zKE zEH;rw [hp];exact ⟨rfl,rfl,rfl⟩);clear j7 hp h hA;go_enter Tryz.func128,Tryz.ntmps128;go_wp2_with fail
  refine fY.out.mono ?_;rintro e w2 ⟨rfl,ai⟩;have hk2:=hk.below ai hk.lt;have cu:=hk2.alloc (.cells #[D J 0,G E,D J 0] 90);have al:ZZ w.heap.size w (w2.alloc (.cells #[D J 0,G E,D J 0] 90)):=ai.alloc ai.size _;have c4:(w2.alloc (.cells #[D J 0,G E,D J 0] 90)).cell? ⟨rb,4,U⟩=Z (G bad):=(cu.cell 4).trans rfl;have z4:=cu.frozen 4;have HS:=qH (cu.set_ 4 (G Q));clear fY ai hk2;go_wp2_with fail
  go_ret;refine ⟨zGD (by rw [HR.out.1];rfl),?_,zCW al (zBv _ _)⟩;rw [HR.out.2.1,HR.out.2.2,Bool.or_true,Bool.or_false];exact ⟨B,m,d,by simpa using HS.out,Txts.keepAny (Els.below hT al) (zBv _ _) hne,hmd,hne⟩
 | some f =>
  rw [hp] at j7;have fY:Hid (Calls ZX 166 #[W (bA S)] w fun e w'=>e=.returned (.tuple #[fgV f,D J 0])/\ZZ w.heap.size w w'):=qH j7;obtain ⟨ix,hix⟩:∃ix,zAN L f=ix:=⟨_,rfl⟩
  have HR:=qH (show zDA L S=ix/\zKE S=E/\zEH L S=decide (ix=0) by unfold zDA zKE zEH;rw [hp];exact ⟨hix,rfl,by simp only [hix]⟩);have qZ:=qH (fun wx (fM:Fgs wx A n L)=>zNH A n c L re lo f wx fM);clear j7 hp h;go_enter Tryz.func128,Tryz.ntmps128;go_wp2_with fail
  refine fY.out.mono ?_;rintro e w2 ⟨rfl,ai⟩;have lc:=hA.below ai;have hk2:=hk.below ai hk.lt;have cu:=hk2.alloc (.cells #[D J f.p,G f.r,D J f.d] 90);have oh:Blk (w2.alloc (.cells #[D J f.p,G f.r,D J f.d] 90)) w2.heap.size 90 #[D J f.p,G f.r,D J f.d]:=Blk.new _ _ _;have vx:=lc.alloc (.cells #[D J f.p,G f.r,D J f.d] 90);have al:ZZ w.heap.size w (w2.alloc (.cells #[D J f.p,G f.r,D J f.d] 90)):=ai.alloc ai.size _;clear ai hk2 lc hA;go_wp2_with fail
  generalize w2.alloc (.cells #[D J f.p,G f.r,D J f.d] 90)=Y at cu oh vx al ⊢
  have KP:=qH (show ∀wx,ZZ Y.heap.size Y wx->(ZZ Y.heap.size Y wx/\wx.cell? ⟨rb,0,U⟩=Z (H A n c)/\wx.cell? ⟨rb,1,U⟩=Z (D J re)/\wx.cell? ⟨rb,2,U⟩=Z (D J lo)/\wx.cell? ⟨w2.heap.size,0,U⟩=Z (D J f.p)/\wx.cell? ⟨w2.heap.size,1,U⟩=Z (G f.r)/\wx.cell? ⟨w2.heap.size,2,U⟩=Z (D J f.d)) from
   fun wx h=>⟨h,((cu.below h cu.lt).cell 0).trans rfl,((cu.below h cu.lt).cell 1).trans rfl,((cu.below h cu.lt).cell 2).trans rfl,((oh.below h oh.lt).cell 0).trans rfl,((oh.below h oh.lt).cell 1).trans rfl,((oh.below h oh.lt).cell 2).trans rfl⟩)
  first
   | go_region_held3 (fun wx=>ZZ Y.heap.size Y wx/\wx.cell? ⟨rb,0,U⟩=Z (H A n c)/\wx.cell? ⟨rb,1,U⟩=Z (D J re)/\wx.cell? ⟨rb,2,U⟩=Z (D J lo)/\wx.cell? ⟨w2.heap.size,0,U⟩=Z (D J f.p)/\wx.cell? ⟨w2.heap.size,1,U⟩=Z (G f.r)/\wx.cell? ⟨w2.heap.size,2,U⟩=Z (D J f.d)) (first | assumption | exact KP.out _ (M _ _).drew | exact KP.out _ (zAa (And.left (by assumption)) (by assumption) (Below.size (And.left (by assumption)))))
     (first
      | (go_at_call 167;refine (qZ.out _ (vx.below (And.left (by assumption)))).mono ?_;rintro e wa ⟨rfl,hba⟩))
   | fail
  all_goals
   have hbf:=And.left (show ZZ Y.heap.size Y _/\_ from by assumption);have hka:=cu.below hbf cu.lt;have hbw:=zAa al hbf al.size;have c5:wa.cell? ⟨rb,5,U⟩=Z (G lost):=(hka.cell 5).trans rfl;have z5:=hka.frozen 5;have tZ:=qH (fun u=>hka.set_ 5 u);have fin:∀b:Bool,b=(lost||decide (ix=0))->Rd (wa.setCell ⟨rb,5,U⟩ (G b)) rb A n c re lo T (bad||zKE S) (lost||zEH L S)/\w.grownBy (wa.setCell ⟨rb,5,U⟩ (G b)) (Z rb):=fun b hb=>by
    refine ⟨⟨B,m,d,?_,Txts.keepAny (Els.below hT hbw) (zBv _ _) hne,hmd,hne⟩,zCW hbw (zBv _ _)⟩;rw [HR.out.2.1,HR.out.2.2,Bool.or_false,<-hb];simpa using tZ.out (G b)
   have nw:=qH fin;have vQ:=qH (show zDA L S=ix from HR.out.1);clear hka cu oh vx al hbf hbw hix fin qZ fY KP
   cases lost with
   | true =>
    go_wp2_with fail
    go_ret;exact ⟨zGD (by rw [vQ.out]),nw.out Q (by simp)⟩
   | false =>
    by_cases h0:ix=0
    ·have k0:((ix:Int)==0)=Q:=by simp;omega
     subst h0;clear k0;go_wp2_with fail
     go_ret;exact ⟨zGD (by rw [vQ.out];rfl),nw.out Q (by simp)⟩
    ·have k0:((ix:Int)==0)=E:=by simp;omega
     have FF:=qH (nw.out E (by simp [h0]));clear h0;go_wp2_with fail
     go_ret;exact ⟨zGD (by rw [vQ.out]),FF.out⟩
