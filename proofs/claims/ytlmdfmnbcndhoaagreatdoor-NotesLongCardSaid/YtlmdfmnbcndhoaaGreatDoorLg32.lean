/-
  Lemmas for NotesLong, part 32: contracts and plain facts. Conditions: those that each theorem names.
-/
import Derived.Test.YtlmdfmnbcndhoaaGreatDoorLg12
import Derived.Test.YtlmdfmnbcndhoaaGreatDoorLg26
import Derived.Test.YtlmdfmnbcndhoaaGreatDoorLg31
namespace Go.Proofs.YtlmdfmnbcndhoaaGreatDoor
theorem zMP {f:Nat→Nat} {d:Nat}:∀{P:List Nat} {x y:Nat},zGA f d P x→y∈P→f y=x∨f y∈P
 | [],_,_,_,h=>by cases h
 | p :: P,x,y,hp,h=>by
  rcases List.mem_cons.1 h with rfl | h
  ·exact .inl hp.1.symm
  ·rcases zMP hp.2 h with e | e
   ·right;rw [e];simp
   ·right;simp [e]
theorem zMQ {f:Nat→Nat} {d:Nat}:∀{P:List Nat} {x:Nat},zGA f d P x→P≠[]→d∈P
 | [],_,_,h=>absurd rfl h
 | [p],_,hp,_=>by have:p=d:=hp.2;simp [this]
 | p :: q :: P,_,hp,_=>by have:=zMQ (P:=q :: P) hp.2 (by simp);exact List.mem_cons_of_mem _ this
theorem zPN {f:Nat→Nat} {d N:Nat} (inj:∀x y,x < N→y < N→f x=f y→x=y) (into:∀x,x < N→f x < N) {s0:List Bool} (hback:zUI f N s0) (hd0:sat s0 d=false) {s:List Bool} {P:List Nat} {x:Nat}
  (hs:∀y,y < N→(sat s y=true↔sat s0 y=true∨y∈P)) (hp:zGA f d P x) (hn:P.Nodup) (hP:∀y∈P,y < N∧sat s0 y=false) (hx:x < N) (hsx:sat s x=true):x=d∧P≠[]∧zUI f N s:=by
 have hx0:sat s0 x=false:=by
  cases hq:sat s0 x with
  | false=>rfl
  | true =>
   cases P with
   | nil=>rw [show x=d from hp] at hq;rw [hd0] at hq;cases hq
   | cons p P =>
    have:=hback p (hP p (by simp)).1 (by rw [←hp.1];exact hq);rw [(hP p (by simp)).2] at this;cases this
 have hxP:x∈P:=by
  rcases (hs x hx).1 hsx with h | h
  ·rw [hx0] at h;cases h
  ·exact h
 have hxd:x=d:=by
  rcases Nat.decEq x d with e | e
  ·cases P with
   | nil=>cases hxP
   | cons p P =>
    obtain ⟨t,ht,he⟩:=zGe inj (P:=P) (Q:=[]) (p:=p) (q:=x) hp hn (fun y hy=>(hP y hy).1) x hxP e;have:p=t:=inj p t (hP p (by simp)).1 (hP t (by simp [ht])).1 (by rw [←hp.1,←he]);subst this;exact absurd ht (List.nodup_cons.1 hn).1
  ·exact e
 refine ⟨hxd,(fun e=>by rw [e] at hxP;cases hxP),fun y hy hfy=>?_⟩;rcases (hs (f y) (into y hy)).1 hfy with h | h
 ·exact (hs y hy).2 (.inl (hback y hy h))
 ·cases P with
  | nil=>cases h
  | cons p P =>
   rcases Nat.decEq (f y) d with e | e
   ·obtain ⟨t,ht,he⟩:=zGe inj (P:=P) (Q:=[]) (p:=p) (q:=x) hp hn (fun y hy=>(hP y hy).1) (f y) h e;have:y=t:=inj y t hy (hP t (by simp [ht])).1 he;subst this;exact (hs y hy).2 (.inr (by simp [ht]))
   ·have:y=p:=inj y p hy (hP p (by simp)).1 (by rw [e,←hp.1,hxd]);subst this;exact (hs y hy).2 (.inr (by simp))
theorem zRI {f:Nat→Nat} {d N:Nat} (inj:∀x y,x < N→y < N→f x=f y→x=y) (into:∀x,x < N→f x < N) {s0:List Bool} (hback:zUI f N s0) (hd0:sat s0 d=false) :
  ∀(k:Nat) (s:List Bool) (P:List Nat) (x:Nat),s.length=N→(∀y,y < N→(sat s y=true↔sat s0 y=true∨y∈P))→zGA f d P x→P.Nodup→(∀y∈P,y < N∧sat s0 y=false)→unN s≤k→x < N →
   (zAX f k s x).2.length=N∧zUI f N (zAX f k s x).2∧(∀y,y < N→(sat (zAX f k s x).2 y=true↔sat s0 y=true∨y∈P.reverse++(zAX f k s x).1))∧(P.reverse++(zAX f k s x).1).Nodup ∧
   (∀y∈P.reverse++(zAX f k s x).1,y < N∧sat s0 y=false∧f y∈P.reverse++(zAX f k s x).1)∧(sat s x=false→x∈(zAX f k s x).1):=by
 have stop:∀(s:List Bool) (P:List Nat) (x:Nat),s.length=N→(∀y,y < N→(sat s y=true↔sat s0 y=true∨y∈P))→zGA f d P x→P.Nodup→(∀y∈P,y < N∧sat s0 y=false)→x < N→sat s x=true →
   s.length=N∧zUI f N s∧(∀y,y < N→(sat s y=true↔sat s0 y=true∨y∈P.reverse++[]))∧(P.reverse++[]).Nodup∧(∀y∈P.reverse++[],y < N∧sat s0 y=false∧f y∈P.reverse++[])∧(sat s x=false→x∈([]:List Nat)):=by
  intro s P x hl hs hp hn hP hx hsx;obtain ⟨hxd,hne,hB⟩:=zPN inj into hback hd0 hs hp hn hP hx hsx;subst hxd;refine ⟨hl,hB,fun y hy=>by rw [List.append_nil,List.mem_reverse];exact hs y hy,by rw [List.append_nil];exact List.pairwise_reverse.2 (hn.imp fun h=>Ne.symm h),fun y hy=>?_,fun h=>by rw [hsx] at h;cases h⟩;rw [List.append_nil,List.mem_reverse] at hy;refine ⟨(hP y hy).1,(hP y hy).2,?_⟩;rw [List.append_nil,List.mem_reverse];rcases zMP hp hy with e | e
  ·rw [e];exact zMQ hp hne
  ·exact e
 intro k
 induction k with
 | zero =>
  intro s P x hl hs hp hn hP hk hx;have hsx:sat s x=true:=by
   cases hq:sat s x with
   | true=>rfl
   | false=>have:=zLz hq;omega
  exact stop s P x hl hs hp hn hP hx hsx
 | succ k ih =>
  intro s P x hl hs hp hn hP hk hx
  cases hsx:sat s x with
  | true =>
   have:=stop s P x hl hs hp hn hP hx hsx;unfold zAX;rw [if_pos hsx];rw [hsx] at this;exact this
  | false =>
   have hun:=zHs hsx;have hx0:sat s0 x=false:=by
    cases hq:sat s0 x with
    | false=>rfl
    | true=>rw [(hs x hx).2 (.inl hq)] at hsx;cases hsx
   have hxP:x ∉ P:=fun hm=>by rw [(hs x hx).2 (.inr hm)] at hsx;cases hsx
   have hs':∀y,y < N→(sat (s.set x true) y=true↔sat s0 y=true∨y∈x :: P):=by
    intro y hy;rw [zPd,Bool.or_eq_true,hs y hy,List.mem_cons];simp only [decide_eq_true_eq];constructor
    ·rintro ((h | h) | h)
     ·exact .inl h
     ·exact .inr (.inr h)
     ·exact .inr (.inl h.symm)
    ·rintro (h | h | h)
     ·exact .inl (.inl h)
     ·exact .inr h.symm
     ·exact .inl (.inr h)
   have hP':∀y∈x :: P,y < N∧sat s0 y=false:=by
    intro y hy;rcases List.mem_cons.1 hy with rfl | hy
    ·exact ⟨hx,hx0⟩
    ·exact hP y hy
   have r:=ih (s.set x true) (x :: P) (f x) (by simpa using hl) hs' ⟨rfl,hp⟩ (List.nodup_cons.2 ⟨hxP,hn⟩) hP' (by omega) (into x hx);rw [List.reverse_cons,List.append_assoc] at r;unfold zAX;rw [if_neg (by rw [hsx];simp)];exact ⟨r.1,r.2.1,r.2.2.1,r.2.2.2.1,r.2.2.2.2.1,fun _=>by simp⟩
theorem zEV {f:Nat→Nat} {N:Nat} (inj:∀x y,x < N→y < N→f x=f y→x=y) (into:∀x,x < N→f x < N):∀(ds:List Nat) (s:List Bool),s.length=N→zUI f N s→(∀d∈ds,d < N) →
  (∀W∈zAN f ds s,W≠[]∧W.Nodup∧∀y∈W,y < N∧sat s y=false∧f y∈W)∧(∀d∈ds,sat s d=true∨∃W∈zAN f ds s,d∈W)∧(zAN f ds s).Pairwise (fun A B=>∀y,y∈A→y ∉ B)
 | [],_,_,_,_=>⟨fun W h=>(by cases h),fun d h=>(by cases h),List.Pairwise.nil⟩
 | d :: ds,s,hl,hB,hds=>by
  unfold zAN
  cases hsd:sat s d with
  | true =>
   rw [if_pos rfl];obtain ⟨h1,h2,h3⟩:=zEV inj into ds s hl hB (fun x hx=>hds x (by simp [hx]));refine ⟨h1,fun x hx=>?_,h3⟩;rcases List.mem_cons.1 hx with rfl | hx
   ·exact .inl hsd
   ·exact h2 x hx
  | false =>
   rw [if_neg (by simp)];obtain ⟨r1,r2,r3,r4,r5,r6⟩:=zRI inj into hB hsd s.length s [] d hl (fun y _=>by simp) rfl (by simp) (by simp) (zPe s) (hds d (by simp));rw [List.reverse_nil,List.nil_append] at r3 r4 r5;obtain ⟨h1,h2,h3⟩:=zEV inj into ds _ r1 r2 (fun x hx=>hds x (by simp [hx]));have hdW:=r6 hsd;generalize (zAX f s.length s d).1=W at *;generalize (zAX f s.length s d).2=s' at *;refine ⟨fun V hV=>?_,fun x hx=>?_,?_⟩
   ·rcases List.mem_cons.1 hV with rfl | hV
    ·exact ⟨fun e=>(by rw [e] at hdW;cases hdW),r4,r5⟩
    ·obtain ⟨a,b,c⟩:=h1 V hV;refine ⟨a,b,fun y hy=>⟨(c y hy).1,?_,(c y hy).2.2⟩⟩
     cases hq:sat s y with
     | false=>rfl
     | true =>
      have:=(r3 y (c y hy).1).2 (.inl hq);rw [(c y hy).2.1] at this;cases this
   ·rcases List.mem_cons.1 hx with rfl | hx
    ·exact .inr ⟨W,by simp,hdW⟩
    ·rcases h2 x hx with h | ⟨V,hV,hxV⟩
     ·rcases (r3 x (hds x (by simp [hx]))).1 h with h | h
      ·exact .inl h
      ·exact .inr ⟨W,by simp,h⟩
     ·exact .inr ⟨V,by simp [hV],hxV⟩
   ·refine List.pairwise_cons.2 ⟨fun V hV y hy hyV=>?_,h3⟩;have:=(r3 y (r5 y hy).1).2 (.inr hy);rw [((h1 V hV).2.2 y hyV).2.1] at this;cases this
theorem zPO {f:Nat→Nat} {N:Nat} (inj:∀x y,x < N→y < N→f x=f y→x=y) (into:∀x,x < N→f x < N) {Ws:List (List Nat)} (hW:Ws=zAN f (List.range N) (List.replicate N false)) :
  ∃lab:Nat→Nat,(∀x,x < N→∃W,Ws[lab x]? = some W∧x∈W)∧(∀(x k:Nat) (W:List Nat),x < N→Ws[k]? = some W→x∈W→lab x=k)∧(∀x,x < N→lab (f x)=lab x)∧∀k,k < Ws.length→∃x,x < N∧lab x=k:=by
 obtain ⟨h1,h2,h3⟩:=zEV inj into (List.range N) (List.replicate N false) (by simp) (by
  intro y hy hf
  have:=into y hy
  simp [sat,this] at hf) (by simp)
 rw [←hW] at h1 h2 h3;have hex:∀x,x < N→∃(k:Nat) (W:List Nat),Ws[k]? = some W∧x∈W:=by
  intro x hx;rcases h2 x (by simpa using hx) with h | ⟨W,hWm,hxW⟩
  ·simp [sat,hx] at h
  ·obtain ⟨k,hk,e⟩:=List.getElem_of_mem hWm;exact ⟨k,W,by rw [List.getElem?_eq_getElem hk,e],hxW⟩
 have huniq:∀(x j k:Nat) (V W:List Nat),Ws[j]? = some V→x∈V→Ws[k]? = some W→x∈W→j=k:=by
  intro x j k V W hj hxV hk hxW;obtain ⟨hj',ej⟩:=List.getElem?_eq_some_iff.1 hj;obtain ⟨hk',ek⟩:=List.getElem?_eq_some_iff.1 hk;rcases Nat.lt_trichotomy j k with h | h | h
  ·have:=List.pairwise_iff_getElem.1 h3 j k hj' hk' h x (by rw [ej];exact hxV);rw [ek] at this;exact absurd hxW this
  ·exact h
  ·have:=List.pairwise_iff_getElem.1 h3 k j hk' hj' h x (by rw [ek];exact hxW);rw [ej] at this;exact absurd hxV this
 let lab:Nat→Nat:=fun x=>if h:x < N then Classical.choose (hex x h) else 0
 have hlab:∀x,x < N→∃W,Ws[lab x]? = some W∧x∈W:=by
  intro x hx;have:lab x=Classical.choose (hex x hx):=dif_pos hx;rw [this];exact Classical.choose_spec (hex x hx)
 have hl2:∀(x k:Nat) (W:List Nat),x < N→Ws[k]? = some W→x∈W→lab x=k:=by
  intro x k W hx hk hxW;obtain ⟨V,hV,hxV⟩:=hlab x hx;exact huniq x _ _ V W hV hxV hk hxW
 refine ⟨lab,hlab,hl2,fun x hx=>?_,fun k hk=>?_⟩
 ·obtain ⟨V,hV,hxV⟩:=hlab x hx;exact hl2 (f x) _ V (into x hx) hV ((h1 V (List.mem_of_getElem? hV)).2.2 x hxV).2.2
 ·obtain ⟨hne,_,hall⟩:=h1 Ws[k] (List.getElem_mem hk);obtain ⟨y,hy⟩:=List.exists_mem_of_ne_nil _ hne;exact ⟨y,(hall y hy).1,hl2 y k _ (hall y hy).1 (List.getElem?_eq_getElem hk) hy⟩
theorem zMR {p q:Nat→Bool} {z:Nat}:∀{n:Nat},(∀m,m < n→p m=true→m≠z→q m=true)→zAc p n≤zAc q n+1
 | 0,_=>by simp [zAc]
 | n+1,h=>by
  have ih:=zMR (n:=n) (fun m hm=>h m (by omega))
  cases hp:p n with
  | false =>
   rw [zAi hp];have:=zUL q (m:=n) (n:=n+1) (by omega);omega
  | true =>
   rw [zAm hp];by_cases e:n=z
   ·have:=zMo (p:=p) (q:=q) (n:=n) (fun m hm hpm=>h m (by omega) hpm (by omega));have:=zUL q (m:=n) (n:=n+1) (by omega);omega
   ·rw [zAm (h n (by omega) hp e)];omega
theorem ties (W:Nat) (a b:Nat→Nat) (kept:Nat→Bool):∀n,∃c:Nat→Nat,(∀k,c (c k)=c k)∧(∀e,e < n→kept e=true→c (a e)=c (b e))∧W≤zAc (fun k=>c k==k) W+zAc kept n:=by
 intro n
 induction n with
 | zero =>
  refine ⟨id,fun _=>rfl,fun e h=>by omega,?_⟩;have:∀m,zAc (fun k=>id k==k) m=m:=by
   intro m
   induction m with
   | zero=>rfl
   | succ m ih=>rw [zAm (by simp),ih]
  rw [this];omega
 | succ n ih =>
  obtain ⟨c,h1,h2,h3⟩:=ih
  cases hk:kept n with
  | false =>
   refine ⟨c,h1,fun e he hke=>?_,by rw [zAi hk];exact h3⟩;rcases Nat.decEq e n with h | h
   ·exact h2 e (by omega) hke
   ·subst h;rw [hk] at hke;cases hke
  | true =>
   by_cases hab:c (a n)=c (b n)
   ·refine ⟨c,h1,fun e he hke=>?_,by rw [zAm hk];omega⟩;rcases Nat.decEq e n with h | h
    ·exact h2 e (by omega) hke
    ·subst h;exact hab
   ·refine ⟨fun k=>if c k=c (b n) then c (a n) else c k,fun k=>?_,fun e he hke=>?_,?_⟩
    ·by_cases e:c k=c (b n)
     ·simp only [e,if_true,h1,if_neg hab]
     ·simp only [e,if_false,h1]
    ·rcases Nat.decEq e n with h | h
     ·simp only [h2 e (by omega) hke]
     ·subst h;simp only [if_true,if_neg hab]
    ·rw [zAm hk]
     have:=zMR (p:=fun k=>c k==k) (q:=fun k=>(if c k=c (b n) then c (a n) else c k)==k) (z:=c (b n)) (n:=W) (fun m _ hp hz=>by
      simp only [beq_iff_eq] at hp ⊢
      rw [if_neg (by rw [hp];exact hz),hp])
     simp only [] at this ⊢;omega
def zCb (n v:Nat):Nat:=(v+n-1) % n
theorem zCQ {n v:Nat} (h:v < n):zCb n v < n:=Nat.mod_lt _ (by omega)
theorem zCI {n v:Nat} (h:v < n) (h0:0 < v):zCb n v=v-1:=by
 unfold zCb;rw [show v+n-1=(v-1)+n by omega,Nat.add_mod_right,Nat.mod_eq_of_lt (by omega)]
theorem zBE {n v:Nat} (h:v < n):zAD n (2*zCb n v)=v:=by
 unfold zAD;rw [if_pos (by omega),show 2*zCb n v / 2=zCb n v by omega];rcases Nat.eq_zero_or_pos v with h0 | h0
 ·subst h0;unfold zCb;rw [Nat.zero_add,Nat.mod_eq_of_lt (show n-1 < n by omega),show n-1+1=n by omega,Nat.mod_self]
 ·rw [zCI h h0,show v-1+1=v by omega,Nat.mod_eq_of_lt h]
theorem zCj {n v:Nat}:zAD n (2*v+1)=v:=by unfold zAD;rw [if_neg (by omega)];omega
theorem zHZ (n v:Nat):zAM n v false=2*zCb n v+1:=by unfold zAM zCb;simp
theorem zIa (n v:Nat):zAM n v true=2*v:=by unfold zAM;simp
theorem zOt {L:List Lt} {i:Nat} (hp:isP (la L i)=true):dwn L (i+1) = !dwn L i:=by
 have h:pN L (i+1)=pN L i+1:=zAm hp;unfold dwn;rw [h,Bool.eq_iff_iff];simp;omega
theorem zUK {L:List Lt} {i:Nat} (hp:isP (la L i)=false):dwn L (i+1)=dwn L i:=by
 have h:pN L (i+1)=pN L i:=zAi hp;unfold dwn;rw [h]
theorem zLR {L:List Lt} {K:Int} (g:Good K L):pN L L.length+cN L L.length=L.length:=by
 have h:=zHg (p:=fun i=>isP (la L i)) (q:=fun i=>isC (la L i)) (r:=fun _=>true) (n:=L.length) (fun m hm=>by
  rcases g.kinds m hm with h | h<;>simp [h]) (fun m hm=>by
  rintro ⟨h1,h2⟩
  rw [zCq h1] at h2;cases h2)
 have h2:∀m,zAc (fun _=>true) m=m:=by
  intro m
  induction m with
  | zero=>rfl
  | succ m ih=>rw [zAm rfl,ih]
 rw [h2] at h;exact h.symm
section
variable {K:Int} {L:List Lt}
structure Col (L:List Lt) (X:Nat→Nat):Prop where
 step:∀d,d < zAu L→X (zAy L (axL L) d)=X d
theorem Good.cr_col (g:Good K L) {X:Nat→Nat} (hX:Col L X) {i:Nat} (hc:isC (la L i)=true) :
  let s:=((la L i).over==((la L i).sign==1))
  X (2*zCb L.length i)=X (zAM L.length (zCr L i) s)∧X (2*i+1)=X (zAM L.length (zCr L i) (!s)):=by
 have hi:=zBB hc;have hp:=zCQ hi;have hd1:2*zCb L.length i < 2*L.length:=by omega
 have hd2:2*i+1 < 2*L.length:=by omega
 have e1:=g.left_cross hd1 (by rw [zBE hi];exact hc);have e2:=g.left_cross hd2 (by rw [zCj];exact hc);rw [zBE hi] at e1;rw [zCj] at e2;have k1:=hX.step _ (show 2*zCb L.length i < zAu L by unfold zAu;omega);have k2:=hX.step _ (show 2*i+1 < zAu L by unfold zAu;omega);rw [e1] at k1;rw [e2] at k2;have t1:(2*zCb L.length i % 2==0)=true:=by simp
 have t2:((2*i+1) % 2==0)=false:=by simp
 rw [t1] at k1;rw [t2] at k2;refine ⟨?_,?_⟩
 ·rw [←k1];congr 2;simp
 ·rw [←k2];congr 2;simp
theorem Good.pos_of_cross (g:Good K L) {i:Nat} (hc:isC (la L i)=true):0 < i:=by
 rcases Nat.eq_zero_or_pos i with h | h
 ·subst h;rw [zCq g.first] at hc;cases hc
 ·exact h
theorem Good.four (g:Good K L) {X:Nat→Nat} (hX:Col L X) {i:Nat} (hc:isC (la L i)=true) :
  (X (2*(i-1))=X (2*zCr L i)∧X (2*i+1)=X (2*(zCr L i-1)+1)∧X (2*(zCr L i-1))=X (2*(i-1)+1)∧X (2*zCr L i+1)=X (2*i)) ∨
  (X (2*(i-1))=X (2*(zCr L i-1)+1)∧X (2*i+1)=X (2*zCr L i)∧X (2*(zCr L i-1))=X (2*i)∧X (2*zCr L i+1)=X (2*(i-1)+1)):=by
 obtain ⟨h1,h2,h3,h4,h5,_⟩:=g.other hc;have a:=g.cr_col hX hc;have b:=g.cr_col hX h2;rw [g.oth_oth hc] at b;have p1:=zCI (zBB hc) (g.pos_of_cross hc);have p2:=zCI (zBB h2) (g.pos_of_cross h2);have hs:((la L (zCr L i)).over==((la L (zCr L i)).sign==1)) = !((la L i).over==((la L i).sign==1)):=by
  rw [h5]
  revert h4
  cases (la L (zCr L i)).over<;>cases (la L i).over<;>cases ((la L i).sign==1)<;>simp
 simp only [hs] at b
 cases hq:((la L i).over==((la L i).sign==1)) with
 | true =>
  simp only [hq,Bool.not_true,Bool.not_false,zHZ,zIa,p1,p2] at a b;exact .inl ⟨a.1,a.2,b.1,b.2⟩
 | false =>
  simp only [hq,Bool.not_true,Bool.not_false,zHZ,zIa,p1,p2] at a b;exact .inr ⟨a.1,a.2,b.1,b.2⟩
def upE (L:List Lt) (v:Nat):Nat:=if dwn L v then zCb L.length v else v
def loE (L:List Lt) (v:Nat):Nat:=if dwn L v then v else zCb L.length v
section
variable {X:Nat→Nat}
theorem Good.p1 (g:Good K L) (hX:Col L X) (hf:∀e,e < L.length→X (2*e)=X (2*e+1)) {v:Nat} (hp:isP (la L v)=true):X (2*L.length+2*atN L v)=X (2*upE L v):=by
 have hv:=zBi hp;have hpv:=zCQ hv
 cases hd:dwn L v with
 | true =>
  have e:=g.left_pass (d:=2*zCb L.length v) (by omega) (by rw [zBE hv];exact hp);rw [zBE hv,hd,if_pos (by simp)] at e;have:=hX.step (2*zCb L.length v) (by unfold zAu;omega);rw [e] at this;rw [this];unfold upE;rw [hd,if_pos rfl]
 | false =>
  have e:=g.left_pass (d:=2*v+1) (by omega) (by rw [zCj];exact hp);rw [zCj,hd,if_pos (by simp)] at e;have:=hX.step (2*v+1) (by unfold zAu;omega);rw [e] at this;rw [this,←hf v hv];unfold upE;rw [hd];simp
theorem Good.p2 (g:Good K L) (hX:Col L X) (hf:∀e,e < L.length→X (2*e)=X (2*e+1)) {v:Nat} (hp:isP (la L v)=true):X (2*L.length+2*((atN L v+(axL L).length-1) % (axL L).length)+1)=X (2*loE L v):=by
 have hv:=zBi hp;have hpv:=zCQ hv
 cases hd:dwn L v with
 | true =>
  have e:=g.left_pass (d:=2*v+1) (by omega) (by rw [zCj];exact hp);rw [zCj,hd,if_neg (by simp)] at e;have:=hX.step (2*v+1) (by unfold zAu;omega);rw [e] at this;rw [this,←hf v hv];unfold loE;rw [hd];simp
 | false =>
  have e:=g.left_pass (d:=2*zCb L.length v) (by omega) (by rw [zBE hv];exact hp);rw [zBE hv,hd,if_neg (by simp)] at e;have:=hX.step (2*zCb L.length v) (by unfold zAu;omega);rw [e] at this;rw [this];unfold loE;rw [hd];simp
theorem Good.p3 (_g:Good K L) (hX:Col L X) (hf:∀e,e < L.length→X (2*e)=X (2*e+1)) {j:Nat} (hj:j < (axL L).length):X (2*L.length+2*j)=X (2*upE L (xat (axL L) ((j+1) % (axL L).length))):=by
 have ht:=zBW (L:=L) (j:=(j+1) % (axL L).length) (Nat.mod_lt _ (by omega));have hs:=hX.step (2*L.length+2*j) (by unfold zAu;omega);rw [←hs];unfold zAy;rw [if_pos (by omega),if_pos (by omega),show (2*L.length+2*j-2*L.length) / 2=j by omega];generalize xat (axL L) ((j+1) % (axL L).length)=v at ht ⊢;unfold upE
 cases hd:dwn L v with
 | true =>
  rw [if_pos rfl,Bool.not_true,zHZ,←hf _ (zCQ ht.2)]
 | false =>
  rw [Bool.not_false,zIa];simp
theorem Good.p4 (_g:Good K L) (hX:Col L X) (hf:∀e,e < L.length→X (2*e)=X (2*e+1)) {j:Nat} (hj:j < (axL L).length):X (2*L.length+2*j+1)=X (2*loE L (xat (axL L) j)):=by
 have ht:=zBW (L:=L) (j:=j) hj;have hs:=hX.step (2*L.length+2*j+1) (by unfold zAu;omega);rw [←hs];unfold zAy;rw [if_pos (by omega),if_neg (by omega),show (2*L.length+2*j+1-2*L.length) / 2=j by omega];generalize xat (axL L) j=v at ht ⊢;unfold loE
 cases hd:dwn L v with
 | true=>rw [if_pos rfl,zIa]
 | false=>rw [zHZ,←hf _ (zCQ ht.2)];simp
theorem Good.xat_at (g:Good K L) {v:Nat} (hp:isP (la L v)=true):xat (axL L) (atN L v)=v:=by unfold xat;rw [g.at_ hp];rfl
theorem Good.up_const (g:Good K L) (hX:Col L X) (hf:∀e,e < L.length→X (2*e)=X (2*e+1)):∀j,j < (axL L).length→X (2*upE L (xat (axL L) j))=X (2*upE L (xat (axL L) 0)):=by
 intro j
 induction j with
 | zero=>intro _;rfl
 | succ j ih =>
  intro hj;rw [←ih (by omega)];have h1:=g.p1 hX hf (zBW (L:=L) (j:=j) (by omega)).1;have h3:=g.p3 hX hf (j:=j) (by omega);rw [g.at_xat (by omega)] at h1;rw [Nat.mod_eq_of_lt hj] at h3;rw [←h1,←h3]
theorem Good.lo_const (g:Good K L) (hX:Col L X) (hf:∀e,e < L.length→X (2*e)=X (2*e+1)):∀j,j < (axL L).length→X (2*loE L (xat (axL L) j))=X (2*loE L (xat (axL L) 0)):=by
 intro j
 induction j with
 | zero=>intro _;rfl
 | succ j ih =>
  intro hj;rw [←ih (by omega)];have h1:=g.p2 hX hf (zBW (L:=L) (j:=j+1) hj).1;have h3:=g.p4 hX hf (j:=j) (by omega);rw [g.at_xat hj,show j+1+(axL L).length-1=j+(axL L).length by omega,Nat.add_mod_right,Nat.mod_eq_of_lt (show j < (axL L).length by omega)] at h1;rw [←h1,←h3]
theorem Good.edges (g:Good K L) (hX:Col L X) (hf:∀e,e < L.length→X (2*e)=X (2*e+1)):∀e,e < L.length→X (2*e)=if dwn L (e+1) then X (2*upE L (xat (axL L) 0)) else X (2*loE L (xat (axL L) 0)):=by
 have hu:∀v,isP (la L v)=true→X (2*upE L v)=X (2*upE L (xat (axL L) 0)):=fun v hv=>by
  have:=g.up_const hX hf (atN L v) (g.at_lt hv)
  rwa [g.xat_at hv] at this
 have hl:∀v,isP (la L v)=true→X (2*loE L v)=X (2*loE L (xat (axL L) 0)):=fun v hv=>by
  have:=g.lo_const hX hf (atN L v) (g.at_lt hv)
  rwa [g.xat_at hv] at this
 have pass:∀e,isP (la L e)=true→X (2*e)=if dwn L (e+1) then X (2*upE L (xat (axL L) 0)) else X (2*loE L (xat (axL L) 0)):=by
  intro e he;rw [zOt he];have h1:=hu e he;have h2:=hl e he;unfold upE at h1;unfold loE at h2
  cases hd:dwn L e with
  | true =>
   rw [hd,if_pos rfl] at h2;rw [h2];rfl
  | false =>
   rw [hd] at h1;simp only [Bool.false_eq_true,if_false] at h1;rw [h1];rfl
 intro e
 induction e with
 | zero=>intro _;exact pass 0 g.first
 | succ e ih =>
  intro he;rcases g.kinds (e+1) he with hp | hc
  ·exact pass (e+1) hp
  ·have hnp:isP (la L (e+1))=false:=by
    cases hq:isP (la L (e+1)) with
    | false=>rfl
    | true=>rw [zCq hq] at hc;cases hc
   rw [zUK hnp,←ih (by omega)];have f:=g.four hX hc;have hj:=zBB (g.other hc).2.1;rw [show e+1-1=e by omega] at f;have f2:=hf (zCr L (e+1)) hj;have f3:=hf (zCr L (e+1)-1) (by omega);rcases f with ⟨a,b,c,d⟩ | ⟨a,b,c,d⟩
   ·rw [a,f2,d]
   ·rw [a,←f3,c]
end
end
end Go.Proofs.YtlmdfmnbcndhoaaGreatDoor
namespace Go.Proofs.YtlmdfmnbcndhoaaGreatDoor
open Go.RowKit
def nxL (L:List Lt) (i:Nat):Lt:=la L ((i+1) % L.length)
def neB (L:List Lt) (i:Nat):Bool:=isP (nxL L i)&&((nxL L i).gate-(la L i).gate==1||(la L i).gate-(nxL L i).gate==1)
def poB (L:List Lt) (i:Nat):Bool:=!(isP (la L i)&&dwn L i)||neB L i
def zCR (L:List Lt):Bool:=zDl (poB L) L.length
theorem zLS (l:Lt) (w:World):Calls Tryz.prog 168 #[.agg #[.int .i64 l.kind,.int .i64 l.gate,.int .i64 l.rank,.int .i64 l.id,.int .i64 l.sign,.bool l.over]] w fun e w'=>e=.returned (.bool (isP l))∧Below w.heap.size w w':=by
 have hb:=(Below.refl w.heap.size w).alloc (Nat.le_refl _) (.cells #[.int .i64 l.kind,.int .i64 l.gate,.int .i64 l.rank,.int .i64 l.id,.int .i64 l.sign,.bool l.over] 76);have HR:=Lib.hid (show isP l=(l.kind==1) from rfl);rw [HR.out];go_enter Tryz.func168,Tryz.ntmps168;go_wp2_with fail
 go_ret;exact ⟨rfl,hb⟩
theorem zKI {l:Lt} {b:Bool} (h:isP l=b) (w:World):Calls Tryz.prog 168 #[.agg #[.int .i64 l.kind,.int .i64 l.gate,.int .i64 l.rank,.int .i64 l.id,.int .i64 l.sign,.bool l.over]] w fun e w'=>e=.returned (.bool b)∧Below w.heap.size w w':=by
 subst h;exact zLS l w
set_option maxHeartbeats 6400000 in
set_option maxRecDepth 100000 in
theorem zNY (K:Int) (A:Option Addr) (n c:Nat) (L:List Lt) (w:World) (hA:Lets w A n L) (hn:n≤400) (hg:∀i,i < n→isP (la L i)=true→0≤(la L i).gate∧(la L i).gate≤40) :
  Calls Tryz.prog 130 #[.agg #[.int .i64 K,.slice A n c]] w fun e w'=>e=.returned (.bool (zCR L))∧Below w.heap.size w w':=by
 have hLn:L.length=n:=hA.len;have hb0:=(Below.refl w.heap.size w).alloc (Nat.le_refl _) (.cells #[.int .i64 K,.slice A n c] 55);have hk0:Blk (w.alloc (.cells #[.int .i64 K,.slice A n c] 55)) w.heap.size 55 #[.int .i64 K,.slice A n c]:=Blk.new _ _ _;have hc1:(w.alloc (.cells #[.int .i64 K,.slice A n c] 55)).cell? ⟨w.heap.size,1,none⟩=some (.slice A n c):=(hk0.cell 1).trans rfl;have HN:=Lib.hid hLn;have HG:=Lib.hid hg;clear hLn hg;go_enter Tryz.func130,Tryz.ntmps130;go_wp2_with fail
 generalize w.alloc (.cells #[.int .i64 K,.slice A n c] 55)=Y at hb0 hk0 hc1 ⊢;go_loopw [3,10] (fun v3 v10 wr=>∃(i:Nat) (X:World),X=wr∧i≤n∧v10=.int .i64 i∧v3=.bool (!dwn L i)∧Below Y.heap.size Y X∧Hid (∀j,j < i→poB L j=true)) (fun _ v10 _=>n-(intOf v10).toNat)
 case atStart=>exact ⟨0,_,rfl,by omega,rfl,rfl,Below.refl _ _,Lib.hid (fun j hj=>by omega)⟩
 case round =>
  obtain ⟨i,X,hX,hi,rfl,rfl,hb,HS⟩:=hrel;subst hX;have hA2:=(hA.below hb0).below hb;by_cases hlt:i < n
  ·have j0:(0:Int)≤(i:Int):=by omega
   have j1:(i:Int) < (n:Int):=by omega
   obtain ⟨g,o,rfl,hgl,hat,hok⟩:=hA2.at_ hlt;have x0:=hat.kind;have x1:=hat.gate;have x2:=hat.rank;have x3:=hat.id;have x4:=hat.sign;have x5:=hat.over;obtain ⟨b,hbp⟩:∃b,isP (la L i)=b:=⟨_,rfl⟩
   have HIP:=Lib.hid (fun wx=>zKI hbp wx);have hbX:=(Below.refl X.heap.size X).alloc (Nat.le_refl _) (.cells #[.int .i64 (la L i).kind,.int .i64 (la L i).gate,.int .i64 (la L i).rank,.int .i64 (la L i).id,.int .i64 (la L i).sign,.bool (la L i).over] 76);have hl5:Blk (X.alloc (.cells #[.int .i64 (la L i).kind,.int .i64 (la L i).gate,.int .i64 (la L i).rank,.int .i64 (la L i).id,.int .i64 (la L i).sign,.bool (la L i).over] 76)) X.heap.size 76 #[.int .i64 (la L i).kind,.int .i64 (la L i).gate,.int .i64 (la L i).rank,.int .i64 (la L i).id,.int .i64 (la L i).sign,.bool (la L i).over]:=Blk.new _ _ _;have hbY:=zAa hb hbX hb.size;go_wp2_with fail
   clear x0 x1 x2 x3 x4 x5;generalize X.alloc (.cells #[.int .i64 (la L i).kind,.int .i64 (la L i).gate,.int .i64 (la L i).rank,.int .i64 (la L i).id,.int .i64 (la L i).sign,.bool (la L i).over] 76)=X2 at hbX hl5 hbY ⊢;refine (HIP.out X2).mono ?_;rintro e X3 ⟨rfl,hb3⟩;have hbZ:=zAa hbY hb3 hbY.size;have hl6:=hl5.below hb3 hl5.lt;generalize X.heap.size=b5 at hl6 ⊢;clear hbX hl5 hbY hb3 hat;have HBP:=Lib.hid hbp
   cases b with
   | false =>
    have hd1:dwn L (i+1)=dwn L i:=zUK hbp
    have HS2:=Lib.hid (show ∀j,j < i+1→poB L j=true from fun j hj=>by
     rcases Nat.decEq j i with e | e
     ·exact HS.out j (by omega)
     ·rw [e];unfold poB;rw [hbp];rfl)
    have HD:=Lib.hid hd1;clear hbp hd1 hok hl6 hA2 hb;go_wp2_with fail
    go_roundw
    case rel=>exact ⟨i+1,_,rfl,by omega,by go_num,by rw [HD.out],hbZ,HS2⟩
    case measure=>simp [intOf];omega
   | true =>
    have hd1:dwn L (i+1) = !dwn L i:=zOt hbp;have HD:=Lib.hid hd1;have hgi:=HG.out i hlt hbp;obtain ⟨t,ht⟩:∃t,t=(i+1) % n:=⟨_,rfl⟩
    have htn:t < n:=by rw [ht];exact Nat.mod_lt _ (by omega)
    obtain ⟨g',o',he,hgl',hat',hok'⟩:=hA2.at_ htn;injection he with he
    injection he with he1 he2
    subst he1;subst he2;have HNX:=Lib.hid (show nxL L i=la L t by unfold nxL;rw [HN.out,←ht]);have hgt:=HG.out t htn;have hk3:=hk0.below hbZ hk0.lt;have hA3:=(hA.below hb0).below hbZ;have c3:X3.cell? ⟨w.heap.size,1,none⟩=some (.slice (some ⟨g,o,none⟩) n c):=(hk3.cell 1).trans rfl;obtain ⟨y0,y1,y2,y3,y4,y5⟩:=(hA3.also htn).1;have q3:((i:Int)+1) % (n:Int)=(t:Int):=by rw [ht];simp
    have q11:((i:Int)+1).tmod (n:Int)=(t:Int):=by rw [Int.tmod_eq_emod_of_nonneg (by omega)];exact q3
    have q16:IntKind.i64.wrap ((i:Int)+1)=(i:Int)+1:=IntWalk.i64_in _ (by omega);have q17:IntKind.i64.wrap (t:Int)=(t:Int):=IntWalk.i64_in _ (by omega);have q20:¬n=0:=by omega
    have q4:(0:Int)≤(t:Int):=by omega
    have q5:(t:Int) < (n:Int):=by omega
    have bN:=(Below.refl X3.heap.size X3).alloc (Nat.le_refl _) (.cells #[.int .i64 (la L t).kind,.int .i64 (la L t).gate,.int .i64 (la L t).rank,.int .i64 (la L t).id,.int .i64 (la L t).sign,.bool (la L t).over] 76);have kN:Blk (X3.alloc (.cells #[.int .i64 (la L t).kind,.int .i64 (la L t).gate,.int .i64 (la L t).rank,.int .i64 (la L t).id,.int .i64 (la L t).sign,.bool (la L t).over] 76)) X3.heap.size 76 #[.int .i64 (la L t).kind,.int .i64 (la L t).gate,.int .i64 (la L t).rank,.int .i64 (la L t).id,.int .i64 (la L t).sign,.bool (la L t).over]:=Blk.new _ _ _;have lN:=hl6.below bN hl6.lt;have hbN:=zAa hbZ bN hbZ.size;obtain ⟨d,hd⟩:∃d,dwn L i=d:=⟨_,rfl⟩
    rw [hd] at hd1 HD ⊢;have HDD:=Lib.hid hd;have bZ:=(Below.refl X3.heap.size X3).alloc (Nat.le_refl _) (.cells #[.int .i64 0,.int .i64 0,.int .i64 0,.int .i64 0,.int .i64 0,.bool false] 76);have c3z:(X3.alloc (.cells #[.int .i64 0,.int .i64 0,.int .i64 0,.int .i64 0,.int .i64 0,.bool false] 76)).cell? ⟨w.heap.size,1,none⟩=some (.slice (some ⟨g,o,none⟩) n c):=((hk3.below bZ hk3.lt).cell 1).trans rfl;obtain ⟨z0,z1,z2,z3,z4,z5⟩:=((hA3.below bZ).also htn).1;clear ht hbp hd1 hok hA2 hb hd bZ;go_upto_region 7 with fail
    go_region
    clear c3 c3z y0 y1 y2 y3 y4 y5 z0 z1 z2 z3 z4 z5 q3 q11 q16 q17 q20 q4 q5 hk3 hA3 hl6 bN;generalize X3.alloc (.cells #[.int .i64 (la L t).kind,.int .i64 (la L t).gate,.int .i64 (la L t).rank,.int .i64 (la L t).id,.int .i64 (la L t).sign,.bool (la L t).over] 76)=X4 at kN lN hbN ⊢;generalize X3.heap.size=b6 at kN ⊢;have kN:=kN.drew;have lN:=lN.drew;have hbN:=hbN.drew;generalize X4.drew=X5 at kN lN hbN ⊢;obtain ⟨f0,f1,f2,f3,f4,f5⟩:=cQ6 kN
    cases d with
    | false =>
     have hp1:poB L i=true:=by unfold poB;rw [HDD.out,Bool.and_false];rfl
     have HS2:=Lib.hid (show ∀j,j < i+1→poB L j=true from fun j hj=>by
      rcases Nat.decEq j i with e | e
      ·exact HS.out j (by omega)
      ·rw [e];exact hp1)
     clear hp1 HS;go_wp2_with fail
     go_roundw
     case rel=>exact ⟨i+1,_,rfl,by omega,by go_num,by rw [HD.out];rfl,hbN,HS2⟩
     case measure=>simp [intOf];omega
    | true =>
     obtain ⟨p,hp⟩:∃p,isP (la L t)=p:=⟨_,rfl⟩
     have HIP2:=Lib.hid (fun wx=>zKI hp wx);have hpe:poB L i=(p&&((la L t).gate-(la L i).gate==1||(la L i).gate-(la L t).gate==1)):=by
      unfold poB neB;rw [HDD.out,HBP.out,HNX.out,hp];rfl
     have HPE:=Lib.hid hpe;have HP:=Lib.hid hp;clear hpe hp
     cases p with
     | false =>
      have HF:=Lib.hid (show zCR L=false from zDm (by rw [HN.out];exact hlt) (by rw [HPE.out];rfl));clear HS;go_wp2_with fail
      refine (HIP2.out X5).mono ?_;rintro e X6 ⟨rfl,hb6⟩;have hbw:=zAa hb0 (zAa hbN hb6 hbN.size) hb0.size;clear f0 f1 f2 f3 f4 f5 hb6;go_wp2_with fail
      go_ret;exact ⟨by rw [HF.out];rfl,hbw⟩
     | true =>
      have hgt2:=hgt HP.out;obtain ⟨x,hx⟩:∃x,(la L i).gate=x:=⟨_,rfl⟩
      obtain ⟨y,hy⟩:∃y,(la L t).gate=y:=⟨_,rfl⟩
      have HXY:=Lib.hid (show poB L i=(y-x==1||x-y==1) by rw [HPE.out,hx,hy];rfl);rw [hx] at hgi lN;rw [hy] at hgt2 f1 kN;clear hgt HPE;have hE1:∀q,q=(y-x==1||x-y==1)→q=false→Hid (zCR L=false):=fun q h1 h2=>Lib.hid (zDm (by rw [HN.out];exact hlt) (by rw [HXY.out,←h1,h2]))
      have HE1:=Lib.hid hE1
      have HS2:=Lib.hid (show ∀q,q=(y-x==1||x-y==1)→q=true→∀j,j < i+1→poB L j=true from fun q h1 h2 j hj=>by
       rcases Nat.decEq j i with e | e
       ·exact HS.out j (by omega)
       ·rw [e,HXY.out,←h1,h2])
      have HIP3:=Lib.hid (HIP2.out X5);rw [hy] at HIP3;clear hE1 HS hx hy HXY HIP2;go_wp2_with fail
      refine HIP3.out.mono ?_;rintro e X6 ⟨rfl,hb6⟩;have hbM:=zAa hbN hb6 hbN.size;have hbw:=zAa hb0 hbM hb0.size;have k6:=kN.below hb6 kN.lt;have l6:=lN.below hb6 lN.lt;clear f0 f1 f2 f3 f4 f5 hb6 kN lN HIP3;have f1:X6.cell? ⟨b6,1,none⟩=some (.int .i64 y):=(k6.cell 1).trans rfl;have g1:X6.cell? ⟨b5,1,none⟩=some (.int .i64 x):=(l6.cell 1).trans rfl;have w1:wrap64 (y-x)=y-x:=by unfold wrap64;omega
      have w2:wrap64 (x-y)=x-y:=by unfold wrap64;omega
      have w3:IntKind.i64.wrap (y-x)=y-x:=IntWalk.i64_in _ (by omega);have w4:IntKind.i64.wrap (x-y)=x-y:=IntWalk.i64_in _ (by omega);clear k6 l6;by_cases c1:y-x=1
      ·have d1:(y-x != 1)=false:=by simpa using c1
       have HS3:=Lib.hid (HS2.out true (by simp [c1]) rfl);clear c1 HS2;go_wp2_with fail
       go_roundw
       case rel=>exact ⟨i+1,_,rfl,by omega,by go_num,by rw [HD.out];rfl,hbM,HS3⟩
       case measure=>simp [intOf];omega
      ·have d1:(y-x != 1)=true:=by simpa using c1
       by_cases c2:x-y=1
       ·have d2:(x-y != 1)=false:=by simpa using c2
        have HS3:=Lib.hid (HS2.out true (by simp [c2]) rfl);clear c1 c2 HS2;go_wp2_with fail
        go_roundw
        case rel=>exact ⟨i+1,_,rfl,by omega,by go_num,by rw [HD.out];rfl,hbM,HS3⟩
        case measure=>simp [intOf];omega
       ·have d2:(x-y != 1)=true:=by simpa using c2
        have HF:=HE1.out false (by simp [c1,c2]) rfl;clear c1 c2 HS2 HE1;go_wp2_with fail
        go_ret;exact ⟨by rw [HF.out];rfl,hbw⟩
  ·have j1:¬(i:Int) < (n:Int):=by omega
   have hr:=Lib.hid (show zCR L=true by
    unfold zCR
    rw [HN.out]
    exact zAt.2 (fun j hj=>HS.out j (by omega)))
   have hbw:=zAa hb0 hb hb0.size;clear hlt HS hA2 hb;go_wp2_with fail
   go_ret;exact ⟨by rw [hr.out];rfl,hbw⟩
end Go.Proofs.YtlmdfmnbcndhoaaGreatDoor
namespace Go.Proofs.YtlmdfmnbcndhoaaGreatDoor
structure Tame (K:Int) (L:List Lt):Prop where
 lo:0≤K
 hi:K≤40
 len:L.length≤400
 pass:∀i,i < L.length→isP (la L i)=true→0≤(la L i).gate∧(la L i).gate≤K∧1≤(la L i).rank∧(la L i).rank≤400
 kinds:∀i,i < L.length→isP (la L i)=true∨isC (la L i)=true
 sign:∀i,i < L.length→isC (la L i)=true→(la L i).sign=1∨(la L i).sign = -1
theorem zEW {K:Int} {L:List Lt} (h:zAB K L=0):0≤K∧K≤40∧L.length≤400∧(L.length=0∨zAQ K L=true):=by
 unfold zAB at h;by_cases h1:400 < L.length∨200 < cN L L.length
 ·rw [if_pos h1] at h;cases h
 ·rw [if_neg h1] at h;by_cases h2:K < 0∨40 < K
  ·rw [if_pos h2] at h;cases h
  ·rw [if_neg h2] at h;by_cases h3:L.length=0
   ·exact ⟨by omega,by omega,by omega,.inl h3⟩
   ·rw [if_neg h3] at h
    cases hv:zAQ K L with
    | true=>exact ⟨by omega,by omega,by omega,.inr rfl⟩
    | false=>rw [hv] at h;cases h
theorem zCu {K:Int} {L:List Lt} (h:zAB K L=0):Tame K L:=by
 obtain ⟨h1,h2,h3,h4⟩:=zEW h;rcases h4 with h4 | h4
 ·exact ⟨h1,h2,h3,fun i hi=>by omega,fun i hi=>by omega,fun i hi=>by omega⟩
 ·rcases Nat.eq_zero_or_pos L.length with h0 | h0
  ·exact ⟨h1,h2,h3,fun i hi=>by omega,fun i hi=>by omega,fun i hi=>by omega⟩
  ·have g:=zDr h0 h4;refine ⟨h1,h2,h3,fun i hi hp=>?_,g.kinds,fun i hi hc=>?_⟩
   ·have a1:=g.gates i hi hp;have a2:=g.rank hp;have a3:gN L (la L i).gate L.length≤L.length:=zBv _ _;omega
   ·unfold zAQ at h4;rw [←zCg] at h4;simp only [Bool.and_eq_true] at h4;have h5:=h4.1.2.1.1;unfold zAA at h5;have h6:=zAt.1 h5 i hi;have k2:(la L i).kind=2:=by unfold isC at hc;simpa using hc
    unfold lpB at h6;rw [if_neg (by omega),if_pos k2] at h6;simp only [decide_eq_true_eq] at h6;exact h6.2.2
end Go.Proofs.YtlmdfmnbcndhoaaGreatDoor
