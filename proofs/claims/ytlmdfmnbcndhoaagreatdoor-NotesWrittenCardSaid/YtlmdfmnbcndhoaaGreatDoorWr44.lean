/-
  Plain: a map of darts that carries walks to walks: then there are no more walks behind it than ahead of it. No walk of the program.
  Plain: the swapped, mirrored, turned code, and the one that is traveled backwards. No walk of the program.
  Plain: the renamed code; the order of letters and of codes; the normal form. No walk of the program.
  Plain: images of a code: a map of letters under which walks go to walks (the same way round, or the other way round). No walk of the program.
  Plain: a code whose letters are carried over one by one is valid as the code is. No walk of the program.
  Plain: the code that begins elsewhere, is traveled backwards, mirrored, turned, swapped or renamed is valid again. No walk of the program.
  Plain: the swapped, renamed, mirrored and turned code is valid again. No walk of the program.
  Plain: the normal form is the least of the renamed codes of one string; it does not depend on where the string begins, which way it is traveled, how its crossings are named. No walk of the program.
  Plain: what keeps a code without error, and its normal form, told by the error of codes. No walk.
-/
import Derived.Test.YtlmdfmnbcndhoaaGreatDoorWr32
import Derived.Test.YtlmdfmnbcndhoaaGreatDoorWr42
import Derived.Test.YtlmdfmnbcndhoaaGreatDoorWr33
namespace Go.Proofs.YtlmdfmnbcndhoaaGreatDoor
/-- As many boxes as pigeons. -/
theorem pigeon:∀{a b:Nat} {f:Nat→Nat},(∀i,i < a→f i < b)→(∀i j,i < a→j < a→f i=f j→i=j)→a≤b
 | 0,_,_,_,_=>Nat.zero_le _
 | a+1,b,f,hb,hi=>by
  have h0:0 < b:=Nat.lt_of_le_of_lt (Nat.zero_le _) (hb a (by omega))
  have:=pigeon (a:=a) (b:=b-1) (f:=fun i=>if f i < f a then f i else f i-1) (fun i h=>by
   have h1:=hb i (by omega)
   have h2:=hb a (by omega)
   have h3:f i≠f a:=fun e=>by have:=hi i a (by omega) (by omega) e;omega
   show (if f i < f a then f i else f i-1) < b-1
   split<;>omega) (fun i j h1 h2 e=>by
   have h3:f i≠f a:=fun e=>by have:=hi i a (by omega) (by omega) e;omega
   have h4:f j≠f a:=fun e=>by have:=hi j a (by omega) (by omega) e;omega
   refine hi i j (by omega) (by omega) ?_
   change (if f i < f a then f i else f i-1)=(if f j < f a then f j else f j-1) at e
   split at e<;>split at e<;>omega)
  omega
theorem zEC {α:Type} {f:Nat→Nat} {N:Nat} {h:Nat→α} (into:∀x,x < N→f x < N) (hh:∀x,x < N→h (f x)=h x):∀(k:Nat) (s:List Bool) (x:Nat),x < N→∀y∈(zBF f k s x).1,h y=h x
 | 0,_,_,_,y,hy=>by simp [zBF] at hy
 | k+1,s,x,hx,y,hy=>by
  unfold zBF at hy
  by_cases hs:sat s x=true
  ·rw [if_pos hs] at hy;cases hy
  ·rw [if_neg hs] at hy
   rcases List.mem_cons.1 hy with rfl | hy
   ·rfl
   ·rw [zEC into hh k _ (f x) (into x hx) y hy,hh x hx]
theorem zED {α:Type} {f:Nat→Nat} {N:Nat} {h:Nat→α} (into:∀x,x < N→f x < N) (hh:∀x,x < N→h (f x)=h x):∀(ds:List Nat) (s:List Bool),(∀d∈ds,d < N)→∀W∈zAX f ds s,∀x∈W,∀y∈W,h x=h y
 | [],_,_,W,hW=>by cases hW
 | d :: ds,s,hds,W,hW=>by
  unfold zAX at hW
  by_cases hs:sat s d=true
  ·rw [if_pos hs] at hW
   exact zED into hh ds s (fun d' hd'=>hds d' (List.mem_cons_of_mem _ hd')) W hW
  ·rw [if_neg hs] at hW
   rcases List.mem_cons.1 hW with rfl | hW
   ·intro x hx y hy
    rw [zEC into hh _ _ d (hds d (List.mem_cons_self ..)) x hx,zEC into hh _ _ d (hds d (List.mem_cons_self ..)) y hy]
   ·exact zED into hh ds _ (fun d' hd'=>hds d' (List.mem_cons_of_mem _ hd')) W hW
/-- No more walks behind than ahead. -/
theorem walks_le {f g:Nat→Nat} {N M:Nat} (finj:∀x y,x < N→y < N→f x=f y→x=y) (finto:∀x,x < N→f x < N) (ginj:∀x y,x < M→y < M→g x=g y→x=y) (ginto:∀x,x < M→g x < M)
  (φ:Nat→Nat) (hφ:∀x,x < N→φ x < M) (hsur:∀y,y < M→∃x,x < N∧φ x=y) (hstep:∀x,x < N→φ (f x)=g (φ x)∨g (φ (f x))=φ x) :
  (zAX g (List.range M) (List.replicate M false)).length≤(zAX f (List.range N) (List.replicate N false)).length:=by
 obtain ⟨lf,a1,a2,a3,a4⟩:=zHh finj finto rfl
 obtain ⟨lg,b1,b2,b3,b4⟩:=zHh ginj ginto rfl
 have hc:∀x,x < N→lg (φ (f x))=lg (φ x):=by
  intro x hx
  rcases hstep x hx with e | e
  ·rw [e];exact b3 _ (hφ x hx)
  ·rw [←e];exact (b3 _ (hφ _ (finto x hx))).symm
 have hex:∀k,k < (zAX g (List.range M) (List.replicate M false)).length→∃x,x < N∧lg (φ x)=k:=by
  intro k hk
  obtain ⟨y,hy,e⟩:=b4 k hk
  obtain ⟨x,hx,rfl⟩:=hsur y hy
  exact ⟨x,hx,e⟩
 let c:Nat→Nat:=fun k=>if h:k < (zAX g (List.range M) (List.replicate M false)).length then Classical.choose (hex k h) else 0
 have hcs:∀k,k < (zAX g (List.range M) (List.replicate M false)).length→c k < N∧lg (φ (c k))=k:=by
  intro k hk
  have:c k=Classical.choose (hex k hk):=dif_pos hk
  rw [this]
  exact Classical.choose_spec (hex k hk)
 refine pigeon (f:=fun k=>lf (c k)) (fun k hk=>?_) (fun j k hj hk e=>?_)
 ·obtain ⟨W,hW,_⟩:=a1 (c k) (hcs k hk).1
  exact (List.getElem?_eq_some_iff.1 hW).1
 ·obtain ⟨W,hW,hxW⟩:=a1 (c j) (hcs j hj).1
  obtain ⟨V,hV,hyV⟩:=a1 (c k) (hcs k hk).1
  change lf (c j)=lf (c k) at e
  rw [e] at hW
  rw [hW] at hV
  injection hV with hV
  subst hV
  have:=zED (h:=fun x=>lg (φ x)) finto hc (List.range N) (List.replicate N false) (by simp) W (List.mem_of_getElem? hW) (c j) hxW (c k) hyV
  change lg (φ (c j))=lg (φ (c k)) at this
  rw [(hcs j hj).2,(hcs k hk).2] at this
  exact this
end Go.Proofs.YtlmdfmnbcndhoaaGreatDoor
namespace Go.Proofs.YtlmdfmnbcndhoaaGreatDoor
def swLt (x:Lt):Lt:=if isC x then { x with over:=!x.over,sign:=-x.sign } else x
theorem sw_c {x:Lt} (h:isC x=true):swLt x={ x with over:=!x.over,sign:=-x.sign }:=by unfold swLt;rw [if_pos h]
theorem sw_n {x:Lt} (h:isC x=false):swLt x=x:=by unfold swLt;rw [if_neg (by rw [h];simp)]
def zBR (L:List Lt):List Lt:=L.map swLt
end Go.Proofs.YtlmdfmnbcndhoaaGreatDoor
namespace Go.Proofs.YtlmdfmnbcndhoaaGreatDoor
/-- One letter before another one. -/
def lsB (a b:Lt):Bool :=
 if a.kind≠b.kind then decide (a.kind < b.kind) else if a.gate≠b.gate then decide (a.gate < b.gate) else if a.rank≠b.rank then decide (a.rank < b.rank)
 else if a.id≠b.id then decide (a.id < b.id) else if a.over≠b.over then b.over else decide (a.sign < b.sign)
/-- One list of letters before another one. -/
def bfB:List Lt→List Lt→Bool
 | a :: A,b :: B=>if a=b then bfB A B else lsB a b
 | _,_=>false
def pick (best:List Lt) (y:List Lt):List Lt:=if bfB y best then y else best
end Go.Proofs.YtlmdfmnbcndhoaaGreatDoor
namespace Go.Proofs.YtlmdfmnbcndhoaaGreatDoor
/-- The dart that arrives at a letter; the letter that is next. -/
def arrN (n i:Nat) (f:Bool):Nat:=if f then 2*((i+n-1) % n) else 2*i+1
def nxN (n i:Nat) (f:Bool):Nat:=if f then (i+1) % n else (i+n-1) % n
theorem mod_up {n i:Nat} (hi:i < n):(i+1=n∧(i+1) % n=0)∨(i+1 < n∧(i+1) % n=i+1):=by
 rcases Nat.lt_or_ge (i+1) n with h | h
 ·exact .inr ⟨h,Nat.mod_eq_of_lt h⟩
 ·left;have:i+1=n:=by omega
  exact ⟨this,by rw [this,Nat.mod_self]⟩
theorem mod_dn {n i:Nat} (hi:i < n):(i=0∧(i+n-1) % n=n-1)∨(0 < i∧(i+n-1) % n=i-1):=by
 rcases Nat.eq_zero_or_pos i with h0 | h0
 ·left;subst h0;exact ⟨rfl,by rw [Nat.zero_add,Nat.mod_eq_of_lt (by omega)]⟩
 ·right
  refine ⟨h0,?_⟩
  rw [show i+n-1=(i-1)+n by omega,Nat.add_mod_right,Nat.mod_eq_of_lt (by omega)]
theorem nx_lt {n i:Nat} {f:Bool} (hi:i < n):nxN n i f < n:=by
 unfold nxN
 split<;>exact Nat.mod_lt _ (by omega)
theorem nx_nx {n i:Nat} {f:Bool} (hi:i < n):nxN n (nxN n i f) (!f)=i:=by
 have a:=mod_up hi
 have b:=mod_dn hi
 cases f
 ·show ((i+n-1) % n+1) % n=i
  have c:=mod_up (n:=n) (i:=(i+n-1) % n) (Nat.mod_lt _ (by omega))
  omega
 ·show ((i+1) % n+n-1) % n=i
  have c:=mod_dn (n:=n) (i:=(i+1) % n) (Nat.mod_lt _ (by omega))
  omega
theorem arr_lt {n i:Nat} {f:Bool} (hi:i < n):arrN n i f < 2*n:=by
 have b:=mod_dn hi
 unfold arrN
 split<;>omega
theorem zDo {n i:Nat} {f:Bool} (hi:i < n):zAy n (arrN n i f)=i:=by
 have b:=mod_dn hi
 cases f
 ·show (if (2*i+1) % 2=0 then ((2*i+1) / 2+1) % n else (2*i+1) / 2)=i
  rw [if_neg (by omega)];omega
 ·show (if 2*((i+n-1) % n) % 2=0 then (2*((i+n-1) % n) / 2+1) % n else 2*((i+n-1) % n) / 2)=i
  rw [if_pos (by omega),show 2*((i+n-1) % n) / 2=(i+n-1) % n by omega]
  have c:=mod_up (n:=n) (i:=(i+n-1) % n) (Nat.mod_lt _ (by omega))
  omega
theorem zHm {n i:Nat} {f:Bool}:(arrN n i f % 2==0)=f:=by
 cases f
 ·show ((2*i+1) % 2==0)=false
  rw [show (2*i+1) % 2=1 by omega];rfl
 ·show (2*((i+n-1) % n) % 2==0)=true
  rw [show 2*((i+n-1) % n) % 2=0 by omega];rfl
theorem arr_eq {n d:Nat} (hd:d < 2*n):d=arrN n (zAy n d) (d % 2==0):=by
 refine zEM hd (arr_lt (zBu hd)) ?_ (zDo (zBu hd)).symm
 have:(arrN n (zAy n d) (d % 2==0) % 2==0)=(d % 2==0):=zHm
 rcases Nat.mod_two_eq_zero_or_one d with a | a<;>rw [a] at this ⊢<;>simp at this<;>simp<;>omega
theorem along_arr {n i:Nat} {f:Bool} (hi:i < n):zAC n i f=arrN n (nxN n i f) f:=by
 have a:=mod_up hi
 have b:=mod_dn hi
 cases f
 ·rfl
 ·show 2*i=2*(((i+1) % n+n-1) % n)
  have c:=mod_dn (n:=n) (i:=(i+1) % n) (Nat.mod_lt _ (by omega))
  omega
def samB (l:Lt):Bool:=l.over==(l.sign==1)
section
variable {K K':Int} {L M:List Lt}
theorem Good.l_cross (g:Good K L) {i:Nat} {f:Bool} (hc:isC (la L i)=true):zAV L (axL L) (arrN L.length i f)=zAC L.length (othN L i) (f==samB (la L i)):=by
 have hi:=zAR hc
 rw [g.left_cross (arr_lt hi) (by rw [zDo hi];exact hc),zDo hi,zHm];rfl
theorem Good.l_pass (g:Good K L) {i:Nat} {f:Bool} (hp:isP (la L i)=true):zAV L (axL L) (arrN L.length i f)=if dwn L i==f then 2*L.length+2*atN L i else 2*L.length+2*((atN L i+(axL L).length-1) % (axL L).length)+1:=by
 have hi:=zAH hp
 rw [g.left_pass (arr_lt hi) (by rw [zDo hi];exact hp),zDo hi,zHm]
theorem l_right {j:Nat}:zAV L (axL L) (2*L.length+2*j)=zAC L.length (xat (axL L) ((j+1) % (axL L).length)) (!dwn L (xat (axL L) ((j+1) % (axL L).length))):=by
 unfold zAV
 rw [if_pos (by omega),if_pos (by omega),show (2*L.length+2*j-2*L.length) / 2=j by omega]
theorem l_left {j:Nat}:zAV L (axL L) (2*L.length+2*j+1)=zAC L.length (xat (axL L) j) (dwn L (xat (axL L) j)):=by
 unfold zAV
 rw [if_pos (by omega),if_neg (by omega),show (2*L.length+2*j+1-2*L.length) / 2=j by omega]
/-- An image of a code. -/
structure Img (L M:List Lt) (rev dfl sfl:Bool) (a:Nat→Nat) (τ σ:Nat→Nat):Prop where
 len:M.length=L.length
 lt:∀i,i < L.length→τ i < L.length
 gt:∀i,i < L.length→σ i < L.length
 st:∀i,i < L.length→σ (τ i)=i
 ts:∀i,i < L.length→τ (σ i)=i
 nxt:∀i f,i < L.length→τ (nxN L.length i f)=nxN L.length (τ i) (f != rev)
 isP:∀i,i < L.length→isP (la M (τ i))=isP (la L i)
 isC:∀i,i < L.length→isC (la M (τ i))=isC (la L i)
 oth:∀i,Go.Proofs.YtlmdfmnbcndhoaaGreatDoor.isC (la L i)=true→othN M (τ i)=τ (othN L i)
 sam:∀i,Go.Proofs.YtlmdfmnbcndhoaaGreatDoor.isC (la L i)=true→samB (la M (τ i))=(samB (la L i) != sfl)
 at_:∀i,Go.Proofs.YtlmdfmnbcndhoaaGreatDoor.isP (la L i)=true→atN M (τ i)=a (atN L i)
 dwn:∀i,Go.Proofs.YtlmdfmnbcndhoaaGreatDoor.isP (la L i)=true→dwn M (τ i)=(dwn L i != dfl)
 pN:pN M L.length=pN L L.length
variable {rev dfl sfl:Bool} {a:Nat→Nat} {τ σ:Nat→Nat}
theorem Img.axl (h:Img L M rev dfl sfl a τ σ):(axL M).length=(axL L).length:=by rw [zDB,zDB,h.len,h.pN]
theorem Img.xat (h:Img L M rev dfl sfl a τ σ) (g:Good K L) (g':Good K' M) {j:Nat} (hj:j < (axL L).length):Go.Proofs.YtlmdfmnbcndhoaaGreatDoor.xat (axL M) (a j)=τ (Go.Proofs.YtlmdfmnbcndhoaaGreatDoor.xat (axL L) j):=by
 have hp:=zBp hj
 have e:=g.at_xat hj
 have e2:=h.at_ _ hp.1
 rw [e] at e2
 have e3:=g'.at_ (i:=τ (Go.Proofs.YtlmdfmnbcndhoaaGreatDoor.xat (axL L) j)) (by rw [h.isP _ hp.2];exact hp.1)
 rw [e2] at e3
 conv=>lhs;unfold Go.Proofs.YtlmdfmnbcndhoaaGreatDoor.xat
 rw [e3];rfl
theorem Img.symm (h:Img L M rev dfl sfl a τ σ) (g:Good K L) {b:Nat→Nat} (hb:∀j,j < (axL L).length→b (a j)=j):Img M L rev dfl sfl b σ τ:=by
 have hl:=h.len
 refine ⟨h.len.symm,?_,?_,?_,?_,?_,?_,?_,?_,?_,?_,?_,by rw [h.len,h.pN]⟩
 ·rw [hl];exact h.gt
 ·rw [hl];exact h.lt
 ·rw [hl];exact h.ts
 ·rw [hl];exact h.st
 ·rw [hl]
  intro i f hi
  have:=h.nxt (σ i) (f != rev) (h.gt i hi)
  rw [h.ts i hi,show ((f != rev) != rev)=f by cases f<;>cases rev<;>rfl] at this
  rw [←this,h.st _ (nx_lt (h.gt i hi))]
 ·rw [hl]
  intro i hi
  rw [←h.isP _ (h.gt i hi),h.ts i hi]
 ·rw [hl]
  intro i hi
  rw [←h.isC _ (h.gt i hi),h.ts i hi]
 ·intro i hc
  have hi:i < L.length:=by rw [←hl];exact zAR hc
  have hc2:Go.Proofs.YtlmdfmnbcndhoaaGreatDoor.isC (la L (σ i))=true:=by rw [←h.isC _ (h.gt i hi),h.ts i hi];exact hc
  have:=h.oth _ hc2
  rw [h.ts i hi] at this
  rw [this,h.st]
  exact zAR (g.other hc2).2.1
 ·intro i hc
  have hi:i < L.length:=by rw [←hl];exact zAR hc
  have hc2:Go.Proofs.YtlmdfmnbcndhoaaGreatDoor.isC (la L (σ i))=true:=by rw [←h.isC _ (h.gt i hi),h.ts i hi];exact hc
  have:=h.sam _ hc2
  rw [h.ts i hi] at this
  rw [this]
  cases samB (la L (σ i))<;>cases sfl<;>rfl
 ·intro i hp
  have hi:i < L.length:=by rw [←hl];exact zAH hp
  have hp2:Go.Proofs.YtlmdfmnbcndhoaaGreatDoor.isP (la L (σ i))=true:=by rw [←h.isP _ (h.gt i hi),h.ts i hi];exact hp
  have:=h.at_ _ hp2
  rw [h.ts i hi] at this
  rw [this,hb _ (g.at_lt hp2)]
 ·intro i hp
  have hi:i < L.length:=by rw [←hl];exact zAH hp
  have hp2:Go.Proofs.YtlmdfmnbcndhoaaGreatDoor.isP (la L (σ i))=true:=by rw [←h.isP _ (h.gt i hi),h.ts i hi];exact hp
  have:=h.dwn _ hp2
  rw [h.ts i hi] at this
  rw [this]
  cases Go.Proofs.YtlmdfmnbcndhoaaGreatDoor.dwn L (σ i)<;>cases dfl<;>rfl
/-- The same way round. -/
theorem Img.le_same (h:Img L M rev rev false id τ σ) (g:Good K L) (g':Good K' M):(zCr M).length≤(zCr L).length:=by
 have hax:=h.axl
 have hdn:zAq M=zAq L:=by unfold zAq;rw [h.len,hax]
 refine walks_le g.inj (fun _ h=>g.into h) g'.inj (fun _ h=>g'.into h) (fun x=>if x < 2*L.length then arrN L.length (τ (zAy L.length x)) ((x % 2==0) != rev) else x) ?_ ?_ ?_
 ·intro x hx
  show (if _ then _ else _) < _
  rw [hdn]
  split
  ·have:=arr_lt (f:=(x % 2==0) != rev) (h.lt _ (zBu (by assumption:x < 2*L.length)))
   unfold zAq;omega
  ·exact hx
 ·intro y hy
  rw [hdn] at hy
  rcases Nat.lt_or_ge y (2*L.length) with hl | hl
  ·have hh:=zBu hl
   refine ⟨arrN L.length (σ (zAy L.length y)) ((y % 2==0) != rev),?_,?_⟩
   ·have:=arr_lt (f:=(y % 2==0) != rev) (h.gt _ hh)
    unfold zAq;omega
   ·show (if _ then _ else _)=_
    rw [if_pos (arr_lt (h.gt _ hh)),zDo (h.gt _ hh),h.ts _ hh,zHm,show (((y % 2==0) != rev) != rev)=(y % 2==0) by cases (y % 2==0)<;>cases rev<;>rfl]
    exact (arr_eq hl).symm
  ·exact ⟨y,hy,by show (if _ then _ else _)=_;rw [if_neg (by omega)]⟩
 ·intro x hx
  left
  have him:∀i f,i < L.length→(if zAC L.length i f < 2*L.length then arrN L.length (τ (zAy L.length (zAC L.length i f))) ((zAC L.length i f % 2==0) != rev) else zAC L.length i f)=zAC L.length (τ i) (f != rev):=by
   intro i f hi
   rw [if_pos (zCO hi),along_arr hi,zDo (nx_lt hi),zHm,h.nxt i f hi,along_arr (h.lt i hi)]
  show (if zAV L (axL L) x < _ then _ else _)=zAV M (axL M) (if x < _ then _ else _)
  rcases Nat.lt_or_ge x (2*L.length) with hl | hl
  ·rw [if_pos hl]
   have hh:=zBu hl
   obtain ⟨i,hi⟩:∃i,zAy L.length x=i:=⟨_,rfl⟩
   obtain ⟨f,hf⟩:∃f,(x % 2==0)=f:=⟨_,rfl⟩
   have hxe:=arr_eq hl
   rw [hi,hf] at hxe
   rw [hi] at hh
   rw [hi,hf,hxe]
   rcases g.kinds i hh with hp | hc
   ·rw [g.l_pass hp]
    have hp':Go.Proofs.YtlmdfmnbcndhoaaGreatDoor.isP (la M (τ i))=true:=by rw [h.isP i hh];exact hp
    have hl':=g'.l_pass (f:=f != rev) hp'
    rw [h.len,hax] at hl'
    rw [hl',h.at_ i hp,h.dwn i hp,show ((Go.Proofs.YtlmdfmnbcndhoaaGreatDoor.dwn L i != rev)==(f != rev))=(Go.Proofs.YtlmdfmnbcndhoaaGreatDoor.dwn L i==f) by cases Go.Proofs.YtlmdfmnbcndhoaaGreatDoor.dwn L i<;>cases f<;>cases rev<;>rfl]
    split
    ·rw [if_neg (by omega)];rfl
    ·rw [if_neg (by omega)];rfl
   ·rw [g.l_cross hc,him _ _ (zAR (g.other hc).2.1)]
    have hc':Go.Proofs.YtlmdfmnbcndhoaaGreatDoor.isC (la M (τ i))=true:=by rw [h.isC i hh];exact hc
    have hl':=g'.l_cross (f:=f != rev) hc'
    rw [h.len] at hl'
    rw [hl',h.oth i hc,h.sam i hc]
    congr 1
    cases samB (la L i)<;>cases f<;>cases rev<;>rfl
  ·rw [if_neg (show ¬x < 2*L.length by omega)]
   unfold zAq at hx
   have hm:=g.m_pos
   rcases Nat.mod_two_eq_zero_or_one x with hx2 | hx2
   ·obtain ⟨j,rfl⟩:∃j,x=2*L.length+2*j:=⟨(x-2*L.length) / 2,by omega⟩
    have hj:(j+1) % (axL L).length < (axL L).length:=Nat.mod_lt _ hm
    have hp:=zBp hj
    rw [l_right,him _ _ hp.2]
    have hr:=l_right (L:=M) (j:=j)
    rw [h.len,hax] at hr
    rw [hr]
    have hxx:=h.xat g g' hj
    rw [show (id ((j+1) % (axL L).length):Nat)=(j+1) % (axL L).length from rfl] at hxx
    rw [hxx,h.dwn _ hp.1]
    congr 1
    cases Go.Proofs.YtlmdfmnbcndhoaaGreatDoor.dwn L (Go.Proofs.YtlmdfmnbcndhoaaGreatDoor.xat (axL L) ((j+1) % (axL L).length))<;>cases rev<;>rfl
   ·obtain ⟨j,rfl⟩:∃j,x=2*L.length+2*j+1:=⟨(x-2*L.length) / 2,by omega⟩
    have hj:j < (axL L).length:=by omega
    have hp:=zBp hj
    rw [l_left,him _ _ hp.2]
    have hr:=l_left (L:=M) (j:=j)
    rw [h.len] at hr
    rw [hr]
    have hxx:=h.xat g g' hj
    rw [show (id j:Nat)=j from rfl] at hxx
    rw [hxx,h.dwn _ hp.1]
end
end Go.Proofs.YtlmdfmnbcndhoaaGreatDoor
namespace Go.Proofs.YtlmdfmnbcndhoaaGreatDoor
/-- Two maps below n that undo each other. -/
structure Bij (n:Nat) (τ σ:Nat→Nat):Prop where
 lt:∀i,i < n→τ i < n
 gt:∀i,i < n→σ i < n
 st:∀i,i < n→σ (τ i)=i
 ts:∀i,i < n→τ (σ i)=i
theorem Bij.refl (n:Nat):Bij n (fun i=>i) (fun i=>i):=⟨fun _ h=>h,fun _ h=>h,fun _ _=>rfl,fun _ _=>rfl⟩
theorem Bij.inj {n:Nat} {τ σ:Nat→Nat} (h:Bij n τ σ) {i j:Nat} (hi:i < n) (hj:j < n) (e:τ i=τ j):i=j:=by
 have:=h.st i hi
 rw [e,h.st j hj] at this
 exact this.symm
theorem zHn {n:Nat} {τ σ:Nat→Nat} (h:Bij n τ σ) {p q:Nat→Bool} (hq:∀i,i < n→q (τ i)=p i):zAc q n=zAc p n:=by
 rw [zCi (p:=q) (c:=σ) (k:=n) (fun m hm _=>h.gt m hm),zCi (p:=p) (c:=fun m=>m) (k:=n) (fun m hm _=>hm)]
 refine zCK fun d hd=>?_
 cases hp:p d with
 | true =>
  rw [zEF (i:=τ d) (h.lt d hd) (by show (q (τ d)&&σ (τ d)==d)=true;rw [hq d hd,hp,h.st d hd];simp) (fun m hm hm2=>by
   have e:σ m=d:=by simp at hm2;exact hm2.2
   rw [←e,h.ts m hm]),zEF (i:=d) hd (by simp [hp]) (fun m _ hm2=>by simp at hm2;exact hm2.2)]
 | false =>
  rw [zEp (fun m hm=>by
   show (q m&&σ m==d)=false
   by_cases e:σ m=d
   ·have:τ d=m:=by rw [←e,h.ts m hm]
    rw [←this,hq d hd,hp];rfl
   ·simp [e]),zEp (fun m _=>by
   show (p m&&m==d)=false
   by_cases e:m=d
   ·rw [e,hp];rfl
   ·simp [e])]
/-- M is L letter by letter, through F, at the places τ. -/
structure Car (L M:List Lt) (F:Lt→Lt) (τ σ:Nat→Nat):Prop where
 len:M.length=L.length
 bij:Bij L.length τ σ
 img:∀i,i < L.length→la M (τ i)=F (la L i)
 kind:∀x,(F x).kind=x.kind
section
variable {K K':Int} {L M:List Lt} {F:Lt→Lt} {τ σ:Nat→Nat}
theorem Car.isP (h:Car L M F τ σ) {i:Nat} (hi:i < L.length):isP (la M (τ i))=isP (la L i):=by
 unfold Go.Proofs.YtlmdfmnbcndhoaaGreatDoor.isP;rw [h.img i hi,h.kind]
theorem Car.isC (h:Car L M F τ σ) {i:Nat} (hi:i < L.length):isC (la M (τ i))=isC (la L i):=by
 unfold Go.Proofs.YtlmdfmnbcndhoaaGreatDoor.isC;rw [h.img i hi,h.kind]
theorem Car.pN (h:Car L M F τ σ):pN M L.length=pN L L.length:=zHn h.bij fun _ hi=>h.isP hi
theorem Car.cN (h:Car L M F τ σ):cN M L.length=cN L L.length:=zHn h.bij fun _ hi=>h.isC hi
/-- What F must keep of the letters of L. -/
structure Keeps (K K':Int) (L:List Lt) (F:Lt→Lt):Prop where
 pass:∀i,i < L.length→isP (la L i)=true→(F (la L i)).id=(la L i).id∧(F (la L i)).sign=(la L i).sign∧(F (la L i)).over=(la L i).over∧0≤(F (la L i)).gate∧(F (la L i)).gate≤K'∧1≤(F (la L i)).rank∧(F (la L i)).rank≤(gN L (la L i).gate L.length:Int)
 gates:∀i j,i < L.length→j < L.length→isP (la L i)=true→isP (la L j)=true→((F (la L j)).gate=(F (la L i)).gate↔(la L j).gate=(la L i).gate)
 ranks:∀i j,i < L.length→j < L.length→isP (la L i)=true→isP (la L j)=true→(la L j).gate=(la L i).gate→((F (la L j)).rank=(F (la L i)).rank↔(la L j).rank=(la L i).rank)
 cross:∀i,i < L.length→isC (la L i)=true→(F (la L i)).gate=(la L i).gate∧(F (la L i)).rank=(la L i).rank∧((F (la L i)).sign=1∨(F (la L i)).sign = -1)∧1≤(F (la L i)).id∧(F (la L i)).id≤((cN L L.length / 2:Nat):Int)
 ids:∀i j,i < L.length→j < L.length→isC (la L i)=true→isC (la L j)=true→((F (la L j)).id=(F (la L i)).id↔(la L j).id=(la L i).id)
 signs:∀i j,i < L.length→j < L.length→isC (la L i)=true→isC (la L j)=true→(la L j).id=(la L i).id→((F (la L j)).sign=(F (la L i)).sign↔(la L j).sign=(la L i).sign)
 overs:∀i j,i < L.length→j < L.length→isC (la L i)=true→isC (la L j)=true→(la L j).id=(la L i).id→((F (la L j)).over=(F (la L i)).over↔(la L j).over=(la L i).over)
theorem isP_k {x:Lt}:isP x=true↔x.kind=1:=by unfold isP;simp
theorem isC_k {x:Lt}:isC x=true↔x.kind=2:=by unfold isC;simp
theorem Car.gN (h:Car L M F τ σ) (hk:Keeps K K' L F) {i:Nat} (hi:i < L.length) (hp:Go.Proofs.YtlmdfmnbcndhoaaGreatDoor.isP (la L i)=true):gN M (F (la L i)).gate L.length=gN L (la L i).gate L.length:=by
 refine zHn h.bij fun j hj=>?_
 show (Go.Proofs.YtlmdfmnbcndhoaaGreatDoor.isP (la M (τ j))&&(la M (τ j)).gate==(F (la L i)).gate)=_
 rw [h.isP hj,h.img j hj]
 cases hpj:Go.Proofs.YtlmdfmnbcndhoaaGreatDoor.isP (la L j) with
 | false=>rfl
 | true =>
  have:=hk.gates i j hi hj hp hpj
  show ((F (la L j)).gate==(F (la L i)).gate)=((la L j).gate==(la L i).gate)
  rw [Bool.eq_iff_iff,beq_iff_eq,beq_iff_eq]
  exact this
theorem Car.letters (h:Car L M F τ σ) (hk:Keeps K K' L F) (hl:zBJ K L=true):zBJ K' M=true:=by
 unfold zBJ at hl ⊢
 rw [zAk] at hl ⊢
 rw [h.len]
 intro m hm
 obtain ⟨i,hi,rfl⟩:∃i,i < L.length∧τ i=m:=⟨σ m,h.bij.gt m hm,h.bij.ts m hm⟩
 have h0:=hl i hi
 rw [h.img i hi]
 unfold rlB at h0 ⊢
 rw [h.kind,h.len]
 by_cases e1:(la L i).kind=1
 ·have hp:=isP_k.2 e1
  rw [if_pos e1] at h0 ⊢
  simp only [decide_eq_true_eq] at h0 ⊢
  obtain ⟨a1,a2,a3,a4,a5,a6,a7,a8⟩:=h0
  obtain ⟨b1,b2,b3,b4,b5,b6,b7⟩:=hk.pass i hi hp
  refine ⟨by rw [b1];exact a1,by rw [b2];exact a2,by rw [b3];exact a3,b4,b5,b6,by rw [h.gN hk hi hp];exact b7,?_⟩
  rw [←a8]
  refine zHn h.bij fun j hj=>?_
  show smB (F (la L i)) (la M (τ j))=smB (la L i) (la L j)
  rw [h.img j hj]
  unfold smB
  rw [h.kind,h.kind]
  by_cases e2:(la L j).kind=(la L i).kind
  ·have hpj:Go.Proofs.YtlmdfmnbcndhoaaGreatDoor.isP (la L j)=true:=isP_k.2 (e2.trans e1)
   have c1:=hk.gates i j hi hj hp hpj
   by_cases e3:(la L j).gate=(la L i).gate
   ·have c2:=hk.ranks i j hi hj hp hpj e3
    rw [Bool.eq_iff_iff]
    simp only [Bool.and_eq_true,beq_iff_eq]
    rw [c1,c2]
   ·have c3:¬(F (la L j)).gate=(F (la L i)).gate:=fun e=>e3 (c1.1 e)
    have q1:((la L j).gate==(la L i).gate)=false:=by simpa using e3
    have q2:((F (la L j)).gate==(F (la L i)).gate)=false:=by simpa using c3
    rw [q1,q2];simp
  ·have:((la L j).kind==(la L i).kind)=false:=by simpa using e2
   rw [this];rfl
 ·rw [if_neg e1] at h0 ⊢
  by_cases e2:(la L i).kind=2
  ·have hc:=isC_k.2 e2
   rw [if_pos e2] at h0 ⊢
   simp only [decide_eq_true_eq] at h0 ⊢
   obtain ⟨a1,a2,a3,a4,a5,a6,a7⟩:=h0
   obtain ⟨b1,b2,b3,b4,b5⟩:=hk.cross i hi hc
   refine ⟨by rw [b1];exact a1,by rw [b2];exact a2,b3,b4,by rw [h.cN];exact b5,?_,?_⟩
   ·rw [←a6]
    refine zHn h.bij fun j hj=>?_
    show prB (F (la L i)) (la M (τ j))=prB (la L i) (la L j)
    rw [h.img j hj]
    unfold prB
    rw [h.kind,h.kind]
    by_cases e3:(la L j).kind=(la L i).kind
    ·have hcj:Go.Proofs.YtlmdfmnbcndhoaaGreatDoor.isC (la L j)=true:=isC_k.2 (e3.trans e2)
     have c1:=hk.ids i j hi hj hc hcj
     by_cases e4:(la L j).id=(la L i).id
     ·have c2:=hk.signs i j hi hj hc hcj e4
      have c3:=hk.overs i j hi hj hc hcj e4
      rw [Bool.eq_iff_iff]
      simp only [Bool.and_eq_true,beq_iff_eq,bne_iff_ne,ne_eq]
      rw [c1,c2,c3]
     ·have c5:¬(F (la L j)).id=(F (la L i)).id:=fun e=>e4 (c1.1 e)
      have q1:((la L j).id==(la L i).id)=false:=by simpa using e4
      have q2:((F (la L j)).id==(F (la L i)).id)=false:=by simpa using c5
      rw [q1,q2];simp
    ·have:((la L j).kind==(la L i).kind)=false:=by simpa using e3
     rw [this];rfl
   ·rw [←a7]
    refine zHn h.bij fun j hj=>?_
    show (Go.Proofs.YtlmdfmnbcndhoaaGreatDoor.isC (la M (τ j))&&(la M (τ j)).id==(F (la L i)).id)=_
    rw [h.isC hj,h.img j hj]
    cases hcj:Go.Proofs.YtlmdfmnbcndhoaaGreatDoor.isC (la L j) with
    | false=>rfl
    | true =>
     have:=hk.ids i j hi hj hc hcj
     show ((F (la L j)).id==(F (la L i)).id)=((la L j).id==(la L i).id)
     rw [Bool.eq_iff_iff,beq_iff_eq,beq_iff_eq]
     exact this
  ·rw [if_neg e2] at h0;cases h0
theorem Car.good (h:Car L M F τ σ) (hk:Keeps K K' L F) (hL:0 < L.length) (hv:zAo K L=true) (hf:Go.Proofs.YtlmdfmnbcndhoaaGreatDoor.isP (la M 0)=true):Good K' M:=by
 unfold zAo at hv
 simp only [Bool.and_eq_true,decide_eq_true_eq] at hv
 have hl:=h.letters hk hv.1.2
 rw [←zBX] at hl
 simp only [Bool.and_eq_true] at hl
 exact zDf (by rw [h.len];exact hL) hf (by rw [h.len,h.pN];exact hv.1.1.2) hl.1.1 hl.1.2 hl.2
theorem Car.oth (h:Car L M F τ σ) (hk:Keeps K K' L F) (g:Good K L) (g':Good K' M) {i:Nat} (hc:Go.Proofs.YtlmdfmnbcndhoaaGreatDoor.isC (la L i)=true):othN M (τ i)=τ (othN L i):=by
 have hi:=zAR hc
 obtain ⟨o1,o2,o3,_,_,_⟩:=g.other hc
 have ho:=zAR o2
 have hc':Go.Proofs.YtlmdfmnbcndhoaaGreatDoor.isC (la M (τ i))=true:=by rw [h.isC hi];exact hc
 obtain ⟨_,_,_,_,_,o6⟩:=g'.other hc'
 refine (o6 (τ (othN L i)) (by rw [h.isC ho];exact o2) ?_ (fun e=>o1 (h.bij.inj ho hi e))).symm
 rw [h.img _ ho,h.img _ hi]
 exact (hk.ids i _ hi ho hc o2).2 o3
theorem Car.at_ (h:Car L M F τ σ) (g:Good K L) (g':Good K' M) (ho:∀i j,i < L.length→j < L.length→Go.Proofs.YtlmdfmnbcndhoaaGreatDoor.isP (la L i)=true→Go.Proofs.YtlmdfmnbcndhoaaGreatDoor.isP (la L j)=true→lftB (F (la L j)) (F (la L i))=lftB (la L j) (la L i))
  {i:Nat} (hp:Go.Proofs.YtlmdfmnbcndhoaaGreatDoor.isP (la L i)=true):atN M (τ i)=atN L i:=by
 have hi:=zAH hp
 have hp':Go.Proofs.YtlmdfmnbcndhoaaGreatDoor.isP (la M (τ i))=true:=by rw [h.isP hi];exact hp
 rw [←zCN (fun i hi hp=>(g.gates i hi hp).1) g.ranks hi hp,←zCN (fun i hi hp=>(g'.gates i hi hp).1) g'.ranks (zAH hp') hp',h.len]
 refine zHn h.bij fun j hj=>?_
 rw [h.isP hj,h.img j hj,h.img i hi]
 cases hpj:Go.Proofs.YtlmdfmnbcndhoaaGreatDoor.isP (la L j) with
 | false=>rfl
 | true=>rw [ho i j hi hj hp hpj]
/-- Validity, once no code has more walks than the other one. -/
theorem Car.valid (h:Car L M F τ σ) (hk:Keeps K K' L F) (hv:zAo K L=true) (hf:Go.Proofs.YtlmdfmnbcndhoaaGreatDoor.isP (la M 0)=true)
  (h1:(zCr M).length≤(zCr L).length) (h2:(zCr L).length≤(zCr M).length):zAo K' M=true:=by
 unfold zAo at hv ⊢
 simp only [Bool.and_eq_true,decide_eq_true_eq] at hv ⊢
 refine ⟨⟨⟨hf,by rw [h.len,h.pN];exact hv.1.1.2⟩,h.letters hk hv.1.2⟩,?_⟩
 have:=hv.2
 unfold zFq at this ⊢
 simp only [beq_iff_eq] at this ⊢
 rw [h.len,h.pN,h.cN]
 omega
theorem Car.image (h:Car L M F τ σ) (hk:Keeps K K' L F) (g:Good K L) (g':Good K' M) {rev dfl sfl:Bool} {a:Nat→Nat}
  (hn:∀i f,i < L.length→τ (nxN L.length i f)=nxN L.length (τ i) (f != rev))
  (hs:∀x,Go.Proofs.YtlmdfmnbcndhoaaGreatDoor.isC x=true→samB (F x)=(samB x != sfl)∨¬(x.sign=1∨x.sign = -1))
  (hsg:∀i,i < L.length→Go.Proofs.YtlmdfmnbcndhoaaGreatDoor.isC (la L i)=true→(la L i).sign=1∨(la L i).sign = -1)
  (ha:∀i,Go.Proofs.YtlmdfmnbcndhoaaGreatDoor.isP (la L i)=true→atN M (τ i)=a (atN L i)) (hd:∀i,Go.Proofs.YtlmdfmnbcndhoaaGreatDoor.isP (la L i)=true→dwn M (τ i)=(dwn L i != dfl)):Img L M rev dfl sfl a τ σ :=
 ⟨h.len,h.bij.lt,h.bij.gt,h.bij.st,h.bij.ts,hn,fun _ hi=>h.isP hi,fun _ hi=>h.isC hi,fun _ hc=>h.oth hk g g' hc,fun i hc=>by
  rw [h.img i (zAR hc)]
  rcases hs (la L i) hc with e | e
  ·exact e
  ·exact absurd (hsg i (zAR hc) hc) e,ha,hd,h.pN⟩
end
end Go.Proofs.YtlmdfmnbcndhoaaGreatDoor
namespace Go.Proofs.YtlmdfmnbcndhoaaGreatDoor
section
variable {K:Int} {L:List Lt}
theorem zHo (hv:zAo K L=true):pN L L.length % 2=0∧zBJ K L=true:=by
 unfold zAo at hv
 simp only [Bool.and_eq_true,decide_eq_true_eq] at hv
 exact ⟨hv.1.1.2,hv.1.2⟩
/-- What the tests say of one letter. -/
theorem pass_parts (hl:zBJ K L=true) {i:Nat} (hi:i < L.length) (hp:isP (la L i)=true):(la L i).id=0∧(la L i).sign=0∧(la L i).over=false∧0≤(la L i).gate∧(la L i).gate≤K∧1≤(la L i).rank∧(la L i).rank≤(gN L (la L i).gate L.length:Int):=by
 unfold zBJ at hl
 rw [zAk] at hl
 have h0:=hl i hi
 unfold rlB at h0
 rw [if_pos (isP_k.1 hp)] at h0
 simp only [decide_eq_true_eq] at h0
 obtain ⟨a1,a2,a3,a4,a5,a6,a7,a8⟩:=h0
 exact ⟨a1,a2,a3,a4,a5,a6,a7⟩
theorem zHp (hl:zBJ K L=true) {i:Nat} (hi:i < L.length) (hc:isC (la L i)=true):(la L i).gate=0∧(la L i).rank=0∧((la L i).sign=1∨(la L i).sign = -1)∧1≤(la L i).id∧(la L i).id≤((cN L L.length / 2:Nat):Int):=by
 unfold zBJ at hl
 rw [zAk] at hl
 have h0:=hl i hi
 have h2:=isC_k.1 hc
 unfold rlB at h0
 rw [if_neg (by rw [h2];omega),if_pos h2] at h0
 simp only [decide_eq_true_eq] at h0
 obtain ⟨a1,a2,a3,a4,a5,a6,a7⟩:=h0
 exact ⟨a1,a2,a3,a4,a5⟩
theorem zHq (b:Bool):(b != false)=b:=by cases b<;>rfl
/-- Validity by an image the same way round. -/
theorem Car.same {K':Int} {M:List Lt} {F:Lt→Lt} {τ σ:Nat→Nat} {rev:Bool} (h:Car L M F τ σ) (hL:0 < L.length) (hv:zAo K L=true) (hk:Keeps K K' L F) (hf:Go.Proofs.YtlmdfmnbcndhoaaGreatDoor.isP (la M 0)=true)
  (hn:∀i f,i < L.length→τ (nxN L.length i f)=nxN L.length (τ i) (f != rev))
  (hs:∀x,Go.Proofs.YtlmdfmnbcndhoaaGreatDoor.isC x=true→samB (F x)=samB x∨¬(x.sign=1∨x.sign = -1))
  (ho:∀i j,i < L.length→j < L.length→Go.Proofs.YtlmdfmnbcndhoaaGreatDoor.isP (la L i)=true→Go.Proofs.YtlmdfmnbcndhoaaGreatDoor.isP (la L j)=true→lftB (F (la L j)) (F (la L i))=lftB (la L j) (la L i))
  (hd:∀i,Go.Proofs.YtlmdfmnbcndhoaaGreatDoor.isP (la L i)=true→dwn M (τ i)=(dwn L i != rev)):zAo K' M=true:=by
 have g:=zCf hL hv
 have hl:=(zHo hv).2
 have g':=h.good hk hL hv hf
 have im:=h.image hk g g' (rev:=rev) (dfl:=rev) (sfl:=false) (a:=id) hn (fun x hx=>by rw [zHq];exact hs x hx) (fun i hi hc=>(zHp hl hi hc).2.2.1) (fun i hp=>h.at_ g g' ho hp) hd
 exact h.valid hk hv hf (im.le_same g g') ((im.symm g (b:=id) (fun _ _=>rfl)).le_same g' g)
end
end Go.Proofs.YtlmdfmnbcndhoaaGreatDoor
namespace Go.Proofs.YtlmdfmnbcndhoaaGreatDoor
section
variable {K:Int} {L:List Lt}
theorem la_mapF {F:Lt→Lt} {i:Nat} (hi:i < L.length):la (L.map F) i=F (la L i):=la_map hi
theorem map_car {F:Lt→Lt} (hk:∀x,(F x).kind=x.kind):Car L (L.map F) F (fun i=>i) (fun i=>i):=⟨by simp,Bij.refl _,fun _ hi=>la_mapF hi,hk⟩
theorem map_dwn {F:Lt→Lt} (hk:∀x,(F x).kind=x.kind) {i:Nat} (hi:i≤L.length):dwn (L.map F) i=dwn L i:=by
 unfold dwn
 have:pN (L.map F) i=pN L i:=zAW fun j hj=>by
  show isP (la (L.map F) j)=_
  rw [la_mapF (by omega)];unfold isP;rw [hk]
 rw [this]
theorem map_first {F:Lt→Lt} (hk:∀x,(F x).kind=x.kind) (hL:0 < L.length) (g:isP (la L 0)=true):isP (la (L.map F) 0)=true:=by
 rw [la_mapF hL];unfold isP at g ⊢;rw [hk];exact g
theorem first_ofK (hv:zAo K L=true):isP (la L 0)=true:=by
 unfold zAo at hv
 simp only [Bool.and_eq_true,decide_eq_true_eq] at hv
 exact hv.1.1.1
theorem sw_kind (x:Lt):(swLt x).kind=x.kind:=by unfold swLt;split<;>rfl
theorem swap_valid (hL:0 < L.length) (hv:zAo K L=true):zAo K (zBR L)=true:=by
 have hl:=(zHo hv).2
 refine (map_car sw_kind).same (rev:=false) hL hv ⟨fun i hi hp=>?_,fun i j _ _ hp hpj=>?_,fun i j _ _ hp hpj _=>?_,fun i hi hc=>?_,fun i j _ _ hc hcj=>?_,fun i j _ _ hc hcj _=>?_,fun i j _ _ hc hcj _=>?_⟩ (map_first sw_kind hL (first_ofK hv)) (fun i f _=>by rw [zHq]) (fun x hx=>?_) (fun i j _ _ hp hpj=>?_) (fun i hp=>by unfold zBR;rw [map_dwn sw_kind (Nat.le_of_lt (zAH hp)),zHq])
 ·obtain ⟨a1,a2,a3,a4,a5,a6,a7⟩:=pass_parts hl hi hp
  rw [sw_n (zBc hp)]
  exact ⟨rfl,rfl,rfl,a4,a5,a6,a7⟩
 ·rw [sw_n (zBc hp),sw_n (zBc hpj)]
 ·rw [sw_n (zBc hp),sw_n (zBc hpj)]
 ·obtain ⟨a1,a2,a3,a4,a5⟩:=zHp hl hi hc
  rw [sw_c hc]
  exact ⟨rfl,rfl,by simp only [];omega,a4,a5⟩
 ·rw [sw_c hc,sw_c hcj]
 ·rw [sw_c hc,sw_c hcj];simp only [];omega
 ·rw [sw_c hc,sw_c hcj]
  show (!(la L j).over)=(!(la L i).over)↔_
  cases (la L j).over<;>cases (la L i).over<;>simp
 ·rw [sw_c hx]
  unfold samB
  by_cases h1:x.sign=1
  ·left
   simp only [h1]
   cases x.over<;>rfl
  ·by_cases h2:x.sign = -1
   ·left
    simp only [h2]
    cases x.over<;>rfl
   ·exact .inr (by omega)
 ·rw [sw_n (zBc hp),sw_n (zBc hpj)]
end
end Go.Proofs.YtlmdfmnbcndhoaaGreatDoor
namespace Go.Proofs.YtlmdfmnbcndhoaaGreatDoor
theorem la_getI {L:List Lt} {i:Nat} (h:i < L.length):L[i]? = some (la L i):=by
 unfold la
 rw [List.getElem?_eq_getElem h];rfl
section
variable {K:Int} {L:List Lt}
end
end Go.Proofs.YtlmdfmnbcndhoaaGreatDoor
namespace Go.Proofs.YtlmdfmnbcndhoaaGreatDoor
theorem cN_countP (L:List Lt):cN L L.length=L.countP isC:=by
 have key:∀m,m≤L.length→cN L m=(L.take m).countP isC:=by
  intro m
  induction m with
  | zero=>intro _;rfl
  | succ m ih =>
   intro h
   have ht:L.take (m+1)=L.take m++[la L m]:=by rw [List.take_add_one,la_getI (by omega)];rfl
   rw [ht,List.countP_append,←ih (by omega)]
   unfold cN
   cases e:isC (la L m) with
   | true=>rw [zAj (p:=fun i=>isC (la L i)) e];simp [e]
   | false=>rw [zAi (p:=fun i=>isC (la L i)) e];simp [e]
 have:=key L.length (Nat.le_refl _)
 rwa [List.take_length] at this
theorem count_map {F:Lt→Lt} (hk:∀x,(F x).kind=x.kind) (L:List Lt):(L.map F).countP isC=L.countP isC:=by
 rw [List.countP_map]
 congr 1
 funext x
 show isC (F x)=isC x
 unfold isC;rw [hk]
theorem check_img {K:Int} {L M:List Lt} (h:zAp K L=0) (hl:M.length=L.length) (hc:M.countP isC=L.countP isC) (hv:0 < L.length→zAo K L=true→zAo K M=true):zAp K M=0:=by
 have hp:=zDm h
 have hcn:cN L L.length≤200:=by
  rcases Nat.lt_or_ge 200 (cN L L.length) with q | q
  ·unfold zAp at h;rw [if_pos (.inr q)] at h;cases h
  ·exact q
 unfold zAp
 rw [cN_countP,hc,←cN_countP,hl,if_neg (by omega),if_neg (by omega)]
 by_cases h0:L.length=0
 ·rw [if_pos h0]
 ·rw [if_neg h0,hv (by omega) (hp.2.2.2.resolve_left h0)];rfl
section
variable {K:Int} {L:List Lt}
theorem check_swap (h:zAp K L=0):zAp K (zBR L)=0:=check_img h (by unfold zBR;rw [List.length_map]) (count_map sw_kind L) swap_valid
end
end Go.Proofs.YtlmdfmnbcndhoaaGreatDoor
