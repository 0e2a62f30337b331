/-
  Lemmas, part 3. Conditions: each theorem's own.
-/
import Derived.Test.YtlmdfmnbcndhoaaGreatDoorRc01
import Derived.ArgAppend
import Derived.Test.YtlmdfmnbcndhoaaGreatDoorRc02
open Option renaming none→U,some→Z
open Bool renaming false→E,true→Q
open Go.Value renaming bool→G,int→D,slice→H
open Go.IntKind renaming i64→J
namespace Go.Proofs.YtlmdfmnbcndhoaaGreatDoor
open Go.RowKit
structure Row (w:World) (base size:Nat) (A:Option Addr) (n c:Nat) (xs:List Value):Prop where
 len:xs.length=n*size
 cap:n≤c
 nil:A=U→c=0
 at_:∀ad,A=Z ad→ad.spot=U∧base≤ad.block∧ad.block < w.heap.size∧(∀j u,xs[j]? = Z u→w.cell? ⟨ad.block,ad.off+j,U⟩=Z u) ∧
  ∀j,j < c*size→(w.cell? ⟨ad.block,ad.off+j,U⟩).isSome=Q∧w.frozen? ⟨ad.block,ad.off+j,U⟩=E
def Src (w:World) (size:Nat) (B:Option Addr) (m:Nat) (news:List Value):Prop :=
 news.length=m*size∧(0 < m→∃ad,B=Z ad∧ad.block < w.heap.size∧∀j u,news[j]? = Z u→w.cell? (ad.add j)=Z u)
theorem zIU {ad:Addr} (h:ad.spot=U):ad=⟨ad.block,ad.off,U⟩:=by cases ad;simp at h;subst h;rfl
theorem zTY {ad:Addr} (h:ad.spot=U) (j:Nat):ad.add j=⟨ad.block,ad.off+j,U⟩:=by
 rw [zIU h];exact Addr.add_lit _ _ _
section
variable {w w':World} {base size:Nat} {A:Option Addr} {n c:Nat} {xs:List Value}
theorem Row.none_ (w:World) (base size:Nat):Row w base size U 0 0 []:=⟨by simp,Nat.le_refl _,fun _=>rfl,fun _ h=>by cases h⟩
theorem Row.lt (h:Row w base size A n c xs):∀k,blk A=Z k→base≤k∧k < w.heap.size:=by
 intro k hk
 cases A with
 | none=>cases hk
 | some ad =>
  simp only [blk,Option.some.injEq] at hk;subst hk;obtain ⟨_,h1,h2,_⟩:=h.at_ ad rfl;exact ⟨h1,h2⟩
theorem Row.kept {row:Option Nat} (h:Row w base size A n c xs) (hg:w.grownBy w' row) (hne:blk A=U∨blk A≠row):Row w' base size A n c xs:=by
 refine ⟨h.len,h.cap,h.nil,fun ad ha=>?_⟩;obtain ⟨h1,h2,h3,h4,h5⟩:=h.at_ ad ha;subst ha;have hb:w'.heap[ad.block]? = w.heap[ad.block]?:=hg.block _ h3 (hne.resolve_left (by simp [blk]));refine ⟨h1,h2,Nat.lt_of_lt_of_le h3 hg.size,fun j u hu=>?_,fun j hj=>?_⟩
 ·rw [World.cell?_of_block (w:=w) (w':=w') (a:=⟨ad.block,ad.off+j,U⟩) hb];exact h4 j u hu
 ·rw [World.cell?_of_block (w:=w) (w':=w') (a:=⟨ad.block,ad.off+j,U⟩) hb,World.frozen?_of_block (w:=w) (w':=w') (a:=⟨ad.block,ad.off+j,U⟩) hb];exact h5 j hj
theorem Row.below (h:Row w base size A n c xs) (hb:Below w.heap.size w w'):Row w' base size A n c xs:=by
 refine h.kept (row:=U) ⟨hb.os,hb.tape,hb.output,hb.size,fun k hk _=>hb.block k hk⟩ ?_
 cases blk A
 ·exact .inl rfl
 ·exact .inr (by simp)
theorem Row.alloc (h:Row w base size A n c xs) (o:Obj):Row (w.alloc o) base size A n c xs:=h.below ((Below.refl _ _).alloc (Nat.le_refl _) o)
theorem Row.mono {base':Nat} (h:Row w base size A n c xs) (hb:base'≤base):Row w base' size A n c xs :=
 ⟨h.len,h.cap,h.nil,fun ad ha=>by obtain ⟨h1,h2,h3⟩:=h.at_ ad ha;exact ⟨h1,by omega,h3⟩⟩
theorem Row.src (h:Row w base size A n c xs):Src w size A n xs:=by
 refine ⟨h.len,fun hn=>?_⟩
 cases A with
 | none=>have:=h.nil rfl;have:=h.cap;omega
 | some ad =>
  obtain ⟨h1,h2,h3,h4,_⟩:=h.at_ ad rfl;exact ⟨ad,rfl,h3,fun j u hu=>by rw [zTY h1];exact h4 j u hu⟩
theorem Row.form (h:Row w base size A n c xs) (hn:0 < n):∃g off,A=Z ⟨g,off,U⟩∧base≤g∧g < w.heap.size:=by
 cases A with
 | none=>have:=h.nil rfl;have:=h.cap;omega
 | some ad =>
  obtain ⟨h1,h2,h3,_⟩:=h.at_ ad rfl;exact ⟨ad.block,ad.off,by rw [←zIU h1],h2,h3⟩
theorem Row.cell {g off:Nat} (h:Row w base size (Z ⟨g,off,U⟩) n c xs) {j:Nat} {u:Value} (hu:xs[j]? = Z u):w.cell? ⟨g,off+j,U⟩=Z u :=
 (h.at_ _ rfl).2.2.2.1 j u hu
theorem Row.free {g off:Nat} (h:Row w base size (Z ⟨g,off,U⟩) n c xs) {j:Nat} (hj:j < c*size):w.frozen? ⟨g,off+j,U⟩=E :=
 ((h.at_ _ rfl).2.2.2.2 j hj).2
theorem Row.of_owns {e:TypeId} (h:w.ownsRow base e size (H A n c) n xs):Row w base size A n c xs:=by
 rcases h.2 with ⟨h',h0⟩ | ⟨g,cap,cur,h',hb,hg,hnc,hcm,hcs,htake⟩
 ·simp only [Value.slice.injEq] at h';obtain ⟨rfl,rfl,rfl⟩:=h';have:xs=[]:=List.eq_nil_of_length_eq_zero (by rw [h.1];omega);subst this;exact Row.none_ _ _ _
 ·simp only [Value.slice.injEq,true_and] at h';obtain ⟨rfl,rfl⟩:=h';refine ⟨h.1,hnc,(fun h=>by cases h),fun ad hA=>?_⟩;obtain rfl:=Option.some.inj hA;refine ⟨rfl,hb,(Array.getElem?_eq_some_iff.1 hg).1,fun j u hu=>?_,fun j hj=>?_⟩
  ·rw [Nat.zero_add,cell_of_row w g j cur e (0,0) hg];rw [←htake,List.getElem?_take] at hu;split at hu
   ·simpa using hu
   ·cases hu
  ·rw [Nat.zero_add,cell_of_row w g j cur e (0,0) hg];refine ⟨?_,by simp [World.frozen?,hg]⟩;rw [Array.getElem?_eq_getElem (by omega)];rfl
end
theorem zDB (b:Nat):∀(vs:List Value) (o:Nat) (w:World),w.grownBy (w.setCells b o vs) (Z b)
 | [],_,w=>World.grownBy.refl w _
 | v :: r,o,w=>by
  have h1:w.grownBy (w.setCell ⟨b,o,U⟩ v) (Z b):=⟨rfl,rfl,rfl,by simp [World.setCell],fun i _ hne=>Below.heap_setCell w ⟨b,o,U⟩ v i (by rintro rfl;exact hne rfl)⟩;have h2:=zDB b r (o+1) (w.setCell ⟨b,o,U⟩ v);rw [World.setCells];exact ⟨h2.os.trans h1.os,h2.tape.trans h1.tape,h2.output.trans h1.output,Nat.le_trans h1.size h2.size,fun i hi hne=>(h2.block i (Nat.lt_of_lt_of_le hi h1.size) hne).trans (h1.block i hi hne)⟩
theorem cell?_isSome_setCells (b:Nat):∀(vs:List Value) (o:Nat) (w:World) (x:Addr),(w.cell? x).isSome=Q→((w.setCells b o vs).cell? x).isSome=Q
 | [],_,_,_,h=>h
 | v :: r,o,w,x,h=>by
  rw [World.setCells];refine cell?_isSome_setCells b r (o+1) _ x ?_;obtain ⟨v',hv⟩:=Option.isSome_iff_exists.1 h;obtain ⟨u,hu⟩:=cell?_setCell_some (w:=w) (p:=⟨b,o,U⟩) (x:=v) (q:=x) (v:=v') hv;rw [hu];rfl
def zVJ (w w':World) (A:Option Addr) (m:Nat) (full:Prop):Prop:=∀p:Addr,p.block < w.heap.size→p.spot=U→(∀ad,A=Z ad→p.block=ad.block→p.off < ad.off+m∨full)→w'.cell? p=w.cell? p
theorem zGp {w w':World} {row:Option Nat} {A:Option Addr} {m:Nat} {full:Prop} (hg:w.grownBy w' row) (h:row=U):zVJ w w' A m full:=by
 subst h;exact fun p hp _ _=>World.cell?_of_block (hg.block p.block hp (by simp))
theorem zRA {P:Program} {w:World} {base size:Nat} {A:Option Addr} {n c:Nat} {xs:List Value} (hrow:Row w base size A n c xs)
  (t ty e:TypeId) (i:TypeInfo) (z:Value) (bytes:Nat) (ht:P.underlying t=Z (.slice e)) (hi:P.info? e=Z i) (hz:i.zero=Z z) (hsize:i.size=size) (hby:i.bytes=bytes) (hzs:z.cells.size=size) (hsz:0 < size)
  {B:Option Addr} {m d:Nat} {news:List Value} (hsrc:Src w size B m news) (h1:∀u∈news,u.oneCell'=Q) (h63:n+m≤maxLen) (hbytes:(n+m)*bytes≤140737488355328) (hbase:base≤w.heap.size) :
  ∃A' c' w',(Builtin.append_ #[t,t] ty #[H A n c,H B m d]).run P w=.ok (H A' (n+m) c') w'∧Row w' base size A' (n+m) c' (xs++news)∧w.grownBy w' (blk A)∧(∀k,blk A'=Z k→blk A=Z k∨w.heap.size≤k)∧zVJ w w' A (n*size) (c < n+m):=by
 have sy:∀(ad:Addr),A=U→(∀j u,news[j]? = Z u→w.cell? (ad.add j)=Z u)→w.ownsRow base e size (H A n c) n xs→B=Z ad →
   ∃A' c' w',(Builtin.append_ #[t,t] ty #[H A n c,H B m d]).run P w=.ok (H A' (n+m) c') w'∧Row w' base size A' (n+m) c' (xs++news)∧w.grownBy w' (blk A)∧(∀k,blk A'=Z k→blk A=Z k∨w.heap.size≤k)∧zVJ w w' A (n*size) (c < n+m):=by
  intro ad hA hcells hown hB;subst hB;obtain ⟨v',w',hrun,h2,h3,h4,h5⟩:=run_append_own_at (P:=P) w base t ty e i z size bytes ht hi hz hsize hby hzs hsz _ n xs hown ad m d news hsrc.1 hcells h1 h63 hbytes hbase;have hform:∃A' c',v'=H A' (n+m) c':=by
   rcases h2.2 with ⟨hv,hz⟩ | ⟨g,cap,cur,hv,_⟩
   ·rw [hz];exact ⟨U,0,hv⟩
   ·exact ⟨_,_,hv⟩
  obtain ⟨A',c',rfl⟩:=hform;simp only [zFM] at h3 h5;exact ⟨A',c',w',hrun,Row.of_owns h2,h3,fun k hk=>h5.elim (fun e=>.inl (e ▸ hk)) (fun e=>.inr (by rw [e] at hk;injection hk with hk;omega)),zGp h3 (by rw [hA];rfl)⟩
 cases B with
 | none =>
  have hm:m=0:=by
   rcases Nat.eq_zero_or_pos m with h0 | h0
   ·exact h0
   ·obtain ⟨ad,h,_⟩:=hsrc.2 h0
    cases h
  subst hm;have hn:news=[]:=List.eq_nil_of_length_eq_zero (by rw [hsrc.1];simp);subst hn;refine ⟨A,c,w,?_,by simpa using hrow,World.grownBy.refl w _,fun _ hk=>.inl hk,fun _ _ _ _=>rfl⟩
  cases A with
  | none =>
   have hc0:=hrow.nil rfl;have wj:n=0:=by have:=hrow.cap;omega
   subst hc0;subst wj
   simp [Builtin.append_,run_underlying ht,sizeOf,typeInfo,hi,Builtin.lenOf,Builtin.firstCells]
  | some ad =>
   have hnc:=hrow.cap;simp [Builtin.append_,run_underlying ht,sizeOf,typeInfo,hi,Builtin.lenOf,Builtin.firstCells,hnc,storeCells]
 | some bd =>
  have hcells:∀j u,news[j]? = Z u→w.cell? (bd.add j)=Z u:=by
   intro j u hu;have hj:=(List.getElem?_eq_some_iff.1 hu).1;rw [hsrc.1] at hj;have hm:0 < m:=by
    rcases Nat.eq_zero_or_pos m with h0 | h0
    ·subst h0;simp at hj
    ·exact h0
   obtain ⟨ad',h,_,hc⟩:=hsrc.2 hm;obtain rfl:=Option.some.inj h;exact hc j u hu
  cases A with
  | none =>
   have hc0:=hrow.nil rfl;have wj:n=0:=by have:=hrow.cap;omega
   subst hc0;subst wj
   have hx:xs=[]:=List.eq_nil_of_length_eq_zero (by rw [hrow.len];simp);subst hx;exact sy bd rfl hcells (World.ownsRow_nil _ _ _ _) rfl
  | some ad =>
   obtain ⟨k1,k2,k3,k4,k5⟩:=hrow.at_ ad rfl;obtain ⟨g,off,sp⟩:=ad;simp only at k1 k2 k3 k4 k5;subst k1;by_cases hroom:n+m≤c
   ·have hsp:∀j,j < news.length→n*i.size+j < c*size:=by
     intro j hj;rw [hsrc.1] at hj;rw [hsize];have:(n+m)*size≤c*size:=Nat.mul_le_mul_right _ hroom;rw [Nat.add_mul] at this;omega
    have hrun:=run_append_room_cells (P:=P) w t ty e i ht hi g off n c bd m d news (by rw [hsize];exact hsrc.1) hcells h1 hroom
     (fun j hj=>by rw [Nat.add_assoc];exact (k5 _ (hsp j hj)).1) (fun j hj=>by rw [Nat.add_assoc];exact (k5 _ (hsp j hj)).2)
    have hgr:=zDB g news (off+n*i.size) w;refine ⟨_,_,_,hrun,⟨by rw [List.length_append,hrow.len,hsrc.1,Nat.add_mul],hroom,(fun h=>by cases h),fun ad hA=>?_⟩,hgr,fun _ hk=>.inl hk,fun p _ hsp' hp=>World.cell?_setCells_out _ _ _ _ _ (fun h1 _=>.inl ((hp _ rfl h1).elim (fun h=>by rw [hsize];exact h) (fun h=>by omega)))⟩;obtain rfl:=Option.some.inj hA;refine ⟨rfl,k2,Nat.lt_of_lt_of_le k3 hgr.size,fun j u hu=>?_,fun j hj=>?_⟩
    ·simp only;by_cases hjn:j < xs.length
     ·rw [List.getElem?_append_left hjn] at hu;rw [World.cell?_setCells_out _ _ _ _ _ (fun _ _=>.inl (by simp only;rw [hsize,←hrow.len];omega))];exact k4 j u hu
     ·rw [List.getElem?_append_right (by omega)] at hu;have hlt:=(List.getElem?_eq_some_iff.1 hu).1;have hv:=World.cell?_setCells_in g news (off+n*i.size) w (fun j hj=>by rw [Nat.add_assoc];exact (k5 _ (hsp j hj)).1) (j-xs.length) hlt;have e1:off+n*i.size+(j-xs.length)=off+j:=by rw [hsize,←hrow.len];omega
      rw [e1] at hv;rw [hv];rw [List.getElem?_eq_getElem hlt] at hu;exact hu
    ·exact ⟨cell?_isSome_setCells _ _ _ _ _ (k5 j hj).1,by rw [World.frozen?_setCells];exact (k5 j hj).2⟩
   ·obtain ⟨v',w',hrun,r1,r2⟩:=run_append_arg_grows (P:=P) w t ty e i z size bytes ht hi hz hsize hby hzs hsz ⟨g,off,U⟩ n c xs hrow.len (fun j u hu=>by rw [Addr.add_lit];exact k4 j u hu) bd m d news hsrc.1 hcells (by omega) h63 hbytes;have hform:∃A' c',v'=H A' (n+m) c':=by
     rcases r1.2 with ⟨hv,hz⟩ | ⟨g',cap',cur',hv,_⟩
     ·rw [hz];exact ⟨U,0,hv⟩
     ·exact ⟨_,_,hv⟩
    obtain ⟨A',c',rfl⟩:=hform;have hr:=Row.of_owns r1;exact ⟨A',c',w',hrun,hr.mono hbase,⟨r2.os,r2.tape,r2.output,r2.size,fun k hk _=>r2.block k hk (by simp)⟩,fun k hk=>.inr (hr.lt k hk).1,zGp r2 rfl⟩
theorem zOK {P:Program} {w:World} {o:Oper} {a:Act} {K:Act→World→Prop} {ZS:Exit→Act→World→Prop} (s x:Operand) (t:TypeId)
  (ho:o.op=.call { callee:=.builtin .append,args:=#[s,x],argTypes:=#[t,t] })
  (e:TypeId) (i:TypeInfo) (z:Value) (size bytes:Nat) (ht:P.underlying t=Z (.slice e)) (hi:P.info? e=Z i) (hz:i.zero=Z z) (hsize:i.size=size) (hby:i.bytes=bytes) (hzs:z.cells.size=size) (hsz:0 < size)
  {base:Nat} {A:Option Addr} {n c:Nat} {xs:List Value} (hrow:Row w base size A n c xs) {B:Option Addr} {m d:Nat} {news:List Value} (hsrc:Src w size B m news) (h1:∀u∈news,u.oneCell'=Q)
  (hs:a.eval s=H A n c) (hx:a.eval x=H B m d) (N:Nat) (hN:n+m=N) (h63:N≤maxLen) (hbytes:N*bytes≤140737488355328) (hbase:base≤w.heap.size)
  (h:∀A' c' w',Row w' base size A' N c' (xs++news)→w.grownBy w' (blk A)→(∀k,blk A'=Z k→blk A=Z k∨w.heap.size≤k)→zVJ w w' A (n*size) (c < N)→K (a.put o.dst (H A' N c')) w') :
  o.wp P a w K ZS:=by
 subst hN;obtain ⟨A',c',w',hrun,r1,r2,r3,r4⟩:=zRA (d:=d) hrow t o.type e i z bytes ht hi hz hsize hby hzs hsz hsrc h1 h63 hbytes hbase;unfold Oper.wp execOp;simp only [ho,resolve,invoke,builtin,Sem.run_bind,Sem.run_pure,Result.andThen_ok,List.map_toArray,List.map_cons,List.map_nil,hs,hx,hrun];exact h A' c' w' r1 r2 r3 r4
theorem zOy {P:Program} {w:World} {ops:Array Oper} {rest:List Oper} {o:Oper} {a:Act} {ZS:Exit→Act→World→Prop} (hgd:o.guard=U) (s x:Operand) (t:TypeId)
  (ho:o.op=.call { callee:=.builtin .append,args:=#[s,x],argTypes:=#[t,t] })
  (e:TypeId) (i:TypeInfo) (z:Value) (size bytes:Nat) (ht:P.underlying t=Z (.slice e)) (hi:P.info? e=Z i) (hz:i.zero=Z z) (hsize:i.size=size) (hby:i.bytes=bytes) (hzs:z.cells.size=size) (hsz:0 < size)
  {base:Nat} {A:Option Addr} {n c:Nat} {xs:List Value} (hrow:Row w base size A n c xs) {B:Option Addr} {m d:Nat} {news:List Value} (hsrc:Src w size B m news) (h1:∀u∈news,u.oneCell'=Q)
  (hs:a.eval s=H A n c) (hx:a.eval x=H B m d) (N:Nat) (hN:n+m=N) (h63:N≤maxLen) (hbytes:N*bytes≤140737488355328) (hbase:base≤w.heap.size)
  (h:∀A' c' w',Row w' base size A' N c' (xs++news)→w.grownBy w' (blk A)→(∀k,blk A'=Z k→blk A=Z k∨w.heap.size≤k)→zVJ w w' A (n*size) (c < N)→wpList P ops ZS rest (a.put o.dst (H A' N c')) w') :
  wpList P ops ZS (o :: rest) a w :=
 wpList_plain hgd fun _ hK=>zOK s x t ho e i z size bytes ht hi hz hsize hby hzs hsz hrow hsrc h1 hs hx N hN h63 hbytes hbase fun A' c' w' r1 r2 r3 r4=>hK _ _ (h A' c' w' r1 r2 r3 r4)
theorem zVP {P:Program} {w:World} {ops:Array Oper} {o:Oper} {a:Act} {K:Act→World→Prop} {ZS:Exit→Act→World→Prop} {ZT:Prop} (hgd:o.guard=U) (s x:Operand) (t:TypeId)
  (ho:o.op=.call { callee:=.builtin .append,args:=#[s,x],argTypes:=#[t,t] })
  (e:TypeId) (i:TypeInfo) (z:Value) (size bytes:Nat) (ht:P.underlying t=Z (.slice e)) (hi:P.info? e=Z i) (hz:i.zero=Z z) (hsize:i.size=size) (hby:i.bytes=bytes) (hzs:z.cells.size=size) (hsz:0 < size)
  {base:Nat} {A:Option Addr} {n c:Nat} {xs:List Value} (hrow:Row w base size A n c xs) {B:Option Addr} {m d:Nat} {news:List Value} (hsrc:Src w size B m news) (h1:∀u∈news,u.oneCell'=Q)
  (hs:a.eval s=H A n c) (hx:a.eval x=H B m d) (N:Nat) (hN:n+m=N) (h63:N≤maxLen) (hbytes:N*bytes≤140737488355328) (hbase:base≤w.heap.size)
  (h:∀A' c' w',Row w' base size A' N c' (xs++news)→w.grownBy w' (blk A)→(∀k,blk A'=Z k→blk A=Z k∨w.heap.size≤k)→zVJ w w' A (n*size) (c < N)→K (a.put o.dst (H A' N c')) w') :
  if Region.wanted o (yielded ops a.tmps)=Q then Oper.wp P o a w K ZS else ZT:=by
 have hw:Region.wanted o (yielded ops a.tmps)=Q:=by simp [Region.wanted,hgd]
 rw [if_pos hw];exact zOK s x t ho e i z size bytes ht hi hz hsize hby hzs hsz hrow hsrc h1 hs hx N hN h63 hbytes hbase h
theorem Row.belowOf {w w':World} {base size:Nat} {A:Option Addr} {n c:Nat} {xs:List Value} (h:Row w base size A n c xs) (hg:w.grownBy w' (blk A)) (hb:base≤w.heap.size):Below base w w' :=
 (Below.refl _ _).grown hg hb fun k hk=>(h.lt k hk).1
theorem Src.new {w:World} {size m:Nat} {cs:List Value} {t:TypeId} (h:cs.length=m*size):Src (w.alloc (.cells cs.toArray t)) size (Z ⟨w.heap.size,0,U⟩) m cs :=
 ⟨h,fun _=>⟨_,rfl,by simp,fun j u hu=>by rw [Addr.add_lit,World.cell?_alloc_at _ _ _ _ rfl];simpa using hu⟩⟩
section
variable {a b c:World} {row:Option Nat}
theorem zAb (h:a.grownBy b row) (k:b.grownBy c row):a.grownBy c row :=
 ⟨k.os.trans h.os,k.tape.trans h.tape,k.output.trans h.output,Nat.le_trans h.size k.size,fun i hi hne=>(k.block i (Nat.lt_of_lt_of_le hi h.size) hne).trans (h.block i hi hne)⟩
theorem zAm (h:a.grownBy b row) {B:Nat} (k:Below B b c) (hB:a.heap.size≤B):a.grownBy c row :=
 ⟨k.os.trans h.os,k.tape.trans h.tape,k.output.trans h.output,Nat.le_trans h.size k.size,fun i hi hne=>(k.block i (by omega)).trans (h.block i hi hne)⟩
theorem zAg {g:Nat} (h:a.grownBy b (Z g)) {p:Addr} (hp:p.block=g∨a.heap.size≤p.block) (u:Value):a.grownBy (b.setCell p u) (Z g) :=
 ⟨h.os,h.tape,h.output,by simpa [World.setCell] using h.size,fun i hi hne=>(Below.heap_setCell b p u i (by
  rintro rfl
  rcases hp with hp | hp
  ·exact hne (by rw [hp])
  ·omega)).trans (h.block i hi hne)⟩
theorem zDK (h:Below a.heap.size a b) (row:Option Nat):a.grownBy b row:=⟨h.os,h.tape,h.output,h.size,fun i hi _=>h.block i hi⟩
theorem zBT (h:a.grownBy b row):a.grownBy b.drew row:=⟨h.os,h.tape,h.output,h.size,h.block⟩
theorem zBt (h:a.grownBy b row) (o:Obj):a.grownBy (b.alloc o) row:=zAb h (World.grownBy_alloc b o row)
theorem zBU {B g:Nat} (h:a.grownBy b (Z g)) (hB:B≤g) (hBa:B≤a.heap.size):Below B a b :=
 ⟨h.os,h.tape,h.output,h.size,fun i hi=>h.block i (by omega) (by simp;omega)⟩
end
def Blk (w:World) (g:Nat) (t:TypeId) (cs:Array Value):Prop:=w.heap[g]? = Z (.cells cs t (0,0))
section
variable {w w':World} {g:Nat} {t:TypeId} {cs:Array Value}
theorem Blk.lt (h:Blk w g t cs):g < w.heap.size:=by
 rcases Nat.lt_or_ge g w.heap.size with hlt | hge
 ·exact hlt
 ·unfold Blk at h;rw [Array.getElem?_eq_none hge] at h;cases h
theorem Blk.cell (h:Blk w g t cs) (i:Nat):w.cell? ⟨g,i,U⟩=cs[i]?:=cell_of_row w g i cs t (0,0) h
theorem Blk.frozen (h:Blk w g t cs) (i:Nat):w.frozen? ⟨g,i,U⟩=E:=by
 unfold Blk at h;simp [World.frozen?,h]
theorem Blk.new (w:World) (t:TypeId) (cs:Array Value):Blk (w.alloc (.cells cs t)) w.heap.size t cs:=heap_alloc_new w _
theorem Blk.drew (h:Blk w g t cs):Blk w.drew g t cs:=h
theorem Blk.drewN (h:Blk w g t cs) (n:Nat):Blk (w.drewN n) g t cs:=h
theorem Blk.alloc (h:Blk w g t cs) (o:Obj):Blk (w.alloc o) g t cs:=(Below.heap_alloc w o g h.lt).trans h
theorem Blk.set_ (h:Blk w g t cs) (i:Nat) (u:Value):Blk (w.setCell ⟨g,i,U⟩ u) g t (cs.setIfInBounds i u):=by
 unfold Blk at h ⊢;simp [World.setCell,Array.getElem?_modify,h]
theorem Blk.far (h:Blk w g t cs) {p:Addr} (hp:g≠p.block) (u:Value):Blk (w.setCell p u) g t cs:=(Below.heap_setCell w p u g hp).trans h
theorem Blk.below {B:Nat} (h:Blk w g t cs) (hb:Below B w w') (hg:g < B):Blk w' g t cs:=(hb.block g hg).trans h
theorem Blk.grown {row:Option Nat} (h:Blk w g t cs) (hb:w.grownBy w' row) (hg:Z g≠row):Blk w' g t cs:=(hb.block g h.lt hg).trans h
end
structure OwnB (w:World) (base g n:Nat) (s:List Bool):Prop where
 blk:Blk w g 4 (s.map Value.bool).toArray
 base:base≤g
 len:s.length=n
section
variable {w w':World} {base g n:Nat} {s:List Bool}
theorem OwnB.cell (h:OwnB w base g n s) {k:Nat} (hk:k < n):w.cell? ⟨g,k,U⟩=Z (G (sat s k)):=by
 rw [h.blk.cell];have:=h.len;unfold sat;rw [List.getElem?_toArray,List.getElem?_map,List.getElem?_eq_getElem (by omega)];rfl
theorem OwnB.frozen (h:OwnB w base g n s) (k:Nat):w.frozen? ⟨g,k,U⟩=E:=h.blk.frozen k
theorem OwnB.lt (h:OwnB w base g n s):g < w.heap.size:=h.blk.lt
theorem OwnB.alloc (h:OwnB w base g n s) (o:Obj):OwnB (w.alloc o) base g n s:=⟨h.blk.alloc o,h.base,h.len⟩
theorem OwnB.drewN (h:OwnB w base g n s) (k:Nat):OwnB (w.drewN k) base g n s:=⟨h.blk,h.base,h.len⟩
theorem OwnB.drew (h:OwnB w base g n s):OwnB w.drew base g n s:=⟨h.blk,h.base,h.len⟩
theorem OwnB.below {B:Nat} (h:OwnB w base g n s) (hb:Below B w w') (hB:g < B):OwnB w' base g n s:=⟨h.blk.below hb hB,h.base,h.len⟩
theorem OwnB.kept {row:Option Nat} (h:OwnB w base g n s) (hb:w.grownBy w' row) (hr:Z g≠row):OwnB w' base g n s:=⟨h.blk.grown hb hr,h.base,h.len⟩
theorem OwnB.far (h:OwnB w base g n s) {p:Addr} (hp:g≠p.block) (u:Value):OwnB (w.setCell p u) base g n s:=⟨h.blk.far hp u,h.base,h.len⟩
theorem OwnB.stored (h:OwnB w base g n s) (k:Nat) (x:Bool):OwnB (w.setCell ⟨g,k,U⟩ (G x)) base g n (s.set k x):=by
 refine ⟨?_,h.base,by simpa using h.len⟩;have:=h.blk.set_ k (G x);rw [List.map_set];simpa using this
end
theorem zRB:(Tryz.prog.info? 4).map (fun i=>(i.zero,i.size,i.bytes))=Z (Z (G E),1,1):=by kernel_rfl
theorem zOL (N:Nat) (hN:N≤17592186044416) (w:World) :
  (Instr.makeSlice 145 (D J (N:Int)) (D J (N:Int))).run Tryz.prog w=.ok (H (Z ⟨w.heap.size,0,U⟩) N N) (w.alloc (.cells ((List.replicate N E).map Value.bool).toArray 4)):=by
 obtain ⟨i0,hi,aT,az,bt⟩:=info_parts zRB;have hr:=run_make (P:=Tryz.prog) w 145 4 i0 (G E) Tryz.underlying145 hi aT J J N N (by omega) (by omega) (by rw [bt];omega) (by omega);simp only [Int.toNat_natCast] at hr;rw [hr];have hm:madeCells (Value.cells (G E)) (N*i0.size)=((List.replicate N E).map Value.bool).toArray:=by
  rw [az,Nat.mul_one,List.map_replicate];apply Array.ext';exact toList_madeCells_one _ _
 rw [hm]
theorem zOM (N:Nat) (hN:N≤17592186044416) (w:World) :
  (Instr.makeSlice 79 (D J (N:Int)) (D J (N:Int))).run Tryz.prog w=.ok (H (Z ⟨w.heap.size,0,U⟩) N N) (w.alloc (.cells ((List.replicate N (0:Int)).map (Value.int J)).toArray 3)):=by
 obtain ⟨i0,hi,aT,az,bt⟩:=info_parts zLl;have hr:=run_make (P:=Tryz.prog) w 79 3 i0 (D J 0) Tryz.underlying79 hi aT J J N N (by omega) (by omega) (by rw [bt];omega) (by omega);simp only [Int.toNat_natCast] at hr;rw [hr];have hm:madeCells (Value.cells (D J 0)) (N*i0.size)=((List.replicate N (0:Int)).map (Value.int J)).toArray:=by
  rw [az,Nat.mul_one,List.map_replicate];apply Array.ext';exact toList_madeCells_one _ _
 rw [hm]
theorem OwnB.made {w:World} {base:Nat} (hb:base≤w.heap.size) (N:Nat):OwnB (w.alloc (.cells ((List.replicate N E).map Value.bool).toArray 4)) base w.heap.size N (List.replicate N E) :=
 ⟨Blk.new _ _ _,hb,by simp⟩
theorem zMs {w:World} {ops:Array Oper} {rest:List Oper} {o:Oper} {a:Act} {ZS:Exit→Act→World→Prop} (hgd:o.guard=U) (l c:Operand)
  (ho:o.op=.makeSlice 145 l c) (N:Nat) (z:Int) (hl:a.eval l=D J z) (hc:a.eval c=D J z) (hz:z=(N:Int)) (hN:N≤17592186044416) {base:Nat} (hbase:base≤w.heap.size)
  (h:∀w',OwnB w' base w.heap.size N (List.replicate N E)→Below w.heap.size w w'→w'.heap.size=w.heap.size+1→wpList Tryz.prog ops ZS rest (a.put o.dst (H (Z ⟨w.heap.size,0,U⟩) N N)) w') :
  wpList Tryz.prog ops ZS (o :: rest) a w:=by
 refine wpList_plain hgd fun K hK'=>?_
 have hrun:=zOL N hN w;subst hz;unfold Oper.wp;have hown:=OwnB.made hbase N;have hb:=(Below.refl w.heap.size w).alloc (Nat.le_refl _) (.cells ((List.replicate N E).map Value.bool).toArray 4);have hsz:(w.alloc (.cells ((List.replicate N E).map Value.bool).toArray 4)).heap.size=w.heap.size+1:=by simp
 generalize w.alloc (.cells ((List.replicate N E).map Value.bool).toArray 4)=w' at hrun hown hb hsz;simp [execOp,ho,hl,hc,hrun,Result.andThen];exact hK' _ _ (h w' hown hb hsz)
structure OwnI (w:World) (base g n:Nat) (L:List Int):Prop where
 blk:Blk w g 3 (L.map (Value.int J)).toArray
 base:base≤g
 len:L.length=n
section
variable {w w':World} {base g n:Nat} {L:List Int}
theorem OwnI.cell (h:OwnI w base g n L) {k:Nat} {x:Int} (hx:L[k]? = Z x):w.cell? ⟨g,k,U⟩=Z (D J x):=by
 rw [h.blk.cell,List.getElem?_toArray,List.getElem?_map,hx];rfl
theorem OwnI.frozen (h:OwnI w base g n L) (k:Nat):w.frozen? ⟨g,k,U⟩=E:=h.blk.frozen k
theorem OwnI.lt (h:OwnI w base g n L):g < w.heap.size:=h.blk.lt
theorem OwnI.alloc (h:OwnI w base g n L) (o:Obj):OwnI (w.alloc o) base g n L:=⟨h.blk.alloc o,h.base,h.len⟩
theorem OwnI.drewN (h:OwnI w base g n L) (k:Nat):OwnI (w.drewN k) base g n L:=⟨h.blk,h.base,h.len⟩
theorem OwnI.drew (h:OwnI w base g n L):OwnI w.drew base g n L:=⟨h.blk,h.base,h.len⟩
theorem OwnI.below {B:Nat} (h:OwnI w base g n L) (hb:Below B w w') (hB:g < B):OwnI w' base g n L:=⟨h.blk.below hb hB,h.base,h.len⟩
theorem OwnI.kept {row:Option Nat} (h:OwnI w base g n L) (hb:w.grownBy w' row) (hr:Z g≠row):OwnI w' base g n L:=⟨h.blk.grown hb hr,h.base,h.len⟩
theorem OwnI.far (h:OwnI w base g n L) {p:Addr} (hp:g≠p.block) (u:Value):OwnI (w.setCell p u) base g n L:=⟨h.blk.far hp u,h.base,h.len⟩
theorem OwnI.stored (h:OwnI w base g n L) (k:Nat) (x:Int):OwnI (w.setCell ⟨g,k,U⟩ (D J x)) base g n (L.set k x):=by
 refine ⟨?_,h.base,by simpa using h.len⟩;have:=h.blk.set_ k (D J x);rw [List.map_set];simpa using this
end
theorem OwnI.made {w:World} {base:Nat} (hb:base≤w.heap.size) (N:Nat):OwnI (w.alloc (.cells ((List.replicate N (0:Int)).map (Value.int J)).toArray 3)) base w.heap.size N (List.replicate N 0) :=
 ⟨Blk.new _ _ _,hb,by simp⟩
theorem zGq {w:World} {ops:Array Oper} {rest:List Oper} {o:Oper} {a:Act} {ZS:Exit→Act→World→Prop} (hgd:o.guard=U) (l c:Operand)
  (ho:o.op=.makeSlice 79 l c) (N:Nat) (z:Int) (hl:a.eval l=D J z) (hc:a.eval c=D J z) (hz:z=(N:Int)) (hN:N≤17592186044416) {base:Nat} (hbase:base≤w.heap.size)
  (h:∀w',OwnI w' base w.heap.size N (List.replicate N 0)→Below w.heap.size w w'→w'.heap.size=w.heap.size+1→wpList Tryz.prog ops ZS rest (a.put o.dst (H (Z ⟨w.heap.size,0,U⟩) N N)) w') :
  wpList Tryz.prog ops ZS (o :: rest) a w:=by
 refine wpList_plain hgd fun K hK'=>?_
 have hrun:=zOM N hN w;subst hz;unfold Oper.wp;have hown:=OwnI.made hbase N;have hb:=(Below.refl w.heap.size w).alloc (Nat.le_refl _) (.cells ((List.replicate N (0:Int)).map (Value.int J)).toArray 3);have hsz:(w.alloc (.cells ((List.replicate N (0:Int)).map (Value.int J)).toArray 3)).heap.size=w.heap.size+1:=by simp
 generalize w.alloc (.cells ((List.replicate N (0:Int)).map (Value.int J)).toArray 3)=w' at hrun hown hb hsz;simp [execOp,ho,hl,hc,hrun,Result.andThen];exact hK' _ _ (h w' hown hb hsz)
structure SV where
 A:Option Addr
 n:Nat
 c:Nat
def SV.val (v:SV):Value:=H v.A v.n v.c
structure Wks (w:World) (base:Nat) (A:Option Addr) (n c:Nat) (vs:List SV) (Ws:List (List Int)):Prop where
 row:Row w base 1 A n c (vs.map SV.val)
 len:Ws.length=n
 each:∀(j:Nat) (v:SV) (ZR:List Int),vs[j]? = Z v→Ws[j]? = Z ZR→Ints w v.A v.n ZR∧v.n≤v.c∧∀k,blk v.A=Z k→base≤k∧k < w.heap.size∧blk A≠Z k
section
variable {w w':World} {base:Nat} {A:Option Addr} {n c:Nat} {vs:List SV} {Ws:List (List Int)}
theorem Wks.vlen (h:Wks w base A n c vs Ws):vs.length=n:=by have:=h.row.len;simpa using this
theorem Wks.nil (w:World) (base:Nat):Wks w base U 0 0 [] []:=⟨Row.none_ _ _ _,rfl,by simp⟩
theorem Wks.kept {g:Nat} (h:Wks w base A n c vs Ws) (hg:w.grownBy w' (Z g)) (hlt:g < base):Wks w' base A n c vs Ws :=
 ⟨h.row.kept hg (by
  cases hA:blk A with
  | none=>exact .inl rfl
  | some k=>exact .inr (by have:=(h.row.lt k hA).1;simp;omega)),h.len,fun j v ZR hv hW=>by
  obtain ⟨h1,h2,h3⟩:=h.each j v ZR hv hW
  refine ⟨h1.growG hg (fun a ha=>?_),h2,fun k hk=>⟨(h3 k hk).1,Nat.lt_of_lt_of_le (h3 k hk).2.1 hg.size,(h3 k hk).2.2⟩⟩
  have:=(h3 a.block (by rw [ha];rfl)).1
  simp
  omega⟩
theorem Wks.mono {base':Nat} (h:Wks w base A n c vs Ws) (hb:base'≤base):Wks w base' A n c vs Ws :=
 ⟨h.row.mono hb,h.len,fun j v ZR hv hW=>by obtain ⟨h1,h2,h3⟩:=h.each j v ZR hv hW;exact ⟨h1,h2,fun k hk=>⟨by have:=(h3 k hk).1;omega,(h3 k hk).2⟩⟩⟩
theorem Wks.push {A':Option Addr} {n' c':Nat} {v:SV} {ZR:List Int} (h:Wks w base A n c vs Ws) (hr:Row w' base 1 A' n' c' ((vs++[v]).map SV.val)) (hn:n+1=n') (hg:w.grownBy w' (blk A)) (hA:∀k,blk A'=Z k→blk A=Z k∨w.heap.size≤k)
  (hv:Ints w v.A v.n ZR) (hvc:v.n≤v.c) (hb:∀k,blk v.A=Z k→base≤k∧k < w.heap.size∧blk A≠Z k):Wks w' base A' n' c' (vs++[v]) (Ws++[ZR]):=by
 refine ⟨hr,by simp [h.len,hn],fun j x X hx hX=>?_⟩;have key:∀(x:SV) (X:List Int),Ints w x.A x.n X→(∀k,blk x.A=Z k→base≤k∧k < w.heap.size∧blk A≠Z k)→Ints w' x.A x.n X∧∀k,blk x.A=Z k→base≤k∧k < w'.heap.size∧blk A'≠Z k:=by
  intro x X hI hk;refine ⟨hI.growG hg (fun a ha e=>(hk a.block (by rw [ha];rfl)).2.2 e),fun k fO=>?_⟩;obtain ⟨k1,k2,k3⟩:=hk k fO;refine ⟨k1,Nat.lt_of_lt_of_le k2 hg.size,fun e=>?_⟩;rcases hA k e with h | h
  ·exact k3 h
  ·omega
 by_cases hj:j < vs.length
 ·rw [List.getElem?_append_left hj] at hx;rw [List.getElem?_append_left (by have:=h.len;have:=h.vlen;omega)] at hX;obtain ⟨h1,h2,h3⟩:=h.each j x X hx hX;obtain ⟨k1,k2⟩:=key x X h1 h3;exact ⟨k1,h2,k2⟩
 ·rw [List.getElem?_append_right (by omega)] at hx;rw [List.getElem?_append_right (by have:=h.len;have:=h.vlen;omega)] at hX;have e1:j-vs.length=0:=by
   rcases Nat.eq_zero_or_pos (j-vs.length) with h0 | h0
   ·exact h0
   ·rw [List.getElem?_eq_none (by simp;omega)] at hx;cases hx
  have e2:j-Ws.length=0:=by have:=h.len;have:=h.vlen;omega
  rw [e1] at hx;rw [e2] at hX;simp at hx hX;subst hx;subst hX
  obtain ⟨k1,k2⟩:=key v ZR hv hb;exact ⟨k1,hvc,k2⟩
end
theorem cQ2 {w:World} {g:Nat} {t:TypeId} {v0 v1:Value} {r:List Value} (h:Blk w g t (v0 :: v1 :: r).toArray):w.cell? ⟨g,0,U⟩=Z v0∧w.cell? ⟨g,1,U⟩=Z v1:=⟨(h.cell 0).trans rfl,(h.cell 1).trans rfl⟩
theorem cQ3 {w:World} {g:Nat} {t:TypeId} {v0 v1 v2:Value} {r:List Value} (h:Blk w g t (v0 :: v1 :: v2 :: r).toArray):w.cell? ⟨g,0,U⟩=Z v0∧w.cell? ⟨g,1,U⟩=Z v1∧w.cell? ⟨g,2,U⟩=Z v2:=⟨(h.cell 0).trans rfl,(h.cell 1).trans rfl,(h.cell 2).trans rfl⟩
theorem cQ4 {w:World} {g:Nat} {t:TypeId} {v0 v1 v2 v3:Value} {r:List Value} (h:Blk w g t (v0 :: v1 :: v2 :: v3 :: r).toArray):w.cell? ⟨g,0,U⟩=Z v0∧w.cell? ⟨g,1,U⟩=Z v1∧w.cell? ⟨g,2,U⟩=Z v2∧w.cell? ⟨g,3,U⟩=Z v3:=⟨(h.cell 0).trans rfl,(h.cell 1).trans rfl,(h.cell 2).trans rfl,(h.cell 3).trans rfl⟩
theorem cQ5 {w:World} {g:Nat} {t:TypeId} {v0 v1 v2 v3 v4:Value} {r:List Value} (h:Blk w g t (v0 :: v1 :: v2 :: v3 :: v4 :: r).toArray):w.cell? ⟨g,0,U⟩=Z v0∧w.cell? ⟨g,1,U⟩=Z v1∧w.cell? ⟨g,2,U⟩=Z v2∧w.cell? ⟨g,3,U⟩=Z v3∧w.cell? ⟨g,4,U⟩=Z v4:=⟨(h.cell 0).trans rfl,(h.cell 1).trans rfl,(h.cell 2).trans rfl,(h.cell 3).trans rfl,(h.cell 4).trans rfl⟩
theorem cQ6 {w:World} {g:Nat} {t:TypeId} {v0 v1 v2 v3 v4 v5:Value} {r:List Value} (h:Blk w g t (v0 :: v1 :: v2 :: v3 :: v4 :: v5 :: r).toArray):w.cell? ⟨g,0,U⟩=Z v0∧w.cell? ⟨g,1,U⟩=Z v1∧w.cell? ⟨g,2,U⟩=Z v2∧w.cell? ⟨g,3,U⟩=Z v3∧w.cell? ⟨g,4,U⟩=Z v4∧w.cell? ⟨g,5,U⟩=Z v5:=⟨(h.cell 0).trans rfl,(h.cell 1).trans rfl,(h.cell 2).trans rfl,(h.cell 3).trans rfl,(h.cell 4).trans rfl,(h.cell 5).trans rfl⟩
theorem cQ8 {w:World} {g:Nat} {t:TypeId} {v0 v1 v2 v3 v4 v5 v6 v7:Value} {r:List Value} (h:Blk w g t (v0 :: v1 :: v2 :: v3 :: v4 :: v5 :: v6 :: v7 :: r).toArray):w.cell? ⟨g,0,U⟩=Z v0∧w.cell? ⟨g,1,U⟩=Z v1∧w.cell? ⟨g,2,U⟩=Z v2∧w.cell? ⟨g,3,U⟩=Z v3∧w.cell? ⟨g,4,U⟩=Z v4∧w.cell? ⟨g,5,U⟩=Z v5∧w.cell? ⟨g,6,U⟩=Z v6∧w.cell? ⟨g,7,U⟩=Z v7:=⟨(h.cell 0).trans rfl,(h.cell 1).trans rfl,(h.cell 2).trans rfl,(h.cell 3).trans rfl,(h.cell 4).trans rfl,(h.cell 5).trans rfl,(h.cell 6).trans rfl,(h.cell 7).trans rfl⟩
end Go.Proofs.YtlmdfmnbcndhoaaGreatDoor
