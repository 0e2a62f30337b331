/-
  Lemmas. Conditions: each one's own.
-/
import Derived.Test.YtlmdfmnbcndhoaaGreatDoorRt08
import Derived.WalkMore
import Derived.ScopeJumps
open Go.RowKit
set_option maxHeartbeats 12800000
set_option maxRecDepth 100000
open Go renaming World->ZY
open Option renaming none->U,some->Z
open Go.RowKit renaming Below->ZZ
open Go.Value renaming bool->G,int->D,slice->H
open Go.IntKind renaming i64->J
open Bool renaming false->E,true->Q
open Go.Proofs.Tryz renaming prog->ZX
open Go.RowKit.Below renaming refl->M
open Nat renaming le_refl->O
namespace Go.Proofs.YtlmdfmnbcndhoaaGreatDoor
def zDR (ZV:Nat->Act->ZY->Prop) (ZP:Exit->Act->ZY->Prop):Exit->Act->ZY->Prop
 | .goto l,a,w=>ZV l a w
 | e,a,w=>ZP e a w
theorem zDS {P:Program} {a:Act} {w:ZY} {ZP:Exit->Act->ZY->Prop} {c:Code} (ZV:Nat->Nat->Act->ZY->Prop)
  (first:c.wp P (zDR (fun l a w=>∃n,ZV l n a w) ZP) a w)
  (pass:∀l n a w,ZV l n a w->∃rest,findLabel c l=Z rest/\rest.wp P (zDR (fun l' a' w'=>∃n',n' < n/\ZV l' n' a' w') ZP) a w):(Code.scope c).wp P ZP a w:=by
 intro b k cs;have hg:∀l rest,findLabel c l=Z rest->gotoIn l (.inScope c :: k)=Z (.code rest :: .inScope c :: k):=fun l rest h=>by simp [gotoIn,h]
 have key:∀n l a w rest,findLabel c l=Z rest->ZV l n a w->∃e a' w',ZP e a' w'/\Arrives P (lone (b.at a (.code rest :: .inScope c :: k)) cs w) b k cs e a' w':=by
  intro n
  induction n using Nat.strongRecOn with
  | _ n ih =>
   intro l a w rest hf hJ;obtain ⟨EA,AB,hp⟩:=pass l n a w hJ;rw [hf] at AB;injection AB with AB
   subst AB;obtain ⟨e,a₁,w₁,hq,harr⟩:=hp b (.inScope c :: k) cs
   cases e with
   | normal=>exact ⟨.normal,a₁,w₁,hq,Steps.trans harr (.one step_inScope)⟩
   | exit id=>exact ⟨.exit id,a₁,w₁,hq,fun k' hk=>harr k' (by simp [exitTo,hk])⟩
   | goto l' =>
    obtain ⟨n',hlt,yI⟩:=hq;obtain ⟨jj,bt,_⟩:=pass l' n' a₁ w₁ yI;obtain ⟨e₂,a₂,w₂,hq₂,harr₂⟩:=ih n' hlt l' a₁ w₁ jj bt yI;exact ⟨e₂,a₂,w₂,hq₂,.of_steps (harr _ (hg l' jj bt)) harr₂⟩
   | ret=>exact ⟨_,a₁,w₁,hq,harr⟩
   | panic ch=>exact ⟨_,a₁,w₁,hq,harr⟩
   | outgrown=>exact ⟨_,a₁,w₁,hq,harr⟩
 obtain ⟨e,a₁,w₁,hq,harr⟩:=first b (.inScope c :: k) cs
 cases e with
 | normal=>exact ⟨.normal,a₁,w₁,hq,.head step_scope (Steps.trans harr (.one step_inScope))⟩
 | exit id=>exact ⟨.exit id,a₁,w₁,hq,fun k' hk=>.head step_scope (harr k' (by simp [exitTo,hk]))⟩
 | goto l' =>
  obtain ⟨n',yI⟩:=hq;obtain ⟨jj,bt,_⟩:=pass l' n' a₁ w₁ yI;obtain ⟨e₂,a₂,w₂,hq₂,harr₂⟩:=key n' l' a₁ w₁ jj bt yI;exact ⟨e₂,a₂,w₂,hq₂,.of_steps (.head step_scope (harr _ (hg l' jj bt))) harr₂⟩
 | ret=>exact ⟨_,a₁,w₁,hq,.of_steps (.one step_scope) harr⟩
 | panic ch=>exact ⟨_,a₁,w₁,hq,.of_steps (.one step_scope) harr⟩
 | outgrown=>exact ⟨_,a₁,w₁,hq,.of_steps (.one step_scope) harr⟩
theorem zIa {P:Program} {a:Act} {w:ZY} {ZP:Exit->Act->ZY->Prop} {body:Code} (l n:Nat) (ZV:Nat->Act->ZY->Prop) (h0:ZV n a w)
  (pass:∀n a w,ZV n a w->body.wp P (zDR (fun l' a' w'=>l'=l/\∃n',n' < n/\ZV n' a' w') ZP) a w):(Code.scope ((Code.label l).seq body)).wp P ZP a w:=by
 refine zDS (fun l' n a w=>l'=l/\ZV n a w) ?_ ?_
 ·refine wp_seq (wp_label ?_);refine wp_mono (pass n a w h0) ?_;intro e a' w' hq
  cases e with
  | goto l' =>
   obtain ⟨e1,n',_,h2⟩:=hq;exact ⟨n',e1,h2⟩
  | normal=>exact hq
  | exit id=>exact hq
  | ret=>exact hq
  | panic ch=>exact hq
  | outgrown=>exact hq
 ·rintro l' n a w ⟨rfl,hJ⟩;refine ⟨Code.skip.seq body,by simp [findLabel],wp_seq (wp_skip (wp_mono (pass n a w hJ) ?_))⟩;intro e a' w' hq
  cases e with
  | goto l2 =>
   obtain ⟨e1,n',h1,h2⟩:=hq;exact ⟨n',h1,e1,h2⟩
  | normal=>exact hq
  | exit id=>exact hq
  | ret=>exact hq
  | panic ch=>exact hq
  | outgrown=>exact hq
theorem Blk.store8 {w:ZY} {g:Nat} {t:TypeId} {v0 v1 v2 v3 v4 v5 v6 v7:Value} (h:Blk w g t #[v0,v1,v2,v3,v4,v5,v6,v7]) (u0 u1 u2 u3 u4 u5 u6 u7:Value) :
  Blk ((((((((w.setCell ⟨g,0,U⟩ u0).setCell ⟨g,1,U⟩ u1).setCell ⟨g,2,U⟩ u2).setCell ⟨g,3,U⟩ u3).setCell ⟨g,4,U⟩ u4).setCell ⟨g,5,U⟩ u5).setCell ⟨g,6,U⟩ u6).setCell ⟨g,7,U⟩ u7) g t #[u0,u1,u2,u3,u4,u5,u6,u7]:=by
 have h0:Blk (w.setCell ⟨g,0,U⟩ u0) g t #[u0,v1,v2,v3,v4,v5,v6,v7]:=h.set_ 0 u0;generalize w.setCell ⟨g,0,U⟩ u0=w0 at h0 ⊢;have h1:Blk (w0.setCell ⟨g,1,U⟩ u1) g t #[u0,u1,v2,v3,v4,v5,v6,v7]:=h0.set_ 1 u1;generalize w0.setCell ⟨g,1,U⟩ u1=w1 at h1 ⊢;have h2:Blk (w1.setCell ⟨g,2,U⟩ u2) g t #[u0,u1,u2,v3,v4,v5,v6,v7]:=h1.set_ 2 u2;generalize w1.setCell ⟨g,2,U⟩ u2=w2 at h2 ⊢;have h3:Blk (w2.setCell ⟨g,3,U⟩ u3) g t #[u0,u1,u2,u3,v4,v5,v6,v7]:=h2.set_ 3 u3;generalize w2.setCell ⟨g,3,U⟩ u3=w3 at h3 ⊢;have h4:Blk (w3.setCell ⟨g,4,U⟩ u4) g t #[u0,u1,u2,u3,u4,v5,v6,v7]:=h3.set_ 4 u4;generalize w3.setCell ⟨g,4,U⟩ u4=w4 at h4 ⊢;have h5:Blk (w4.setCell ⟨g,5,U⟩ u5) g t #[u0,u1,u2,u3,u4,u5,v6,v7]:=h4.set_ 5 u5;generalize w4.setCell ⟨g,5,U⟩ u5=w5 at h5 ⊢;have h6:Blk (w5.setCell ⟨g,6,U⟩ u6) g t #[u0,u1,u2,u3,u4,u5,u6,v7]:=h5.set_ 6 u6;generalize w5.setCell ⟨g,6,U⟩ u6=w6 at h6 ⊢;have h7:Blk (w6.setCell ⟨g,7,U⟩ u7) g t #[u0,u1,u2,u3,u4,u5,u6,u7]:=h6.set_ 7 u7;generalize w6.setCell ⟨g,7,U⟩ u7=w7 at h7 ⊢;exact h7
theorem zAc {a w:ZY} {g B:Nat} (h:ZZ B a w) (hB:B<=g) (u0 u1 u2 u3 u4 u5 u6 u7:Value) :
  ZZ B a ((((((((w.setCell ⟨g,0,U⟩ u0).setCell ⟨g,1,U⟩ u1).setCell ⟨g,2,U⟩ u2).setCell ⟨g,3,U⟩ u3).setCell ⟨g,4,U⟩ u4).setCell ⟨g,5,U⟩ u5).setCell ⟨g,6,U⟩ u6).setCell ⟨g,7,U⟩ u7):=by
 have h4:=zCi h hB u0 u1 u2 u3;generalize (((w.setCell ⟨g,0,U⟩ u0).setCell ⟨g,1,U⟩ u1).setCell ⟨g,2,U⟩ u2).setCell ⟨g,3,U⟩ u3=ZO at h4 ⊢;exact (((h4.setCell (p:=⟨g,4,U⟩) hB _).setCell (p:=⟨g,5,U⟩) hB _).setCell (p:=⟨g,6,U⟩) hB _).setCell (p:=⟨g,7,U⟩) hB _
theorem zKI:(Tryz.prog.info? 86).map (fun i=>(i.zero,i.size,i.bytes))=Z (Z (.agg #[D J 0,D J 0,G E,D J 0,G E]),5,40):=by kernel_rfl
theorem zWG:(Tryz.prog.info? 32).map (fun i=>(i.zero,i.size,i.bytes))=Z (Z (.agg #[D J 0,D J 0,D J 0,D J 0,G E,D J 0,H U 0 0,G E]),8,80):=by kernel_rfl
theorem zKJ (w:ZY):(Instr.build 32 #[]).run ZX w=.ok (.agg #[D J 0,D J 0,D J 0,D J 0,G E,D J 0,H U 0 0,G E]) w:=run_build w _ _ _ (by kernel_rfl)
theorem zKK (b:Bool) (w:ZY):(Instr.build 86 #[(1,G b)]).run ZX w=.ok (.agg #[D J 0,D J 0,G E,D J 0,G b]) w:=run_build w _ _ _ (by kernel_rfl)
theorem zWH (s:Sg) (b:Bool) (w:ZY):(Instr.build 86 #[(0,sgV s),(1,G b)]).run ZX w=.ok (spV ⟨s,b⟩) w:=run_build w _ _ _ (by kernel_rfl)
theorem zYj (f l:Int) (far:Bool) (pc:Int) (ov:Bool) (w:ZY):(Instr.buildSlice 30 1 #[(0,.agg #[D J f,D J l,G far,D J pc,G ov])]).run ZX w =
  .ok (H (Z ⟨w.heap.size,0,U⟩) 1 1) (w.alloc (.cells #[D J f,D J l,G far,D J pc,G ov] 86)):=by
 obtain ⟨i0,hi,cD,bu,cM⟩:=info_parts zKI;refine run_buildSlice w _ _ 1 _ _ i0 _ Tryz.underlying30 hi cD (by rw [bu];omega) (by rw [bu];omega) ?_;rw [bu]
 kernel_rfl
theorem zWI {w:ZY} {ops:Array Oper} {rest:List Oper} {o:Oper} {a:Act} {ZP:Exit->Act->ZY->Prop} (hgd:o.guard=U) (s x:Operand)
  (ho:o.op=.call { callee:=.builtin .append,args:=#[s,x],argTypes:=#[30,30] })
  {base:Nat} {A:Option Addr} {n c:Nat} {P:List Sp} (hst:Row w base 5 A n c (P.flatMap zCl)) (y:Sp)
  (hs:a.eval s=H A n c) (hx:a.eval x=H (Z ⟨w.heap.size,0,U⟩) 1 1) (N:Nat) (hN:n+1=N) (hn:N<=1000000) (hbase:base<=w.heap.size)
  (h:∀A' c' w',Row w' base 5 A' N c' ((P++[y]).flatMap zCl)->w.grownBy w' (blk A)->(∀k,blk A'=Z k->blk A=Z k∨w.heap.size<=k)->wpList ZX ops ZP rest (a.put o.dst (H A' N c')) w') :
  wpList ZX ops ZP (o :: rest) a (w.alloc (.cells #[D J y.s.f,D J y.s.l,G y.s.far,D J y.s.pc,G y.over] 86)):=by
 obtain ⟨i0,hi,cD,bu,cM⟩:=info_parts zKI;have hbl:=(M w.heap.size w).alloc (O _) (.cells #[D J y.s.f,D J y.s.l,G y.s.far,D J y.s.pc,G y.over] 86);have cS:=hst.below hbl
 refine zRt hgd s x 30 ho 86 i0 _ 5 40 Tryz.underlying30 hi cD bu cM rfl (by decide) cS (Src.new (m:=1) (cs:=zCl y) rfl)
  (by intro u hu;simp [zCl] at hu;rcases hu with rfl | rfl | rfl | rfl | rfl<;>rfl) hs hx N hN (by unfold maxLen;omega) (by omega) (by simp;omega) ?_
 intro A' c' w' h1 h2 h3 _;refine h A' c' w' (by rw [List.flatMap_append];simpa using h1) ?_ (fun k hk=>?_)
 ·exact zAb (zAA hbl) h2
 ·rcases h3 k hk with e | e
  ·exact .inl e
  ·exact .inr (by simp at e;omega)
def zEJ (w0:ZY) (rb:Nat) (F:Fm) (o:Og) (s:RS) (e:Ending) (w':ZY):Prop :=
 ∃B m d,e=.returned (opV o B m d)/\Row w' w0.heap.size 5 B m d (o.path.flatMap zCl)/\m=o.path.length/\RX w' rb F s/\w0.grownBy w' (Z rb)
theorem Row.overO {w w':ZY} {base rb:Nat} {sz:Nat} {A:Option Addr} {n c:Nat} {xs:List Value} (h:Row w base sz A n c xs) (hg:w.grownBy w' (Z rb)) (hlt:rb < base):Row w' base sz A n c xs:=by
 refine h.kept hg ?_
 cases e:blk A with
 | none=>exact .inl rfl
 | some k=>exact .inr (fun he=>by injection he with he;have:=(h.lt k e).1;omega)
theorem Row.farSet {w:ZY} {base g:Nat} {sz:Nat} {A:Option Addr} {n c:Nat} {xs:List Value} (h:Row w base sz A n c xs) (q:Nat) (u:Value) (hg:∀k,blk A=Z k->k≠g):Row (w.setCell ⟨g,q,U⟩ u) base sz A n c xs:=by
 refine h.kept (row:=Z g) (zBv _ _) ?_
 cases e:blk A with
 | none=>exact .inl rfl
 | some k=>exact .inr (fun he=>by injection he with he;exact hg k e he)
theorem zFW {k:Nat} (h1:1<=k) (h8:k<=8) (v:List UInt8):(zAu (k:Int)==v)=decide (zBI v=(k:Int)):=by
 by_cases e:zBI v=(k:Int)
 ·obtain ⟨_,_,h3⟩:=zHt (v:=v) (by omega);rw [e] at h3;rw [h3,zCC (by omega) (by omega)];simp
 ·have:zAu (k:Int)≠v:=fun h=>e (by rw [<-h];exact zCC (by omega) (by omega))
  rw [decide_eq_false e];simpa using this
def kTo (K:Int) (k:Nat):Int:=if K < (k:Int) then K else 0
theorem zFr {s:RS} (ZO:List UInt8) (h:s.bad=Q):s.must ZO=s.mark E:=by
 obtain ⟨T,bad,lost⟩:=s;simp only at h;subst h;rfl
theorem zEl {s:RS} (ZO:List UInt8) (h:s.bad=E):s.must ZO=(s.is ZO).mark (!isB s.T ZO):=by
 unfold RS.must;rw [qN (by rw [h];simp)]
theorem zJy (ZV:Nat->Act->ZY->Prop) (ZP:Exit->Act->ZY->Prop) (a:Act) (w:ZY):zDR ZV ZP .normal a w=ZP .normal a w:=rfl
theorem zLQ (ZV:Nat->Act->ZY->Prop) (ZP:Exit->Act->ZY->Prop) (id:Nat) (a:Act) (w:ZY):zDR ZV ZP (.exit id) a w=ZP (.exit id) a w:=rfl
theorem zDd (ZV:Nat->Act->ZY->Prop) (ZP:Exit->Act->ZY->Prop) (a:Act) (w:ZY):zDR ZV ZP .ret a w=ZP .ret a w:=rfl
theorem zLR {ZV:Nat->Act->ZY->Prop} {ZP:Exit->Act->ZY->Prop} {l:Nat} {a:Act} {w:ZY} (h:ZV l a w):zDR ZV ZP (.goto l) a w:=h
theorem Row.store8 {w:ZY} {base g sz:Nat} {A:Option Addr} {n c:Nat} {xs:List Value} (h:Row w base sz A n c xs) (hg:g < base) (u0 u1 u2 u3 u4 u5 u6 u7:Value) :
  Row ((((((((w.setCell ⟨g,0,U⟩ u0).setCell ⟨g,1,U⟩ u1).setCell ⟨g,2,U⟩ u2).setCell ⟨g,3,U⟩ u3).setCell ⟨g,4,U⟩ u4).setCell ⟨g,5,U⟩ u5).setCell ⟨g,6,U⟩ u6).setCell ⟨g,7,U⟩ u7) base sz A n c xs:=by
 have hne:∀(wx:ZY),Row wx base sz A n c xs->∀k,blk A=Z k->k≠g:=fun wx hx k hk=>by have:=(hx.lt k hk).1;omega
 have h0:=h.farSet 0 u0 (hne _ h);have h1:=h0.farSet 1 u1 (hne _ h0);have h2:=h1.farSet 2 u2 (hne _ h1);have h3:=h2.farSet 3 u3 (hne _ h2);have h4:=h3.farSet 4 u4 (hne _ h3);have h5:=h4.farSet 5 u5 (hne _ h4);have h6:=h5.farSet 6 u6 (hne _ h5);exact h6.farSet 7 u7 (hne _ h6)
theorem zSc {α:Type} (d:α):∀(n:Nat) (l:List α),l.length=n->l=(List.range n).map (fun i=>l.getD i d):=fun n l h=>by
 apply List.ext_getElem?;intro i;by_cases hi:i < n
 ·rw [List.getElem?_map,List.getElem?_range hi,List.getElem?_eq_getElem (by omega)];simp [List.getD,List.getElem?_eq_getElem (show i < l.length by omega)]
 ·rw [List.getElem?_eq_none (by omega),List.getElem?_eq_none (by simp;omega)]
theorem zFs (n:Nat) (t:Array Value) (h:t.size=n):t=⟨(List.range n).map (fun i=>t.getD i undef)⟩:=by
 apply Array.ext';have:=zSc undef n t.toList (by simpa using h);simp only [Array.getD_eq_getD_getElem?];rw [this]
 congr 1
 funext i
 simp [List.getD]
theorem zEK {p:Prop} (h:Hid p):p:=h.out
def zUX (w:ZY) (rb a1:Nat) (F:Fm) (f:Nat) (s4:RS) (X:ZY) (si:RS) (Pi:List Sp) (B:Option Addr) (m c N:Nat):Prop :=
 RX X rb F si/\Blk X w.heap.size 32 #[D J 0,D J 0,D J 0,D J 0,G E,D J 0,H U 0 0,G E] /\
  Blk X a1 32 #[D J 3,D J (f:Int),D J 0,D J 0,G E,D J 0,H B m c,G E]/\w.grownBy X (Z rb)/\Row X (a1+1) 5 B m c (Pi.flatMap zCl)/\m=Pi.length /\
  m+si.T.length<=s4.T.length/\si.T.length < N/\zDN F.L N si Pi=zDN F.L (s4.T.length+1) s4 []
theorem zLS (rb:Nat) (F:Fm) (s:RS) (w:ZY) (h:RX w rb F s) (hT:s.T.length<=100000) (hw:zBI (xa s.T 0)=3) :
  Calls ZX 98 #[.pointer (Z ⟨rb,0,U⟩)] w (zEJ w rb F (opR F.L s).1 (opR F.L s).2):=by
 obtain ⟨S0,gO⟩:∃S,xa s.T 0=S:=⟨_,rfl⟩
 obtain ⟨s1,e1⟩:∃x,s.next=x:=⟨_,rfl⟩
 obtain ⟨K,eK⟩:∃x,zBI S0=x:=⟨_,rfl⟩
 obtain ⟨s2,e2⟩:∃x,s1.mark (decide (K=0))=x:=⟨_,rfl⟩
 obtain ⟨S1,lj⟩:∃S,xa s2.T 0=S:=⟨_,rfl⟩
 obtain ⟨s3,e3⟩:∃x,s2.next=x:=⟨_,rfl⟩
 obtain ⟨s4,e4⟩:∃x,s3.fing F.L S1=x:=⟨_,rfl⟩
 obtain ⟨f,efi⟩:∃x,zDA F.L S1=x:=⟨_,rfl⟩
 obtain ⟨b,eb⟩:∃b,s1.bad=b:=⟨_,rfl⟩
 have cF:xa s.T.tail 0=S1:=by rw [<-lj,<-e2,<-e1];rfl
 have p8:s4.T.length<=100000:=by
  rw [<-e4,<-e3,<-e2,<-e1];simp only [RS.fing,RS.next,RS.mark,List.length_tail];omega
 have HR:=qH (show opR F.L s=zBP F.L K f s4 by
  have hp:zFn F.L s=s4:=by
   unfold zFn
   rw [gO,cF,e1,eK,e2,e3,e4]
  unfold opR
  rw [hp,gO,cF,eK,efi])
 have hK:0<=K/\K<=8:=by
  by_cases e:K=0
  ·omega
  ·have:=zHt (v:=S0) (by rw [eK];exact e);rw [eK] at this;omega
 have nZ:=qH (fun (k:Nat) (h1:1<=k) (h8:k<=8)=>(show ((bA (zAu (k:Int))).toList==(bA S0).toList)=decide (K=(k:Int)) by
  rw [zAr,zAr,<-eK];exact zFW h1 h8 S0))
 have H1:=qH (fun wx (hx:RX wx rb F s)=>zCE hx);have H2:=qH (fun wx (hx:RX wx rb F s2)=>zCE hx);have H3:=qH (fun wx (hx:RX wx rb F s3)=>zCF hx S1)
 have HM:=qH (fun wx (hx:RX wx rb F s1)=>(show wx.cell? ⟨rb,4,U⟩=Z (G b)/\wx.frozen? ⟨rb,4,U⟩=E/\∀q,q=(b||decide (K=0))->RX (wx.setCell ⟨rb,4,U⟩ (G q)) rb F s2/\wx.grownBy (wx.setCell ⟨rb,4,U⟩ (G q)) (Z rb) from
  ⟨by rw [<-eb];exact hx.bad4.1,hx.bad4.2,fun q hq=>by rw [<-e2];exact hx.marked (decide (K=0)) q (by rw [eb];exact hq)⟩))
 simp only [gO,e1] at H1;simp only [lj,e3] at H2;simp only [efi,e4] at H3;rw [HR.out];have HW:Hid (K=3):=qH (by rw [<-eK,<-gO];exact hw);have hlt:=h.lt
 have d9:=qH (fun (o:Og) (st:RS) (he:zBP F.L K f s4=(o,st)) (wx:ZY) (B:Option Addr) (m d:Nat) (hrow:Row wx w.heap.size 5 B m d (o.path.flatMap zCl)) (hm:m=o.path.length) (hx:RX wx rb F st) (hg:w.grownBy wx (Z rb)) =>
  (show zEJ w rb F (zBP F.L K f s4).1 (zBP F.L K f s4).2 (.returned (opV o B m d)) wx from by rw [he];exact ⟨B,m,d,rfl,hrow,hm,hx,hg⟩))
 clear gO e1 e2 lj e3 e4 efi eb eK cF HR hT hw;have b1:ZZ w.heap.size w ((w.alloc (.cells #[D J 0,D J 0,D J 0,D J 0,G E,D J 0,H U 0 0,G E] 32)).alloc (.cells #[D J 0,D J 0,D J 0,D J 0,G E,D J 0,H U 0 0,G E] 32)):=((M _ _).alloc (O _) _).alloc (by simp) _;have dJ:Blk ((w.alloc (.cells #[D J 0,D J 0,D J 0,D J 0,G E,D J 0,H U 0 0,G E] 32)).alloc (.cells #[D J 0,D J 0,D J 0,D J 0,G E,D J 0,H U 0 0,G E] 32)) w.heap.size 32 #[D J 0,D J 0,D J 0,D J 0,G E,D J 0,H U 0 0,G E]:=(Blk.new w _ _).alloc _;have cT:Blk ((w.alloc (.cells #[D J 0,D J 0,D J 0,D J 0,G E,D J 0,H U 0 0,G E] 32)).alloc (.cells #[D J 0,D J 0,D J 0,D J 0,G E,D J 0,H U 0 0,G E] 32)) (w.heap.size+1) 32 #[D J 0,D J 0,D J 0,D J 0,G E,D J 0,H U 0 0,G E]:=by have:=Blk.new (w.alloc (.cells #[D J 0,D J 0,D J 0,D J 0,G E,D J 0,H U 0 0,G E] 32)) 32 #[D J 0,D J 0,D J 0,D J 0,G E,D J 0,H U 0 0,G E];rwa [World.size_alloc] at this
 have h1:=h.below b1;have g1:w.grownBy ((w.alloc (.cells #[D J 0,D J 0,D J 0,D J 0,G E,D J 0,H U 0 0,G E] 32)).alloc (.cells #[D J 0,D J 0,D J 0,D J 0,G E,D J 0,H U 0 0,G E] 32)) (Z rb):=zAA b1;have ax:rb < w.heap.size:=hlt;have ao:rb < w.heap.size+1:=by omega
 have fe:w.heap.size<=w.heap.size:=O _;have bw:w.heap.size<=w.heap.size+1:=by omega
 clear h b1;obtain ⟨a1,cY⟩:∃a,a=w.heap.size+1:=⟨_,rfl⟩
 have jw:w.heap.size < a1:=by omega
 go_enter Tryz.func98,Tryz.ntmps98;go_wp2_with fail
 generalize ((w.alloc (.cells #[D J 0,D J 0,D J 0,D J 0,G E,D J 0,H U 0 0,G E] 32)).alloc (.cells #[D J 0,D J 0,D J 0,D J 0,G E,D J 0,H U 0 0,G E] 32))=X1 at dJ cT h1 g1 ⊢;rw [<-cY] at cT ao bw ⊢;clear cY;refine (H1.out X1 h1).mono ?_;rintro e zq ⟨rfl,pt,jo⟩;have dV:=dJ.grownO jo ax;have dU:=cT.grownO jo ao;have px:=zAb g1 jo;clear h1 g1 dJ cT jo H1;go_wp2_with fail
 go_loopw [5] (fun v wv=>∃(k:Nat) (X:ZY),X=wv/\1<=k/\k<=9/\v=D J k/\Hid (RX X rb F s1/\Blk X w.heap.size 32 #[D J 0,D J 0,D J 0,D J 0,G E,D J 0,H U 0 0,G E]/\Blk X a1 32 #[D J (kTo K k),D J 0,D J 0,D J 0,G E,D J 0,H U 0 0,G E]/\w.grownBy X (Z rb))) (fun v _=>9-(intOf v).toNat)
 case atStart=>exact ⟨1,_,rfl,by omega,by omega,rfl,qH (by rw [show kTo K 1=0 from by unfold kTo;split<;>omega];exact ⟨pt,dV,dU,px⟩)⟩
 case round =>
  clear pt px dV dU;obtain ⟨k,X,hX,aq,EX,rfl,HX⟩:=hrel;subst hX;by_cases hk:k<=8
  ·have i1:(k:Int)<=8:=by omega
   have n0:=nZ.out k aq hk;by_cases hq:K=(k:Int)
   ·obtain ⟨tF,dT,ck,tP⟩:=HX.out;rw [decide_eq_true hq] at n0;have Eu:=ck.frozen 0;have Gp:X.cell? ⟨a1,0,U⟩=Z (D J (kTo K k)):=(ck.cell 0).trans rfl;have dR:Blk (X.setCell ⟨a1,0,U⟩ (D J (k:Int))) a1 32 #[D J (k:Int),D J 0,D J 0,D J 0,G E,D J 0,H U 0 0,G E]:=ck.set_ 0 _;have rS:ZZ (rb+1) X (X.setCell ⟨a1,0,U⟩ (D J (k:Int))):=(M _ _).setCell (p:=⟨a1,0,U⟩) ao _;have sH:ZZ w.heap.size X (X.setCell ⟨a1,0,U⟩ (D J (k:Int))):=(M _ _).setCell (p:=⟨a1,0,U⟩) bw _;have dS:=dT.far (p:=⟨a1,0,U⟩) (by simp only;omega) (D J (k:Int));have tE:=tF.over rS;have tO:=zAd tP sH;clear tF tP dT ck rS sH;have HF:=qH (show kTo K (k+1)=(k:Int) by unfold kTo;rw [qP (by omega)];exact hq);have HZ:=qH (show RX (X.setCell ⟨a1,0,U⟩ (D J (k:Int))) rb F s1/\Blk (X.setCell ⟨a1,0,U⟩ (D J (k:Int))) w.heap.size 32 #[D J 0,D J 0,D J 0,D J 0,G E,D J 0,H U 0 0,G E]/\Blk (X.setCell ⟨a1,0,U⟩ (D J (k:Int))) a1 32 #[D J (k:Int),D J 0,D J 0,D J 0,G E,D J 0,H U 0 0,G E]/\w.grownBy (X.setCell ⟨a1,0,U⟩ (D J (k:Int))) (Z rb) from ⟨tE,dS,dR,tO⟩);clear HX hq tE tO dS dR;go_wp2_with (first | (go_at_call 106;refine (zBV (k:Int) (by omega) (by omega) _).mono ?_;rintro e wq ⟨rfl,rfl⟩))
    go_roundw
    case rel=>exact ⟨k+1,_,rfl,by omega,by omega,by go_num,qH (by rw [HF.out];exact HZ.out)⟩
    case measure=>simp [intOf];omega
   ·rw [decide_eq_false hq] at n0;have HF:=qH (show kTo K (k+1)=kTo K k by unfold kTo;split<;>split<;>omega);clear hq;go_wp2_with (first | (go_at_call 106;refine (zBV (k:Int) (by omega) (by omega) _).mono ?_;rintro e wq ⟨rfl,rfl⟩))
    go_roundw
    case rel=>exact ⟨k+1,_,rfl,by omega,by omega,by go_num,qH (by rw [HF.out];exact HX.out)⟩
    case measure=>simp [intOf];omega
  ·have i1:¬(k:Int)<=8:=by omega
   obtain ⟨tD,dQ,ci,tM⟩:=HX.out;rw [show kTo K k=K from by unfold kTo;rw [qP (by omega)]] at ci;obtain ⟨c4,z4,hm⟩:=HM.out X tD;have HZ:=qH (fun (q:Bool) hq=>(show RX (X.setCell ⟨rb,4,U⟩ (G q)) rb F s2/\Blk (X.setCell ⟨rb,4,U⟩ (G q)) w.heap.size 32 #[D J 0,D J 0,D J 0,D J 0,G E,D J 0,H U 0 0,G E]/\Blk (X.setCell ⟨rb,4,U⟩ (G q)) a1 32 #[D J K,D J 0,D J 0,D J 0,G E,D J 0,H U 0 0,G E]/\w.grownBy (X.setCell ⟨rb,4,U⟩ (G q)) (Z rb) from ⟨(hm q hq).1,dQ.grownO (hm q hq).2 ax,ci.grownO (hm q hq).2 ao,zAb tM (hm q hq).2⟩));have f0:X.cell? ⟨a1,0,U⟩=Z (D J K):=(ci.cell 0).trans rfl;clear hm HM HX nZ tD tM dQ ci;obtain ⟨q0,o3⟩:∃q,decide (K=0)=q:=⟨_,rfl⟩
   have i2:(K==0)=q0:=by rw [<-o3];by_cases e:K=0<;>simp [e]
   rw [o3] at HZ;clear o3;go_upto_region 8 with fail
   go_cut [29] (fun _ wv=>∃X:ZY,X=wv/\RX X rb F s2/\Blk X w.heap.size 32 #[D J 0,D J 0,D J 0,D J 0,G E,D J 0,H U 0 0,G E]/\Blk X a1 32 #[D J K,D J 0,D J 0,D J 0,G E,D J 0,H U 0 0,G E]/\w.grownBy X (Z rb))
   case first =>
    cases b<;>cases q0
    all_goals
     go_wp2_with fail
     go_meet
     case rel=>exact ⟨_,rfl,HZ.out _ rfl⟩
   case rest =>
    clear c4 z4 HZ f0 i2;obtain ⟨X,hX,tC,dP,dO,tL⟩:=hcut;subst hX;go_wp2_with fail
    refine (H2.out X tC).mono ?_;rintro e zo ⟨rfl,tB,jn⟩;have dM:=dP.grownO jn ax;have dL:=dO.grownO jn ao;have tK:=zAb tL jn;clear tC tL dP dO jn H2;go_wp2_with fail
    refine (H3.out zo tB).mono ?_;rintro e gJ ⟨rfl,tA,jm⟩;have dK:=dM.grownO jm ax;have cg:=dL.grownO jm ao;have g17:=zAb tK jm;clear tB tK dM dL jm H3;have xv:=cg.frozen 1;have zi:gJ.cell? ⟨a1,1,U⟩=Z (D J 0):=(cg.cell 1).trans rfl;have cK:Blk (gJ.setCell ⟨a1,1,U⟩ (D J (f:Int))) a1 32 #[D J K,D J (f:Int),D J 0,D J 0,G E,D J 0,H U 0 0,G E]:=cg.set_ 1 _;have rR:ZZ (rb+1) gJ (gJ.setCell ⟨a1,1,U⟩ (D J (f:Int))):=(M _ _).setCell (p:=⟨a1,1,U⟩) ao _;have sG:ZZ w.heap.size gJ (gJ.setCell ⟨a1,1,U⟩ (D J (f:Int))):=(M _ _).setCell (p:=⟨a1,1,U⟩) bw _;have cL:=dK.far (p:=⟨a1,1,U⟩) (by simp only;omega) (D J (f:Int));have pr:=tA.over rR;have g18:=zAd g17 sG;clear tA g17 dK cg rR sG;go_upto_region 10 with fail
    clear xv zi;generalize gJ.setCell ⟨a1,1,U⟩ (D J (f:Int))=X9 at pr g18 cL cK ⊢;have HA:=qH (show RX X9 rb F s4/\Blk X9 w.heap.size 32 #[D J 0,D J 0,D J 0,D J 0,G E,D J 0,H U 0 0,G E]/\Blk X9 a1 32 #[D J K,D J (f:Int),D J 0,D J 0,G E,D J 0,H U 0 0,G E]/\w.grownBy X9 (Z rb) from ⟨pr,cL,cK,g18⟩);clear pr g18 cL cK;by_cases n4:K=4
    ·subst n4;exact absurd HW.out (by omega)
    by_cases n5:K=5
    ·subst n5;exact absurd HW.out (by omega)
    by_cases n6:K=6
    ·subst n6;exact absurd HW.out (by omega)
    by_cases n7:K=7
    ·subst n7;exact absurd HW.out (by omega)
    by_cases n3:K=3
    ·subst n3;obtain ⟨lg,cJ,ce,pw⟩:=HA.out;clear HA;have f0:X9.cell? ⟨a1,0,U⟩=Z (D J 3):=(ce.cell 0).trans rfl;have nU:=qH (show zUX w rb a1 F f s4 X9 s4 [] U 0 0 (s4.T.length+1) from ⟨lg,cJ,ce,pw,Row.none_ _ _ _,rfl,by omega,by omega,rfl⟩);go_wp2_with fail
     clear f0 lg pw cJ ce;refine zIa 0 s4.T.length (fun n a wv=>∃(X:ZY) (si:RS) (Pi:List Sp) (B:Option Addr) (m c N:Nat),(a.tmps.size=129/\a.tmps.getD 0 undef=.pointer (Z ⟨rb,0,U⟩)/\a.tmps.getD 2 undef=.pointer (Z ⟨w.heap.size,0,U⟩)/\a.tmps.getD 3 undef=.pointer (Z ⟨a1,0,U⟩)/\a.defers=[])/\X=wv/\n=si.T.length/\Hid (zUX w rb a1 F f s4 X si Pi B m c N)) ?_ ?_
     ·exact ⟨_,s4,[],U,0,0,_,⟨rfl,rfl,rfl,rfl,rfl⟩,rfl,rfl,nU⟩
     clear nU;rintro n ⟨tm,df⟩ X ⟨X0,si,Pi,B,m,c,N,⟨hs,t0,t2,t3,hd⟩,hX,hn,HJ⟩;subst hX;subst hn;simp only at hs t0 t2 t3 hd;subst hd;obtain ⟨v,hv⟩:∃v:Nat->Value,tm=#[.pointer (Z ⟨rb,0,U⟩),v 1,.pointer (Z ⟨w.heap.size,0,U⟩),.pointer (Z ⟨a1,0,U⟩),v 4,v 5,v 6,v 7,v 8,v 9,v 10,v 11,v 12,v 13,v 14,v 15,v 16,v 17,v 18,v 19,v 20,v 21,v 22,v 23,v 24,v 25,v 26,v 27,v 28,v 29,v 30,v 31,v 32,v 33,v 34,v 35,v 36,v 37,v 38,v 39,v 40,v 41,v 42,v 43,v 44,v 45,v 46,v 47,v 48,v 49,v 50,v 51,v 52,v 53,v 54,v 55,v 56,v 57,v 58,v 59,v 60,v 61,v 62,v 63,v 64,v 65,v 66,v 67,v 68,v 69,v 70,v 71,v 72,v 73,v 74,v 75,v 76,v 77,v 78,v 79,v 80,v 81,v 82,v 83,v 84,v 85,v 86,v 87,v 88,v 89,v 90,v 91,v 92,v 93,v 94,v 95,v 96,v 97,v 98,v 99,v 100,v 101,v 102,v 103,v 104,v 105,v 106,v 107,v 108,v 109,v 110,v 111,v 112,v 113,v 114,v 115,v 116,v 117,v 118,v 119,v 120,v 121,v 122,v 123,v 124,v 125,v 126,v 127,v 128]:=⟨fun i=>tm.getD i undef,by rw [<-t0,<-t2,<-t3];exact zFs 129 tm hs⟩
     subst hv;clear hs t0 t2 t3;obtain ⟨kb,aF,bp,kc,ku,hm,hle,hN,hpk⟩:=HJ.out;obtain ⟨N,rfl⟩:∃n',N=n'+1:=⟨N-1,by omega⟩
     rw [zDN] at hpk;have wW:=qH (fun wx (hx:RX wx rb F si)=>zNU hx zAz)
     cases hib:isB si.T zAz with
     | true =>
      obtain ⟨sj,ej⟩:∃x,si.is zAz=x:=⟨_,rfl⟩
      obtain ⟨⟨xf,xl,xfar,xpc⟩,ex⟩:∃x,(zAQ F.L sj).1=x:=⟨_,rfl⟩
      obtain ⟨se,ee⟩:∃x,(zAQ F.L sj).2=x:=⟨_,rfl⟩
      have HE:=qH (show zBP F.L 3 f s4=(⟨3,f,⟨xf,xl,xfar,xpc⟩,Pi,E⟩,se) by unfold zBP;rw [qN (by omega),qP rfl,<-hpk,qP hib,ej,ex,ee]);have cc:=qH (fun wx (hx:RX wx rb F sj)=>zDQ rb F sj wx hx);simp only [ex,ee] at cc;simp only [hib,ej] at wW;have Bc:=qH hm;clear hib ej ex ee hpk HJ hN hm hle;go_wp2_with fail
      refine (wW.out X0 kb).mono ?_;rintro e kd ⟨rfl,nb,iz⟩;have gz:=aF.grownO iz ax;have eC:=bp.grownO iz ao;have xy:=ku.overO iz (by omega);have nf:=zAb kc iz;clear kb kc aF bp ku iz wW;go_wp2_with fail
      refine (cc.out kd nb).mono ?_;rintro e fV ⟨rfl,eQ,lW⟩;have bq:=gz.grownO lW ax;have cw:=eC.grownO lW ao;have uf:=xy.overO lW (by omega);have fu:=zAb nf lW;clear nb nf gz eC xy lW cc;have xk:=cw.frozen 2;have zd:fV.cell? ⟨a1,2,U⟩=Z (D J 0):=(cw.cell 2).trans rfl;have xj:=cw.frozen 3;have zc:fV.cell? ⟨a1,3,U⟩=Z (D J 0):=(cw.cell 3).trans rfl;have xi:=cw.frozen 4;have zb:fV.cell? ⟨a1,4,U⟩=Z (G E):=(cw.cell 4).trans rfl;have xh:=cw.frozen 5;have za:fV.cell? ⟨a1,5,U⟩=Z (D J 0):=(cw.cell 5).trans rfl;have tc:Blk (fV.setCell ⟨a1,2,U⟩ (D J xf)) a1 32 #[D J 3,D J (f:Int),D J xf,D J 0,G E,D J 0,H B m c,G E]:=cw.set_ 2 _;have rI:ZZ (rb+1) fV (fV.setCell ⟨a1,2,U⟩ (D J xf)):=(M _ _).setCell (p:=⟨a1,2,U⟩) ao _;have su:ZZ w.heap.size fV (fV.setCell ⟨a1,2,U⟩ (D J xf)):=(M _ _).setCell (p:=⟨a1,2,U⟩) bw _;have jv:=bq.far (p:=⟨a1,2,U⟩) (by simp only;omega) (D J xf);have kD:=uf.farSet (g:=a1) 2 (D J xf) (fun k hk=>by have:=(uf.lt k hk).1;omega);have tb:Blk ((fV.setCell ⟨a1,2,U⟩ (D J xf)).setCell ⟨a1,3,U⟩ (D J xl)) a1 32 #[D J 3,D J (f:Int),D J xf,D J xl,G E,D J 0,H B m c,G E]:=tc.set_ 3 _;have rH:ZZ (rb+1) fV ((fV.setCell ⟨a1,2,U⟩ (D J xf)).setCell ⟨a1,3,U⟩ (D J xl)):=rI.setCell (p:=⟨a1,3,U⟩) ao _;have ss:ZZ w.heap.size fV ((fV.setCell ⟨a1,2,U⟩ (D J xf)).setCell ⟨a1,3,U⟩ (D J xl)):=su.setCell (p:=⟨a1,3,U⟩) bw _;have ju:=jv.far (p:=⟨a1,3,U⟩) (by simp only;omega) (D J xl);have kC:=kD.farSet (g:=a1) 3 (D J xl) (fun k hk=>by have:=(kD.lt k hk).1;omega);have ta:Blk (((fV.setCell ⟨a1,2,U⟩ (D J xf)).setCell ⟨a1,3,U⟩ (D J xl)).setCell ⟨a1,4,U⟩ (G xfar)) a1 32 #[D J 3,D J (f:Int),D J xf,D J xl,G xfar,D J 0,H B m c,G E]:=tb.set_ 4 _;have rG:ZZ (rb+1) fV (((fV.setCell ⟨a1,2,U⟩ (D J xf)).setCell ⟨a1,3,U⟩ (D J xl)).setCell ⟨a1,4,U⟩ (G xfar)):=rH.setCell (p:=⟨a1,4,U⟩) ao _;have sr:ZZ w.heap.size fV (((fV.setCell ⟨a1,2,U⟩ (D J xf)).setCell ⟨a1,3,U⟩ (D J xl)).setCell ⟨a1,4,U⟩ (G xfar)):=ss.setCell (p:=⟨a1,4,U⟩) bw _;have js:=ju.far (p:=⟨a1,4,U⟩) (by simp only;omega) (G xfar);have kB:=kC.farSet (g:=a1) 4 (G xfar) (fun k hk=>by have:=(kC.lt k hk).1;omega);have s9:Blk ((((fV.setCell ⟨a1,2,U⟩ (D J xf)).setCell ⟨a1,3,U⟩ (D J xl)).setCell ⟨a1,4,U⟩ (G xfar)).setCell ⟨a1,5,U⟩ (D J xpc)) a1 32 #[D J 3,D J (f:Int),D J xf,D J xl,G xfar,D J xpc,H B m c,G E]:=ta.set_ 5 _;have rF:ZZ (rb+1) fV ((((fV.setCell ⟨a1,2,U⟩ (D J xf)).setCell ⟨a1,3,U⟩ (D J xl)).setCell ⟨a1,4,U⟩ (G xfar)).setCell ⟨a1,5,U⟩ (D J xpc)):=rG.setCell (p:=⟨a1,5,U⟩) ao _;have sq:ZZ w.heap.size fV ((((fV.setCell ⟨a1,2,U⟩ (D J xf)).setCell ⟨a1,3,U⟩ (D J xl)).setCell ⟨a1,4,U⟩ (G xfar)).setCell ⟨a1,5,U⟩ (D J xpc)):=sr.setCell (p:=⟨a1,5,U⟩) bw _;have aI:=js.far (p:=⟨a1,5,U⟩) (by simp only;omega) (D J xpc);have oG:=kB.farSet (g:=a1) 5 (D J xpc) (fun k hk=>by have:=(kB.lt k hk).1;omega);have yT:=eQ.over rF;have y9:=zAd fu sq;clear eQ fu bq cw uf rI su tc jv kD rH ss tb ju kC rG sr ta js kB rF sq;go_wp2_with fail
      rw [zLQ];clear xk zd xj zc xi zb xh za;generalize ((((fV.setCell ⟨a1,2,U⟩ (D J xf)).setCell ⟨a1,3,U⟩ (D J xl)).setCell ⟨a1,4,U⟩ (G xfar)).setCell ⟨a1,5,U⟩ (D J xpc))=X24 at yT y9 aI s9 oG ⊢;obtain ⟨f0,f1,f2,f3,f4,f5,f6,f7⟩:=cQ8 s9;have y0:X24.cell? ⟨w.heap.size,0,U⟩=Z (D J 0):=(aI.cell 0).trans rfl;have ki:=aI.frozen 0;have y1:X24.cell? ⟨w.heap.size,1,U⟩=Z (D J 0):=(aI.cell 1).trans rfl;have kh:=aI.frozen 1;have y2:X24.cell? ⟨w.heap.size,2,U⟩=Z (D J 0):=(aI.cell 2).trans rfl;have lT:=aI.frozen 2;have y3:X24.cell? ⟨w.heap.size,3,U⟩=Z (D J 0):=(aI.cell 3).trans rfl;have lS:=aI.frozen 3;have y4:X24.cell? ⟨w.heap.size,4,U⟩=Z (G E):=(aI.cell 4).trans rfl;have lQ:=aI.frozen 4;have y5:X24.cell? ⟨w.heap.size,5,U⟩=Z (D J 0):=(aI.cell 5).trans rfl;have lO:=aI.frozen 5;have y6:X24.cell? ⟨w.heap.size,6,U⟩=Z (H U 0 0):=(aI.cell 6).trans rfl;have lM:=aI.frozen 6;have y7:X24.cell? ⟨w.heap.size,7,U⟩=Z (G E):=(aI.cell 7).trans rfl;have lK:=aI.frozen 7;have hS:=aI.store8 (D J 3) (D J (f:Int)) (D J xf) (D J xl) (G xfar) (D J xpc) (H B m c) (G E);have bS:=zAc (M (rb+1) X24) (show rb+1<=w.heap.size from ax) (D J 3) (D J (f:Int)) (D J xf) (D J xl) (G xfar) (D J xpc) (H B m c) (G E);have lq:=zAc (M w.heap.size X24) fe (D J 3) (D J (f:Int)) (D J xf) (D J xl) (G xfar) (D J xpc) (H B m c) (G E);have hX:=yT.over bS;have gX:=zAd y9 lq;have hE:=oG.store8  (show w.heap.size < a1+1 by omega) (D J 3) (D J (f:Int)) (D J xf) (D J xl) (G xfar) (D J xpc) (H B m c) (G E);go_wp2_with fail
      exact zAi rfl rfl hS Tryz.underlying32 rfl (by kernel_rfl) rfl (d9.out ⟨3,f,⟨xf,xl,xfar,xpc⟩,Pi,E⟩ se HE.out _ B m c (hE.mono (by omega)) Bc.out hX gX)
     | false =>
      obtain ⟨ov,eov⟩:∃x,ovT (xa si.T 0)=x:=⟨_,rfl⟩
      obtain ⟨sa,ea⟩:∃x,si.over=x:=⟨_,rfl⟩
      obtain ⟨⟨xf,xl,xfar,xpc⟩,ex⟩:∃x,(zAQ F.L sa).1=x:=⟨_,rfl⟩
      obtain ⟨sb,eb⟩:∃x,(zAQ F.L sa).2=x:=⟨_,rfl⟩
      obtain ⟨sc,ec⟩:∃x,sb.must [44]=x:=⟨_,rfl⟩
      have ES:zLk F.L si=(⟨⟨xf,xl,xfar,xpc⟩,ov⟩,sc):=by unfold zLk;rw [ea,ex,eb,ec,eov]
      have iW:=qH (fun (hb:sc.bad=E)=>(show sc.T.length < si.T.length by have:=zTK (L:=F.L) (s:=si) (by rw [ES];exact hb);obtain ⟨_,y,_,hT,_⟩:=this;rw [ES] at hT;have:=congrArg List.length hT;simp [stT] at this;omega));have zN:=qH (show (if sc.bad then ((Pi++[(⟨⟨xf,xl,xfar,xpc⟩,ov⟩:Sp)],s0),sc) else zDN F.L N sc (Pi++[(⟨⟨xf,xl,xfar,xpc⟩,ov⟩:Sp)]))=zDN F.L (s4.T.length+1) s4 [] by rw [<-hpk,hib,ES];rfl);have cc:=qH (fun wx (hx:RX wx rb F sa)=>zDQ rb F sa wx hx);simp only [ex,eb] at cc;have bJ:=qH (fun wx (hx:RX wx rb F si)=>zHy hx);simp only [eov,ea] at bJ;simp only [hib,zIF hib] at wW;have Bc:=qH hm;have ji:=qH hle;have DK:=qH hN;have hm5:m<=100000:=by omega
      have EC:=qH ec;clear hib eov ea ex eb ec ES hpk HJ hN hm hle;go_wp2_with fail
      refine (wW.out X0 kb).mono ?_;rintro e jf ⟨rfl,na,gT⟩;have gu:=aF.grownO gT ax;have eB:=bp.grownO gT ao;have xx:=ku.overO gT (by omega);have nd:=zAb kc gT;clear kb kc aF bp ku gT wW;go_wp2_with fail
      refine (bJ.out jf na).mono ?_;rintro e qU ⟨rfl,iV,jY⟩;have dG:=gu.grownO jY ax;have dF:=eB.grownO jY ao;have ue:=xx.overO jY (by omega);have jS:=zAb nd jY;clear na nd gu eB xx jY bJ;have pp:=fun k hk=>(ue.lt k hk).2
      have jl:ZZ qU.heap.size qU (qU.alloc (.cells #[D J 0,D J 0,G E,D J 0,G ov] 86)):=(M _ _).alloc (O _) _;have kO:=dG.below jl dG.lt;have kM:=dF.below jl dF.lt;have iE:Blk (qU.alloc (.cells #[D J 0,D J 0,G E,D J 0,G ov] 86)) qU.heap.size 86 #[D J 0,D J 0,G E,D J 0,G ov]:=Blk.new _ _ _;have qR:=iV.below jl;have kw:=ue.below jl;have qS:=zAb jS (zAA (row:=Z rb) jl);have ii:=iV.lt;have oL:=dG.lt;have oK:=dF.lt;have jR:=jS.size;clear iV jS dG dF ue jl;go_wp2_with fail
      generalize qU.alloc (.cells #[D J 0,D J 0,G E,D J 0,G ov] 86)=qT at qR qS kO kM iE kw ⊢;generalize qU.heap.size=a_st at iE ii jR oL oK pp ⊢;have qQ:=pp;clear pp;refine (cc.out qT qR).mono ?_;rintro e cB ⟨rfl,kb,jk⟩;have aF:=kO.grownO jk ax;have bp:=kM.grownO jk ao;have cX:=iE.grownO jk ii;have ku:=kw.overO jk (by omega);have kc:=zAb qS jk;clear qR qS kO kM iE kw jk cc;have lJ:=cX.frozen 0;have nj:cB.cell? ⟨a_st,0,U⟩=Z (D J 0):=(cX.cell 0).trans rfl;have lI:=cX.frozen 1;have ni:cB.cell? ⟨a_st,1,U⟩=Z (D J 0):=(cX.cell 1).trans rfl;have lH:=cX.frozen 2;have nh:cB.cell? ⟨a_st,2,U⟩=Z (G E):=(cX.cell 2).trans rfl;have lG:=cX.frozen 3;have ng:cB.cell? ⟨a_st,3,U⟩=Z (D J 0):=(cX.cell 3).trans rfl;have jA:Blk (cB.setCell ⟨a_st,0,U⟩ (D J xf)) a_st 86 #[D J xf,D J 0,G E,D J 0,G ov]:=cX.set_ 0 _;have fF:ZZ (rb+1) cB (cB.setCell ⟨a_st,0,U⟩ (D J xf)):=(M _ _).setCell (p:=⟨a_st,0,U⟩) ii _;have fJ:ZZ w.heap.size cB (cB.setCell ⟨a_st,0,U⟩ (D J xf)):=(M _ _).setCell (p:=⟨a_st,0,U⟩) jR _;have dA:=aF.far (p:=⟨a_st,0,U⟩) (by simp only;omega) (D J xf);have jr:=bp.far (p:=⟨a_st,0,U⟩) (by simp only;omega) (D J xf);have oE:=ku.farSet (g:=a_st) 0 (D J xf) (fun k hk=>Nat.ne_of_lt (qQ k hk));have jz:Blk ((cB.setCell ⟨a_st,0,U⟩ (D J xf)).setCell ⟨a_st,1,U⟩ (D J xl)) a_st 86 #[D J xf,D J xl,G E,D J 0,G ov]:=jA.set_ 1 _;have fE:ZZ (rb+1) cB ((cB.setCell ⟨a_st,0,U⟩ (D J xf)).setCell ⟨a_st,1,U⟩ (D J xl)):=fF.setCell (p:=⟨a_st,1,U⟩) ii _;have fI:ZZ w.heap.size cB ((cB.setCell ⟨a_st,0,U⟩ (D J xf)).setCell ⟨a_st,1,U⟩ (D J xl)):=fJ.setCell (p:=⟨a_st,1,U⟩) jR _;have dz:=dA.far (p:=⟨a_st,1,U⟩) (by simp only;omega) (D J xl);have jq:=jr.far (p:=⟨a_st,1,U⟩) (by simp only;omega) (D J xl);have oD:=oE.farSet (g:=a_st) 1 (D J xl) (fun k hk=>Nat.ne_of_lt (qQ k hk));have jy:Blk (((cB.setCell ⟨a_st,0,U⟩ (D J xf)).setCell ⟨a_st,1,U⟩ (D J xl)).setCell ⟨a_st,2,U⟩ (G xfar)) a_st 86 #[D J xf,D J xl,G xfar,D J 0,G ov]:=jz.set_ 2 _;have fD:ZZ (rb+1) cB (((cB.setCell ⟨a_st,0,U⟩ (D J xf)).setCell ⟨a_st,1,U⟩ (D J xl)).setCell ⟨a_st,2,U⟩ (G xfar)):=fE.setCell (p:=⟨a_st,2,U⟩) ii _;have fH:ZZ w.heap.size cB (((cB.setCell ⟨a_st,0,U⟩ (D J xf)).setCell ⟨a_st,1,U⟩ (D J xl)).setCell ⟨a_st,2,U⟩ (G xfar)):=fI.setCell (p:=⟨a_st,2,U⟩) jR _;have dy:=dz.far (p:=⟨a_st,2,U⟩) (by simp only;omega) (G xfar);have jp:=jq.far (p:=⟨a_st,2,U⟩) (by simp only;omega) (G xfar);have oC:=oD.farSet (g:=a_st) 2 (G xfar) (fun k hk=>Nat.ne_of_lt (qQ k hk));have gr:Blk ((((cB.setCell ⟨a_st,0,U⟩ (D J xf)).setCell ⟨a_st,1,U⟩ (D J xl)).setCell ⟨a_st,2,U⟩ (G xfar)).setCell ⟨a_st,3,U⟩ (D J xpc)) a_st 86 #[D J xf,D J xl,G xfar,D J xpc,G ov]:=jy.set_ 3 _;have fC:ZZ (rb+1) cB ((((cB.setCell ⟨a_st,0,U⟩ (D J xf)).setCell ⟨a_st,1,U⟩ (D J xl)).setCell ⟨a_st,2,U⟩ (G xfar)).setCell ⟨a_st,3,U⟩ (D J xpc)):=fD.setCell (p:=⟨a_st,3,U⟩) ii _;have fG:ZZ w.heap.size cB ((((cB.setCell ⟨a_st,0,U⟩ (D J xf)).setCell ⟨a_st,1,U⟩ (D J xl)).setCell ⟨a_st,2,U⟩ (G xfar)).setCell ⟨a_st,3,U⟩ (D J xpc)):=fH.setCell (p:=⟨a_st,3,U⟩) jR _;have cI:=dy.far (p:=⟨a_st,3,U⟩) (by simp only;omega) (D J xpc);have dx:=jp.far (p:=⟨a_st,3,U⟩) (by simp only;omega) (D J xpc);have iy:=oC.farSet (g:=a_st) 3 (D J xpc) (fun k hk=>Nat.ne_of_lt (qQ k hk));have nL:=kb.over fC;have nN:=zAd kc fG;clear kb kc aF bp cX ku fF fJ jA dA jr oE fE fI jz dz jq oD fD fH jy dy jp oC fC fG;go_upto_region 18 with fail
      clear lJ nj lI ni lH nh lG ng;generalize ((((cB.setCell ⟨a_st,0,U⟩ (D J xf)).setCell ⟨a_st,1,U⟩ (D J xl)).setCell ⟨a_st,2,U⟩ (G xfar)).setCell ⟨a_st,3,U⟩ (D J xpc))=X32 at nL nN cI dx gr iy ⊢;have f6:X32.cell? ⟨a1,6,U⟩=Z (H B m c):=(dx.cell 6).trans rfl;obtain ⟨y0,y1,y2,y3,y4⟩:=cQ5 gr;have hsz:a1+1<=X32.heap.size:=by have:=dx.lt;omega
      go_upto_region 19 with (at_builtin;refine zEK ?_)
      refine qH ?_;refine zWI (y:=⟨⟨xf,xl,xfar,xpc⟩,ov⟩) (N:=m+1) (base:=a1+1) (A:=B) (n:=m) (c:=c) (P:=Pi) rfl (.tmp 58) (.tmp 60) ?_ ?_ ?_ ?_ ?_ ?_ ?_ ?_
      ·rfl
      ·exact iy
      ·rfl
      ·rfl
      ·rfl
      ·omega
      ·exact hsz
      intro A2 c2 w9 hR9 b8 cl;have bn:=iy.belowOf b8 hsz;have h9:=nL.over (bn.mono (by omega));have sI:=cI.below bn (by omega);have mQ:=dx.below bn (by omega);have g9:=zAd nN (bn.mono (by omega));clear hsz bn b8 cl nL nN cI dx gr iy f6 y0 y1 y2 y3 y4;have z33:=mQ.frozen 6;have d33:w9.cell? ⟨a1,6,U⟩=Z (H B m c):=(mQ.cell 6).trans rfl;have bG:Blk (w9.setCell ⟨a1,6,U⟩ (H A2 (m+1) c2)) a1 32 #[D J 3,D J (f:Int),D J 0,D J 0,G E,D J 0,H A2 (m+1) c2,G E]:=mQ.set_ 6 _;have ug:ZZ (rb+1) w9 (w9.setCell ⟨a1,6,U⟩ (H A2 (m+1) c2)):=(M _ _).setCell (p:=⟨a1,6,U⟩) ao _;have EL:ZZ w.heap.size w9 (w9.setCell ⟨a1,6,U⟩ (H A2 (m+1) c2)):=(M _ _).setCell (p:=⟨a1,6,U⟩) bw _;have bX:=sI.far (p:=⟨a1,6,U⟩) (by simp only;omega) (H A2 (m+1) c2);have h33:=h9.over ug;have fz:=hR9.farSet (g:=a1) 6 (H A2 (m+1) c2) (fun k hk=>by have:=(hR9.lt k hk).1;omega);have li:=zAd g9 EL;clear h9 g9 sI mQ hR9 ug EL;go_upto_region 19 with fail
      clear z33 d33;generalize w9.setCell ⟨a1,6,U⟩ (H A2 (m+1) c2)=X34 at h33 li bX bG fz ⊢;go_cut [72] (fun _ wv=>∃X:ZY,X=wv/\RX X rb F sc/\Blk X w.heap.size 32 #[D J 0,D J 0,D J 0,D J 0,G E,D J 0,H U 0 0,G E]/\Blk X a1 32 #[D J 3,D J (f:Int),D J 0,D J 0,G E,D J 0,H A2 (m+1) c2,G E]/\w.grownBy X (Z rb)/\Row X (a1+1) 5 A2 (m+1) c2 ((Pi++[(⟨⟨xf,xl,xfar,xpc⟩,ov⟩:Sp)]).flatMap zCl))
      case first =>
       cases hb:sb.bad with
       | true =>
        have c4:X34.cell? ⟨rb,4,U⟩=Z (G Q):=by rw [<-hb];exact h33.bad4.1
        have z4:=h33.bad4.2;have hm:=h33.marked E Q (by rw [hb];rfl);have HZ:=qH (show RX (X34.setCell ⟨rb,4,U⟩ (G Q)) rb F sc/\Blk (X34.setCell ⟨rb,4,U⟩ (G Q)) w.heap.size 32 #[D J 0,D J 0,D J 0,D J 0,G E,D J 0,H U 0 0,G E]/\Blk (X34.setCell ⟨rb,4,U⟩ (G Q)) a1 32 #[D J 3,D J (f:Int),D J 0,D J 0,G E,D J 0,H A2 (m+1) c2,G E]/\w.grownBy (X34.setCell ⟨rb,4,U⟩ (G Q)) (Z rb)/\Row (X34.setCell ⟨rb,4,U⟩ (G Q)) (a1+1) 5 A2 (m+1) c2 ((Pi++[(⟨⟨xf,xl,xfar,xpc⟩,ov⟩:Sp)]).flatMap zCl) from ⟨by rw [<-EC.out,zFr [44] hb];exact hm.1,bX.grownO hm.2 ax,bG.grownO hm.2 ao,zAb li hm.2,fz.overO hm.2 (by omega)⟩);clear hm hb h33 li bX bG fz;go_wp2_with fail
        go_meet
        case rel=>exact ⟨_,rfl,HZ.out⟩
       | false =>
        obtain ⟨ib,eib⟩:∃b,isB sb.T [44]=b:=⟨_,rfl⟩
        have c4:X34.cell? ⟨rb,4,U⟩=Z (G E):=by rw [<-hb];exact h33.bad4.1
        have z4:=h33.bad4.2;have HI:=qH (zNU h33 [44]);rw [eib] at HI;have HE:=qH (show (sb.is [44]).mark (!ib)=sc by rw [<-EC.out,zEl [44] hb,eib]);have HB:=qH hb;clear eib hb;go_wp2_with fail
        refine HI.out.mono ?_;rintro e Y ⟨rfl,hy,qy⟩;have mI:=bX.grownO qy ax;have mH:=bG.grownO qy ao;have pj:=fz.overO qy (by omega);have yV:=zAb li qy;have c5:Y.cell? ⟨rb,4,U⟩=Z (G E):=by rw [<-HB.out];exact hy.bad4.1
        have z5:=hy.bad4.2;have hm:=fun q (hq:q = !ib)=>hy.marked (!ib) q (by rw [show (sb.is [44]).bad=E from HB.out];exact hq)
        have HZ:=qH (fun (q:Bool) (hq:q = !ib)=>(show RX (Y.setCell ⟨rb,4,U⟩ (G q)) rb F sc/\Blk (Y.setCell ⟨rb,4,U⟩ (G q)) w.heap.size 32 #[D J 0,D J 0,D J 0,D J 0,G E,D J 0,H U 0 0,G E]/\Blk (Y.setCell ⟨rb,4,U⟩ (G q)) a1 32 #[D J 3,D J (f:Int),D J 0,D J 0,G E,D J 0,H A2 (m+1) c2,G E]/\w.grownBy (Y.setCell ⟨rb,4,U⟩ (G q)) (Z rb)/\Row (Y.setCell ⟨rb,4,U⟩ (G q)) (a1+1) 5 A2 (m+1) c2 ((Pi++[(⟨⟨xf,xl,xfar,xpc⟩,ov⟩:Sp)]).flatMap zCl) from ⟨by rw [<-HE.out];exact (hm q hq).1,mI.grownO (hm q hq).2 ax,mH.grownO (hm q hq).2 ao,zAb yV (hm q hq).2,pj.overO (hm q hq).2 (by omega)⟩));clear hm qy HI HE HB c4 z4 hy yV mI mH pj h33 li bX bG fz
        cases ib
        all_goals
         go_wp2_with fail
         go_meet
         case rel=>exact ⟨_,rfl,HZ.out _ rfl⟩
      case rest =>
       clear h33 li bX bG fz;obtain ⟨nP,hX,tz,bl,fy,wM,kX⟩:=hcut;subst hX
       cases hbad:sc.bad with
       | true =>
        have c9:nP.cell? ⟨rb,4,U⟩=Z (G Q):=by rw [<-hbad];exact tz.bad4.1
        have HE:=qH (show zBP F.L 3 f s4=(⟨3,f,s0,Pi++[(⟨⟨xf,xl,xfar,xpc⟩,ov⟩:Sp)],E⟩,sc) by unfold zBP;rw [qN (by omega),qP rfl,<-zN.out,qP hbad]);clear hbad;go_wp2_with fail
        rw [zJy];clear c9;obtain ⟨f0,f1,f2,f3,f4,f5,f6,f7⟩:=cQ8 fy;have y0:nP.cell? ⟨w.heap.size,0,U⟩=Z (D J 0):=(bl.cell 0).trans rfl;have ki:=bl.frozen 0;have y1:nP.cell? ⟨w.heap.size,1,U⟩=Z (D J 0):=(bl.cell 1).trans rfl;have kh:=bl.frozen 1;have y2:nP.cell? ⟨w.heap.size,2,U⟩=Z (D J 0):=(bl.cell 2).trans rfl;have lT:=bl.frozen 2;have y3:nP.cell? ⟨w.heap.size,3,U⟩=Z (D J 0):=(bl.cell 3).trans rfl;have lS:=bl.frozen 3;have y4:nP.cell? ⟨w.heap.size,4,U⟩=Z (G E):=(bl.cell 4).trans rfl;have lQ:=bl.frozen 4;have y5:nP.cell? ⟨w.heap.size,5,U⟩=Z (D J 0):=(bl.cell 5).trans rfl;have lO:=bl.frozen 5;have y6:nP.cell? ⟨w.heap.size,6,U⟩=Z (H U 0 0):=(bl.cell 6).trans rfl;have lM:=bl.frozen 6;have y7:nP.cell? ⟨w.heap.size,7,U⟩=Z (G E):=(bl.cell 7).trans rfl;have lK:=bl.frozen 7;have hS:=bl.store8 (D J 3) (D J (f:Int)) (D J 0) (D J 0) (G E) (D J 0) (H A2 (m+1) c2) (G E);have bS:=zAc (M (rb+1) nP) (show rb+1<=w.heap.size from ax) (D J 3) (D J (f:Int)) (D J 0) (D J 0) (G E) (D J 0) (H A2 (m+1) c2) (G E);have lq:=zAc (M w.heap.size nP) fe (D J 3) (D J (f:Int)) (D J 0) (D J 0) (G E) (D J 0) (H A2 (m+1) c2) (G E);have hX:=tz.over bS;have gX:=zAd wM lq;have hE:=kX.store8  (show w.heap.size < a1+1 by omega) (D J 3) (D J (f:Int)) (D J 0) (D J 0) (G E) (D J 0) (H A2 (m+1) c2) (G E);go_wp2_with fail
        exact zAi rfl rfl hS Tryz.underlying32 rfl (by kernel_rfl) rfl (d9.out ⟨3,f,s0,Pi++[(⟨⟨xf,xl,xfar,xpc⟩,ov⟩:Sp)],E⟩ sc HE.out _ A2 (m+1) c2 (hE.mono (by omega)) (by rw [Bc.out];simp) hX gX)
       | false =>
        have c9:nP.cell? ⟨rb,4,U⟩=Z (G E):=by rw [<-hbad];exact tz.bad4.1
        have HL:=qH (iW.out hbad);have HF:=qH (show zUX w rb a1 F f s4 nP sc (Pi++[(⟨⟨xf,xl,xfar,xpc⟩,ov⟩:Sp)]) A2 (m+1) c2 N from ⟨tz,bl,fy,wM,kX,by rw [Bc.out];simp,by have:=HL.out;have:=ji.out;omega,by have:=HL.out;have:=DK.out;omega,by rw [<-zN.out,hbad];rfl⟩);clear hbad tz wM bl fy kX;go_wp2_with fail
        go_step3
        refine zLR ⟨rfl,_,HL.out,_,sc,_,A2,m+1,c2,N,⟨rfl,rfl,rfl,rfl,rfl⟩,rfl,rfl,HF⟩
    exact absurd HW.out (by omega)
