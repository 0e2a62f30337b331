/-
  Lemmas, part 35. Conditions: each theorem's own.
-/
import Derived.Test.YtlmdfmnbcndhoaaGreatDoorRc34
open Go.Value renaming bool→G,int→D,slice→H,string→W
open Go.IntKind renaming i64→J
open Option renaming none→U,some→Z
open Bool renaming false→E,true→Q
namespace Go.Proofs.YtlmdfmnbcndhoaaGreatDoor
open Go.RowKit
def zTD (b:Bi):List Value:=[D J b.f,D J b.n,G b.b]
structure BiOk (b:Bi):Prop where
 f:I64 b.f
 n:I64 b.n
structure BiAt (w:World) (g o:Nat) (x:Bi):Prop where
 f:w.cell? ⟨g,o,U⟩=Z (D J x.f)
 n:w.cell? ⟨g,o+1,U⟩=Z (D J x.n)
 b:w.cell? ⟨g,o+2,U⟩=Z (G x.b)
def Bits (w:World) (A:Option Addr) (n:Nat) (l:List Bi):Prop:=Els 3 zTD w A n l∧∀x∈l,BiOk x
section
variable {w w':World} {A:Option Addr} {n:Nat} {l:List Bi}
theorem Bits.len (h:Bits w A n l):l.length=n:=h.1.1
theorem Bits.below (h:Bits w A n l) (hb:Below w.heap.size w w'):Bits w' A n l:=⟨h.1.below hb,h.2⟩
theorem Bits.at_ {k:Nat} (h:Bits w A n l) (hk:k < n):∃g o,A=Z ⟨g,o,U⟩∧g < w.heap.size∧BiAt w g (o+k*3) (ba l k)∧BiOk (ba l k):=by
 obtain ⟨g,o,e,hb,hc⟩:=h.1.2.2 (by omega);have hx:l[k]? = Z (ba l k):=zCK (by rw [h.len];exact hk);refine ⟨g,o,e,hb,⟨hc k _ hx 0 _ rfl,hc k _ hx 1 _ rfl,hc k _ hx 2 _ rfl⟩,h.2 _ (List.mem_of_getElem? hx)⟩
end
theorem zWD:(Tryz.prog.info? 174).map (fun i=>(i.zero,i.size,i.bytes))=Z (Z (.agg #[D J 0,D J 0,G E]),3,24):=by kernel_rfl
theorem zXL {w:World} {ops:Array Oper} {rest:List Oper} {o:Oper} {a:Act} {ZS:Exit→Act→World→Prop} (hgd:o.guard=U) (s x:Operand)
  (ho:o.op=.call { callee:=.builtin .append,args:=#[s,x],argTypes:=#[124,124] })
  {base:Nat} {A:Option Addr} {n c:Nat} {P:List Bi} (hst:Row w base 3 A n c (P.flatMap zTD)) (y:Bi)
  (hs:a.eval s=H A n c) (hx:a.eval x=H (Z ⟨w.heap.size,0,U⟩) 1 1) (N:Nat) (hN:n+1=N) (hn:N≤1000000) (hbase:base≤w.heap.size)
  (h:∀A' c' w',Row w' base 3 A' N c' ((P++[y]).flatMap zTD)→w.grownBy w' (blk A)→(∀k,blk A'=Z k→blk A=Z k∨w.heap.size≤k)→wpList Tryz.prog ops ZS rest (a.put o.dst (H A' N c')) w') :
  wpList Tryz.prog ops ZS (o :: rest) a (w.alloc (.cells #[D J y.f,D J y.n,G y.b] 174)):=by
 obtain ⟨i0,hi,aT,az,bt⟩:=info_parts zWD;have hbl:=(Below.refl w.heap.size w).alloc (Nat.le_refl _) (.cells #[D J y.f,D J y.n,G y.b] 174);have bO:=hst.below hbl
 refine zOy hgd s x 124 ho 174 i0 _ 3 24 Tryz.underlying124 hi aT az bt rfl (by decide) bO (Src.new (m:=1) (cs:=zTD y) rfl)
  (by intro u hu;simp [zTD] at hu;rcases hu with rfl | rfl | rfl<;>rfl) hs hx N hN (by unfold maxLen;omega) (by omega) (by simp;omega) ?_
 intro A' c' w' h1 h2 h3 _;refine h A' c' w' (by rw [List.flatMap_append];simpa using h1) ?_ (fun k hk=>?_)
 ·exact zAb (zAv hbl) h2
 ·rcases h3 k hk with e | e
  ·exact .inl e
  ·exact .inr (by simp at e;omega)
def zQs (x:List UInt8):List UInt8:=match x.getLast? with
 | some c=>[c]
 | none=>[]
theorem zQt (S:List UInt8) (c:UInt8):zQs (S++[c])=[c]:=by unfold zQs;simp
theorem zJM (x:List UInt8) (c:UInt8):(zQs x==[c])=zAZ x c:=by
 unfold zQs zAZ
 cases x.getLast? with
 | none=>simp
 | some d=>by_cases h:d=c<;>simp [h]
theorem zSx (S:List UInt8) (c:UInt8) (w:World):(Instr.slice 9 (W (bA (S++[c]))) U (Z (D J (S.length:Int))) U).run Tryz.prog w=.ok (W (bA S)) w:=by
 rw [run_slice_string_h w 9 (bA (S++[c])) Tryz.underlying9 J (S.length:Int) (by omega) (by rw [zAP];simp;omega),zCg];simp
theorem zSy (S:List UInt8) (c:UInt8) (w:World):(Instr.slice 9 (W (bA (S++[c]))) (Z (D J (S.length:Int))) U U).run Tryz.prog w=.ok (W (bA [c])) w:=by
 rw [run_slice_string_l w 9 (bA (S++[c])) Tryz.underlying9 J (S.length:Int) (by omega) (by rw [zAP];simp;omega),zCg,zAP,List.take_of_length_le (Nat.le_refl _)];simp
theorem zVa (s:List UInt8) (hs:s.length≤100000) (w:World) (ht:Tabs w) :
  Calls Tryz.prog 62 #[W (bA s),W ⟨#[46]⟩] w fun e w'=>e=.returned (.tuple #[W (bA (Lib.cut s [46]).1),W (bA (Lib.cut s [46]).2.1),G (Lib.cut s [46]).2.2])∧Below w.heap.size w w':=by
 obtain ⟨m,hm⟩:=ht.most;have h:=Tryz.strings_Cut (bA s) (bA [46]) m w (by rw [zAP];omega) hm;rw [zDM,zDM] at h;refine h.mono ?_;rintro e w' ⟨rfl,n,rfl⟩;exact ⟨rfl,zAe (Below.refl _ _) n⟩
theorem zMV (S:List UInt8):0≤(zAr S).1∧(zAr S).1≤999999999:=by
 cases h:(zAr S).2 with
 | true =>
  obtain ⟨_,h2,h3⟩:=zCF (S:=S) (n:=(zAr S).1) (by rw [←h]);omega
 | false =>
  have:(zAr S).1=0:=by
   unfold zAr at h ⊢;split
   ·rename_i hc;rw [if_pos hc] at h;simp at h
   ·rfl
  omega
theorem zVb {L:List Fg} (hL:L.length≤17592186043904) (x:List UInt8):BiOk (zGY L x):=by
 have h1:=zMV (zGX x).2.1;have h2:=zMV x.dropLast;have h3:∀S,(zDE L S:Int)≤17592186043904:=fun S=>by
  unfold zDE
  cases zGu S with
  | none=>simp
  | some f=>have:=zDo (f:=f) (L:=L);simp only;omega
 have h4:=h3 (zGX x).1;unfold zGY;split
 ·refine ⟨⟨?_,?_⟩,⟨?_,?_⟩⟩<;>simp only<;>(try split)<;>omega
 ·refine ⟨⟨?_,?_⟩,⟨?_,?_⟩⟩<;>simp only<;>omega
theorem zSz {S:List UInt8} {v:Int} {ok:Bool} (h1:(zAr S).1=v) (h2:(zAr S).2=ok) (w:World) :
  Calls Tryz.prog 129 #[W (bA S)] w fun e w'=>e=.returned (.tuple #[D J v,G ok])∧Below w.heap.size w w':=by
 subst h1;subst h2;exact zHF S w
def BitW (X:World) (rb:Nat) (F:Fm) (T:List (List UInt8)) (bad lost:Bool) (base:Nat) (A:Option Addr) (i c:Nat) (l:List Bi) (a8:Nat) (f n:Int) (b:Bool) (Y:World):Prop :=
 RX X rb F ⟨T,bad,lost⟩∧Row X base 3 A i c (l.flatMap zTD)∧Blk X a8 174 #[D J f,D J n,G b]∧Y.grownBy X (Z rb)
section
variable {X V:World} {rb:Nat} {F:Fm} {T:List (List UInt8)} {bad lost:Bool} {base:Nat} {A:Option Addr} {i c:Nat} {l:List Bi} {a8:Nat} {f n:Int} {b:Bool} {Y:World}
theorem BitW.below (h:BitW X rb F T bad lost base A i c l a8 f n b Y) (hb:Below X.heap.size X V):BitW V rb F T bad lost base A i c l a8 f n b Y :=
 ⟨h.1.below hb,h.2.1.below hb,h.2.2.1.below hb h.2.2.1.lt,zAb h.2.2.2 (zAv hb)⟩
theorem BitW.marked (h:BitW X rb F T bad lost base A i c l a8 f n b Y) (hb:rb < base) (h8:rb < a8) (q m:Bool) (hq:q=(bad||m)):BitW (X.setCell ⟨rb,4,U⟩ (G q)) rb F T (bad||m) lost base A i c l a8 f n b Y:=by
 obtain ⟨h1,h2⟩:=h.1.marked m q hq;exact ⟨h1,h.2.1.overO h2 hb,h.2.2.1.grownO h2 h8,zAb h.2.2.2 h2⟩
theorem BitW.grown {eI jN:Bool} (h:BitW X rb F T bad lost base A i c l a8 f n b Y) (hb:rb < base) (h8:rb < a8) (hx:RX V rb F ⟨T,jN,eI⟩) (hg:X.grownBy V (Z rb)):BitW V rb F T jN eI base A i c l a8 f n b Y :=
 ⟨hx,h.2.1.overO hg hb,h.2.2.1.grownO hg h8,zAb h.2.2.2 hg⟩
theorem BitW.set0 (h:BitW X rb F T bad lost base A i c l a8 f n b Y) (h8:rb < a8) (hY:Y.heap.size≤a8) (hA:∀k,blk A=Z k→k≠a8) (u:Int):BitW (X.setCell ⟨a8,0,U⟩ (D J u)) rb F T bad lost base A i c l a8 u n b Y :=
 ⟨h.1.over ((Below.refl _ _).setCell (p:=⟨a8,0,U⟩) h8 _),h.2.1.farSet 0 _ hA,h.2.2.1.set_ 0 _,zAc h.2.2.2 ((Below.refl _ _).setCell (p:=⟨a8,0,U⟩) hY _)⟩
theorem BitW.set1 (h:BitW X rb F T bad lost base A i c l a8 f n b Y) (h8:rb < a8) (hY:Y.heap.size≤a8) (hA:∀k,blk A=Z k→k≠a8) (u:Int):BitW (X.setCell ⟨a8,1,U⟩ (D J u)) rb F T bad lost base A i c l a8 f u b Y :=
 ⟨h.1.over ((Below.refl _ _).setCell (p:=⟨a8,1,U⟩) h8 _),h.2.1.farSet 1 _ hA,h.2.2.1.set_ 1 _,zAc h.2.2.2 ((Below.refl _ _).setCell (p:=⟨a8,1,U⟩) hY _)⟩
theorem BitW.set2 (h:BitW X rb F T bad lost base A i c l a8 f n b Y) (h8:rb < a8) (hY:Y.heap.size≤a8) (hA:∀k,blk A=Z k→k≠a8) (u:Bool):BitW (X.setCell ⟨a8,2,U⟩ (G u)) rb F T bad lost base A i c l a8 f n u Y :=
 ⟨h.1.over ((Below.refl _ _).setCell (p:=⟨a8,2,U⟩) h8 _),h.2.1.farSet 2 _ hA,h.2.2.1.set_ 2 _,zAc h.2.2.2 ((Below.refl _ _).setCell (p:=⟨a8,2,U⟩) hY _)⟩
theorem BitW.c0 (h:BitW X rb F T bad lost base A i c l a8 f n b Y):X.cell? ⟨a8,0,U⟩=Z (D J f):=(h.2.2.1.cell 0).trans rfl
theorem BitW.c1 (h:BitW X rb F T bad lost base A i c l a8 f n b Y):X.cell? ⟨a8,1,U⟩=Z (D J n):=(h.2.2.1.cell 1).trans rfl
theorem BitW.c2 (h:BitW X rb F T bad lost base A i c l a8 f n b Y):X.cell? ⟨a8,2,U⟩=Z (G b):=(h.2.2.1.cell 2).trans rfl
theorem BitW.z (h:BitW X rb F T bad lost base A i c l a8 f n b Y) (k:Nat):X.frozen? ⟨a8,k,U⟩=E:=h.2.2.1.frozen k
theorem BitW.bad4 (h:BitW X rb F T bad lost base A i c l a8 f n b Y):X.cell? ⟨rb,4,U⟩=Z (G bad)∧X.frozen? ⟨rb,4,U⟩=E:=h.1.bad4
end
def zKT (w:World) (rb:Nat) (F:Fm) (T:List (List UInt8)) (bad lost:Bool) (Ws:List (List UInt8)) (e:Ending) (w':World):Prop :=
 ∃A c,e=.returned (H A Ws.length c)∧Row w' w.heap.size 3 A Ws.length c ((Ws.map (zGY F.L)).flatMap zTD)∧RX w' rb F ⟨T,bad||zBY Ws,lost||zCQ F.L Ws⟩∧w.grownBy w' (Z rb)
set_option maxHeartbeats 12800000 in
set_option maxRecDepth 100000 in
theorem zMf (rb:Nat) (F:Fm) (T:List (List UInt8)) (bad0 lost0:Bool) (S:List UInt8) (w:World) (h:RX w rb F ⟨T,bad0,lost0⟩) (hS:S.length≤20000) (hT:∀X,w.grownBy X (Z rb)→Tabs X) :
  Calls Tryz.prog 79 #[.pointer (Z ⟨rb,0,U⟩),W (bA S)] w (zKT w rb F T bad0 lost0 (zAN 32 S)):=by
 obtain ⟨ws,hws⟩:∃ZR,zAN 32 S=ZR:=⟨_,rfl⟩
 rw [hws];obtain ⟨n,hn⟩:∃n,ws.length=n:=⟨_,rfl⟩
 have EF:n≤20001:=by rw [←hn,←hws];have:=zCx S;omega
 have hpl:∀p∈ws,p.length≤100000:=fun p hp=>by rw [←hws] at hp;exact Nat.le_trans (zCw 32 S p hp) (by omega)
 have cu:=qH hpl;have HN:=qH hn;have fS:=qH (zHH S (by omega) w (hT w (zBu _ _)));rw [hws,hn] at fS;have HT:=qH hT;have xT:=qH hws;clear hws hn hpl hS hT;go_enter Tryz.func79,Tryz.ntmps79;go_wp2_with fail
 refine fS.out.mono ?_;rintro e Y ⟨rfl,hY⟩;have tw:Below w.heap.size w Y:=by rw [hY];exact (Below.refl _ _).alloc (Nat.le_refl _) _
 have EL:∀(j:Nat) (p:List UInt8),ws[j]? = Z p→Y.cell? ⟨w.heap.size,j,U⟩=Z (W (bA p)):=fun j p hp=>by
  rw [hY,World.cell?_alloc_at _ _ _ _ rfl];simp [hp]
 have hlY:w.heap.size < Y.heap.size:=by rw [hY];simp
 have uy:=qH EL;have sO:=h.below tw;have hrw:rb < w.heap.size:=h.lt;have Gw:=qH (show w.grownBy Y (Z rb) from zAv tw);clear hY EL fS h;go_wp2_with fail
 go_loopw [5,19] (fun v5 v19 wv=>∃(i:Nat) (V:World) (A':Option Addr) (c':Nat) (l:List Bi) (bad lost:Bool),V=wv∧i≤n∧v19=D J i∧v5=H A' i c'∧RX V rb F ⟨T,bad,lost⟩∧Row V Y.heap.size 3 A' i c' (l.flatMap zTD)∧Y.grownBy V (Z rb)∧Hid (l=(ws.take i).map (zGY F.L)∧bad=(bad0||zBY (ws.take i))∧lost=(lost0||zCQ F.L (ws.take i)))) (fun _ v19 _=>n-(intOf v19).toNat)
 case atStart=>exact ⟨0,_,U,0,[],bad0,lost0,rfl,by omega,rfl,rfl,sO,Row.none_ _ _ _,zBu _ _,qH ⟨rfl,by simp [zBY,zMa],by simp [zCQ]⟩⟩
 case round =>
  clear sO;obtain ⟨i,V,A',c',l,bad,lost,hV,hi,rfl,rfl,hr,hR,hg,HI⟩:=hrel;subst hV;by_cases hlt:i < n
  ·have j0:(0:Int)≤(i:Int):=by omega
   have j1:(i:Int) < (n:Int):=by omega
   obtain ⟨x,hx⟩:∃p,ws[i]? = Z p:=⟨ws[i]'(by rw [HN.out];exact hlt),List.getElem?_eq_getElem _⟩
   have hxl:=cu.out x (List.mem_of_getElem? hx);have hc:V.cell? ⟨w.heap.size,i,U⟩=Z (W (bA x)):=by
    rw [World.cell?_of_block (w:=Y) (w':=V) (a:=⟨w.heap.size,i,U⟩) (hg.block _ hlY (fun e=>by injection e with e;simp only at e;omega))];exact uy.out i x hx
   have ew:=hg.size;have EE:=hr.lt;have sO:rb < Y.heap.size:=by omega
   have xx:=fun k hk=>(hR.lt k hk).2
   have hbl:=(Below.refl V.heap.size V).alloc (Nat.le_refl _) (.cells #[D J 0,D J 0,G E] 174)
   have bF:BitW (V.alloc (.cells #[D J 0,D J 0,G E] 174)) rb F T bad lost Y.heap.size A' i c' l V.heap.size 0 0 E Y :=
    ⟨hr.below hbl,hR.below hbl,Blk.new _ _ _,zAb hg (zAv hbl)⟩
   have HX:=qH hx;obtain ⟨em,hem⟩:∃b,x.isEmpty=b:=⟨_,rfl⟩
   have n0:((bA x).toList==[])=em:=by rw [zAD,←hem];cases x<;>rfl
   have Gz:=qH hem;have Fe:∀k,blk A'=Z k→k≠V.heap.size:=fun k hk=>Nat.ne_of_lt (xx k hk)
   have vd:=qH Fe;have h8:rb < V.heap.size:=EE;have uM:Y.heap.size≤V.heap.size:=ew;clear hr hR hg hx Fe xx hbl hem;go_upto_if 24 with fail
   clear hc;generalize V.alloc (.cells #[D J 0,D J 0,G E] 174)=X at bF ⊢;generalize V.heap.size=a8 at bF h8 uM vd ⊢;go_cut [7,9] (fun v7 v9 wv=>v7=W (bA x.dropLast)∧v9=W (bA (zQs x))∧∃X:World,X=wv∧BitW X rb F T bad lost Y.heap.size A' i c' l a8 0 0 E Y)
   case first =>
    rcases List.eq_nil_or_concat x with rfl | ⟨y,c,rfl⟩
    ·have HW:=qH bF;obtain rfl:Q=em:=Gz.out;clear bF n0;go_wp2_with fail
     go_meet
     case rel=>exact ⟨rfl,rfl,_,rfl,HW.out⟩
    ·obtain ⟨m,hm⟩:∃m,y.length=m:=⟨_,rfl⟩
     rw [List.concat_eq_append] at *;have s1:=fun w=>zSx y c w
     have s2:=fun w=>zSy y c w
     have hsz:(bA (y++[c])).size=m+1:=by rw [zAP];simp [hm]
     rw [hm] at s1 s2;obtain rfl:E=em:=by rw [←Gz.out];cases y<;>rfl
     have q1:IntKind.i64.wrap (((m+1:Nat):Int)-1)=(m:Int):=by rw [show ((m+1:Nat):Int)-1=(m:Int) by omega];exact IntWalk.i64_in _ (by simp only [List.length_append,List.length_singleton] at hxl;omega)
     have q2:IntKind.i64.wrap ((m:Int)+1-1)=(m:Int):=by rw [show (m:Int)+1-1=(m:Int) by omega];exact IntWalk.i64_in _ (by simp only [List.length_append,List.length_singleton] at hxl;omega)
     have q4:m≤100000:=by simp only [List.length_append,List.length_singleton] at hxl;omega
     have HW:=qH (fun q=>bF.below (zAe (Below.refl X.heap.size X) q));have HD:=qH (show (y++[c]).dropLast=y∧zQs (y++[c])=[c] from ⟨List.dropLast_concat,zQt y c⟩);clear bF hm;go_wp2_with fail
     go_quiet (fail)
     go_wp2_with fail
     go_meet
     case rel=>exact ⟨by rw [HD.out.1],by rw [HD.out.2],_,rfl,HW.out _⟩
   case rest =>
    clear bF n0;obtain ⟨rfl,rfl,X1,hX1,db⟩:=hcut;subst hX1;have hcl:x.dropLast.length≤100000:=by rw [List.length_dropLast];omega
    have hgw:=zAb Gw.out db.2.2.2;have eG:=qH (zVa x.dropLast hcl X1 (HT.out X1 hgw));obtain ⟨⟨ca,cb,dot⟩,hci⟩:∃y,Lib.cut x.dropLast [46]=y:=⟨_,rfl⟩
    rw [hci] at eG;have Af:=qH (show zGX x=(ca,cb,dot) from hci);have zF:((bA (zQs x)).toList==[62])=zAZ x 62:=by rw [zAD];exact zJM x 62
    have zH:((bA (zQs x)).toList==[60])=zAZ x 60:=by rw [zAD];exact zJM x 60
    have ua:((bA (zQs x)).toList==[111])=zAZ x 111:=by rw [zAD];exact zJM x 111
    have tZ:((bA (zQs x)).toList==[117])=zAZ x 117:=by rw [zAD];exact zJM x 117
    obtain ⟨mH,pw⟩:∃b,zAZ x 62=b:=⟨_,rfl⟩
    obtain ⟨sA,px⟩:∃b,zAZ x 60=b:=⟨_,rfl⟩
    obtain ⟨eJ,fj⟩:∃b,zAZ x 111=b:=⟨_,rfl⟩
    obtain ⟨gY,fH⟩:∃b,zAZ x 117=b:=⟨_,rfl⟩
    rw [pw] at zF;rw [px] at zH;rw [fj] at ua;rw [fH] at tZ;have n8:=qH (show zAZ x 62=mH∧zAZ x 60=sA∧zAZ x 111=eJ∧zAZ x 117=gY from ⟨pw,px,fj,fH⟩);generalize bA (zQs x)=en at zF zH ua tZ ⊢;clear hci hgw pw px fj fH hcl hxl;go_wp2_with fail
    refine eG.out.mono ?_;rintro e X2 ⟨rfl,ab⟩;have bp:=db.below ab;clear db ab eG;go_upto_if 42 with fail
    obtain ⟨dg,hdg⟩:∃d,(if dot then cb else x.dropLast)=d:=⟨_,rfl⟩
    obtain ⟨fv,hfv⟩:∃f:Int,(if dot then (if zDE F.L ca=0 then -1 else (zDE F.L ca:Int)) else 0)=f:=⟨_,rfl⟩
    obtain ⟨bv,hbv⟩:∃b:Bool,(if dot then mH else eJ)=b:=⟨_,rfl⟩
    obtain ⟨bm,hbm⟩:∃b:Bool,(if dot then zKz ca||!(mH||sA) else (!(eJ||gY))||decide (i=0))=b:=⟨_,rfl⟩
    obtain ⟨lm,hlm⟩:∃b:Bool,(dot&&zEM F.L ca)=b:=⟨_,rfl⟩
    have ux:=qH hdg;have ve:=qH hfv;have mF:=qH hbv;have vh:=qH hbm;have sn:=qH hlm;clear hdg hfv hbv hbm hlm;go_cut [10] (fun oo wv=>oo=W (bA dg)∧∃X:World,X=wv∧BitW X rb F T (bad||bm) (lost||lm) Y.heap.size A' i c' l a8 fv 0 bv Y)
    case first =>
     cases dot with
     | true =>
      have HF:=qH (fun wx (hx:RX wx rb F ⟨T,bad,lost⟩)=>zCH hx ca);obtain ⟨fx,hfx⟩:∃f,zDE F.L ca=f:=⟨_,rfl⟩
      obtain ⟨fb,hfb⟩:∃f,zKz ca=f:=⟨_,rfl⟩
      obtain ⟨fl,hfl⟩:∃f,zEM F.L ca=f:=⟨_,rfl⟩
      simp only [RS.fing,hfx,hfb,hfl] at HF;have hE:(if fx=0 then -1 else (fx:Int))=fv∧mH=bv∧(fb||!(mH||sA))=bm∧fl=lm∧cb=dg:=⟨by have:=ve.out;rw [if_pos rfl,hfx] at this;exact this,by have:=mF.out;rwa [if_pos rfl] at this,by have:=vh.out;rw [if_pos rfl,hfb] at this;exact this,by have:=sn.out;rw [hfl] at this;simpa using this,by have:=ux.out;rwa [if_pos rfl] at this⟩;have HE:=qH hE;clear hfx hfb hfl hE ve mF vh sn ux;have b0:=bp.c0;have z0:=bp.z 0;go_wp2_with fail
      refine (HF.out X2 bp.1).mono ?_;rintro e X3 ⟨rfl,EA,dL⟩;have bq:=bp.grown sO h8 EA dL;clear bp EA dL HF b0 z0;have b0:=bq.c0;have z0:=bq.z 0;have oD:=bq.set0 h8 uM vd.out (fx:Int);go_upto_region 13 with fail
      clear b0 z0 bq;generalize X3.setCell ⟨a8,0,U⟩ (D J (fx:Int))=X4 at oD ⊢;go_cut [60] (fun _ wv=>∃X:World,X=wv∧BitW X rb F T (bad||bm) (lost||lm) Y.heap.size A' i c' l a8 fx 0 E Y)
      case first =>
       have HZ:=qH (fun (q:Bool) (hq:q=((bad||fb)||!(mH||sA)))=>(show BitW (X4.setCell ⟨rb,4,U⟩ (G q)) rb F T (bad||bm) (lost||lm) Y.heap.size A' i c' l a8 fx 0 E Y by
        have:=oD.marked sO h8 q (!(mH||sA)) hq
        rwa [Bool.or_assoc,HE.out.2.2.1,HE.out.2.2.2.1] at this))
       have b4:=oD.bad4.1;have z4:=oD.bad4.2;obtain ⟨bb,hbb⟩:∃b,(bad||fb)=b:=⟨_,rfl⟩
       rw [hbb] at b4 HZ;clear oD hbb HE
       cases bb<;>cases mH<;>cases sA
       all_goals
        go_wp2_with fail
        go_meet
        case rel=>exact ⟨_,rfl,HZ.out _ rfl⟩
      case rest =>
       clear oD;obtain ⟨X5,nD,nF⟩:=hcut;subst nD;have b2:=nF.c2;have z2:=nF.z 2;have b0:=nF.c0;have z0:=nF.z 0;have rM:=nF.set2 h8 uM vd.out mH;have d0:=rM.c0;have dz0:=rM.z 0;have iL:=qH rM;have oH:=qH (rM.set0 h8 uM vd.out (-1));have rP:=HE.out;clear HE nF rM;by_cases hf0:fx=0
       ·subst hf0;have HE:=qH (show (-1:Int)=fv∧mH=bv∧cb=dg from ⟨by rw [←rP.1];rfl,rP.2.1,rP.2.2.2.2⟩);clear rP;go_wp2_with fail
        go_meet
        case rel=>exact ⟨by rw [HE.out.2.2],_,rfl,by rw [←HE.out.1,←HE.out.2.1];exact oH.out⟩
       ·have HE:=qH (show ((fx:Nat):Int)=fv∧mH=bv∧cb=dg from ⟨by rw [←rP.1,if_neg hf0],rP.2.1,rP.2.2.2.2⟩);have k0:((fx:Int)==0)=E:=by simp;omega
        clear rP hf0;go_wp2_with fail
        go_meet
        case rel=>exact ⟨by rw [HE.out.2.2],_,rfl,by rw [←HE.out.1,←HE.out.2.1];exact iL.out⟩
     | false =>
      have hE:(0:Int)=fv∧eJ=bv∧((!(eJ||gY))||decide (i=0))=bm∧E=lm∧x.dropLast=dg:=⟨by have:=ve.out;rwa [if_neg (by simp)] at this,by have:=mF.out;rwa [if_neg (by simp)] at this,by have:=vh.out;rwa [if_neg (by simp)] at this,by have:=sn.out;simpa using this,by have:=ux.out;rwa [if_neg (by simp)] at this⟩;have HE:=qH hE;clear hE ve mF vh sn ux;go_upto_region 17 with fail
      go_cut [87] (fun _ wv=>∃X:World,X=wv∧BitW X rb F T (bad||bm) (lost||lm) Y.heap.size A' i c' l a8 0 0 E Y)
      case first =>
       have HZ:=qH (fun (q:Bool) (hq:q=(bad||((!(eJ||gY))||decide (i=0))))=>(show BitW (X2.setCell ⟨rb,4,U⟩ (G q)) rb F T (bad||bm) (lost||lm) Y.heap.size A' i c' l a8 0 0 E Y by
        have:=bp.marked sO h8 q ((!(eJ||gY))||decide (i=0)) hq
        rwa [HE.out.2.2.1,show lost=(lost||lm) by rw [←HE.out.2.2.2.1];simp] at this))
       have b4:=bp.bad4.1;have z4:=bp.bad4.2;clear bp HE;by_cases hi0:i=0
       ·have p0:((i:Int)==0)=Q:=by simp;omega
        rw [decide_eq_true hi0] at HZ;clear hi0
        cases bad<;>cases eJ<;>cases gY
        all_goals
         go_wp2_with fail
         go_meet
         case rel=>exact ⟨_,rfl,HZ.out _ rfl⟩
       ·have p0:((i:Int)==0)=E:=by simp;omega
        rw [decide_eq_false hi0] at HZ;clear hi0
        cases bad<;>cases eJ<;>cases gY
        all_goals
         go_wp2_with fail
         go_meet
         case rel=>exact ⟨_,rfl,HZ.out _ rfl⟩
      case rest =>
       clear bp;obtain ⟨X5,nD,nF⟩:=hcut;subst nD;have b2:=nF.c2;have z2:=nF.z 2;have iL:=qH (nF.set2 h8 uM vd.out eJ);clear nF;go_wp2_with fail
       go_meet
       case rel=>exact ⟨by rw [HE.out.2.2.2.2],_,rfl,by rw [←HE.out.1,←HE.out.2.1];exact iL.out⟩
    case rest =>
     clear bp zF zH ua tZ;obtain ⟨rfl,X6,hX6,rM⟩:=hcut;subst hX6;obtain ⟨nv,hnv⟩:∃v,(zAr dg).1=v:=⟨_,rfl⟩
     obtain ⟨ok,hok⟩:∃v,(zAr dg).2=v:=⟨_,rfl⟩
     have oj:=qH (zSz hnv hok X6)
     have yC:=qH (show zGY F.L x=⟨fv,nv,bv⟩ by
      unfold zGY
      rw [Af.out]
      simp only
      rw [n8.out.1,n8.out.2.2.1,←ve.out,←mF.out,←hnv,←ux.out]
      cases dot<;>rfl)
     have yD:=qH (show ((bad||bm)||!ok)=(bad||(zIJ x||((ws.take i).isEmpty&&zPY x))) by
      have he:(ws.take i).isEmpty=decide (i=0):=by
       rcases Nat.eq_zero_or_pos i with h0 | h0
       ·rw [h0];rfl
       ·rw [decide_eq_false (by omega)]
        have:=HX.out
        cases ws with
        | nil=>simp at this
        | cons y ws=>cases i with
         | zero=>omega
         | succ i=>rfl
      unfold zIJ zPY
      rw [Af.out,he]
      simp only
      rw [n8.out.1,n8.out.2.1,n8.out.2.2.1,n8.out.2.2.2,←hok,←vh.out,←ux.out]
      cases dot
      ·simp only [Bool.false_eq_true,if_false,Bool.not_false,Bool.and_true]
       cases bad<;>cases eJ<;>cases gY<;>cases decide (i=0)<;>cases (zAr x.dropLast).2<;>rfl
      ·simp only [if_true,Bool.not_true,Bool.and_false,Bool.or_false]
       cases bad<;>cases zKz ca<;>cases mH<;>cases sA<;>cases (zAr cb).2<;>rfl)
     have di:=qH (show (lost||lm)=(lost||zRs F.L x) by
      unfold zRs
      rw [Af.out,←sn.out])
     clear hnv hok ve mF vh sn ux Af n8;go_wp2_with fail
     refine oj.out.mono ?_;rintro e X7 ⟨rfl,bE⟩;have wT:=rM.below bE;clear rM bE oj;go_upto_region 20 with fail
     go_cut [106] (fun _ wv=>∃X:World,X=wv∧BitW X rb F T ((bad||bm)||!ok) (lost||lm) Y.heap.size A' i c' l a8 fv 0 bv Y)
     case first =>
      obtain ⟨bb,hbb⟩:∃b,(bad||bm)=b:=⟨_,rfl⟩
      have HZ:=qH (fun (q:Bool) (hq:q=(bb||!ok))=>wT.marked sO h8 q (!ok) (by rw [hbb];exact hq));have b4:=wT.bad4.1;have z4:=wT.bad4.2;rw [hbb] at b4;clear wT hbb yD
      cases bb<;>cases ok
      all_goals
       go_wp2_with fail
       go_meet
       case rel=>exact ⟨_,rfl,HZ.out _ rfl⟩
     case rest =>
      clear wT;obtain ⟨X8,hX8,zc⟩:=hcut;subst hX8;have b1:=zc.c1;have z1:=zc.z 1;have ct:=zc.set1 h8 uM vd.out nv;go_upto_region 22 with fail
      clear b1 z1 zc;generalize X8.setCell ⟨a8,1,U⟩ (D J nv)=X9 at ct ⊢;have f0:=ct.c0;have f1:=ct.c1;have f2:=ct.c2;have hsz:Y.heap.size≤X9.heap.size:=ct.2.2.2.size;go_upto_region 23 with (at_builtin;refine zEw ?_)
      refine qH ?_;refine zXL (y:=⟨fv,nv,bv⟩) (N:=i+1) (base:=Y.heap.size) (A:=A') (n:=i) (c:=c') (P:=l) rfl (.tmp 111) (.tmp 113) ?_ ?_ ?_ ?_ ?_ ?_ ?_ ?_
      ·rfl
      ·exact ct.2.1
      ·rfl
      ·rfl
      ·rfl
      ·omega
      ·exact hsz
      intro A2 c2 w9 hR9 aQ aL;have aJ:=ct.2.1.belowOf aQ hsz;have A8:=ct.1.over (aJ.mono (by omega));have ti:=zAc ct.2.2.2 aJ
      have HF:=qH (show l++[(⟨fv,nv,bv⟩:Bi)]=(ws.take (i+1)).map (zGY F.L)∧((bad||bm)||!ok)=(bad0||zBY (ws.take (i+1)))∧(lost||lm)=(lost0||zCQ F.L (ws.take (i+1))) by
       have hti:ws.take (i+1)=ws.take i++[x]:=by rw [List.take_add_one,HX.out];rfl
       rw [hti,zIK,zIL,List.map_append,yD.out,di.out,HI.out.1,HI.out.2.1,HI.out.2.2,List.map_singleton,yC.out,Bool.or_assoc,Bool.or_assoc]
       exact ⟨rfl,rfl,rfl⟩)
      clear ct aJ aQ aL f0 f1 f2 hsz yD di yC HI;go_wp2_with fail
      go_roundw
      case rel=>exact ⟨i+1,_,A2,c2,_,_,_,rfl,by omega,by go_num,rfl,A8,hR9,ti,HF⟩
      case measure=>simp [intOf];omega
  ·have j1:¬(i:Int) < (n:Int):=by omega
   have hin:i=n:=by omega
   have xh:=HI.out;rw [hin,←HN.out,List.take_length] at xh
   have HF:=qH (show zKT w rb F T bad0 lost0 ws (.returned (H A' i c')) V from
    ⟨A',c',by rw [HN.out,hin],by rw [←xh.1,HN.out,←hin];exact hR.mono (by omega),by rw [←xh.2.1,←xh.2.2];exact hr,zAb Gw.out hg⟩)
   clear xh hin hlt HI hr hR hg;go_wp2_with fail
   go_ret;exact HF.out
end Go.Proofs.YtlmdfmnbcndhoaaGreatDoor
