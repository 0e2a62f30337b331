/-
  Lemmas. Conditions: each one's own.
-/
import Derived.Test.YtlmdfmnbcndhoaaGreatDoorRt19
open Go.RowKit
set_option maxHeartbeats 12800000
set_option maxRecDepth 100000
open Go.Value renaming bool->G,int->D,slice->H,string->W
open Go.IntKind renaming i64->J
open Go renaming World->ZY
open Option renaming none->U,some->Z
open Go.RowKit renaming Below->ZZ
open Bool renaming false->E,true->Q
open Go.Proofs.Tryz renaming prog->ZX
open Go.RowKit.Below renaming refl->M
open Nat renaming le_refl->O
namespace Go.Proofs.YtlmdfmnbcndhoaaGreatDoor
def zTV (b:Bi):List Value:=[D J b.f,D J b.n,G b.b]
structure BiOk (b:Bi):Prop where
 f:I64 b.f
 n:I64 b.n
structure BiAt (w:ZY) (g o:Nat) (x:Bi):Prop where
 f:w.cell? ⟨g,o,U⟩=Z (D J x.f)
 n:w.cell? ⟨g,o+1,U⟩=Z (D J x.n)
 b:w.cell? ⟨g,o+2,U⟩=Z (G x.b)
def Bits (w:ZY) (A:Option Addr) (n:Nat) (l:List Bi):Prop:=Els 3 zTV w A n l/\∀x∈l,BiOk x
section
variable {w w':ZY} {A:Option Addr} {n:Nat} {l:List Bi}
theorem Bits.len (h:Bits w A n l):l.length=n:=h.1.1
theorem Bits.below (h:Bits w A n l) (hb:ZZ w.heap.size w w'):Bits w' A n l:=⟨h.1.below hb,h.2⟩
theorem Bits.at_ {k:Nat} (h:Bits w A n l) (hk:k < n):∃g o,A=Z ⟨g,o,U⟩/\g < w.heap.size/\BiAt w g (o+k*3) (ba l k)/\BiOk (ba l k):=by
 obtain ⟨g,o,e,hb,hc⟩:=h.1.2.2 (by omega);have hx:l[k]? = Z (ba l k):=zNd (by rw [h.len];exact hk);refine ⟨g,o,e,hb,⟨hc k _ hx 0 _ rfl,hc k _ hx 1 _ rfl,hc k _ hx 2 _ rfl⟩,h.2 _ (List.mem_of_getElem? hx)⟩
end
theorem zXg:(Tryz.prog.info? 174).map (fun i=>(i.zero,i.size,i.bytes))=Z (Z (.agg #[D J 0,D J 0,G E]),3,24):=by kernel_rfl
theorem zYs {w:ZY} {ops:Array Oper} {rest:List Oper} {o:Oper} {a:Act} {ZP:Exit->Act->ZY->Prop} (hgd:o.guard=U) (s x:Operand)
  (ho:o.op=.call { callee:=.builtin .append,args:=#[s,x],argTypes:=#[124,124] })
  {base:Nat} {A:Option Addr} {n c:Nat} {P:List Bi} (hst:Row w base 3 A n c (P.flatMap zTV)) (y:Bi)
  (hs:a.eval s=H A n c) (hx:a.eval x=H (Z ⟨w.heap.size,0,U⟩) 1 1) (N:Nat) (hN:n+1=N) (hn:N<=1000000) (hbase:base<=w.heap.size)
  (h:∀A' c' w',Row w' base 3 A' N c' ((P++[y]).flatMap zTV)->w.grownBy w' (blk A)->(∀k,blk A'=Z k->blk A=Z k∨w.heap.size<=k)->wpList ZX ops ZP rest (a.put o.dst (H A' N c')) w') :
  wpList ZX ops ZP (o :: rest) a (w.alloc (.cells #[D J y.f,D J y.n,G y.b] 174)):=by
 obtain ⟨i0,hi,cD,bu,cM⟩:=info_parts zXg;have hbl:=(M w.heap.size w).alloc (O _) (.cells #[D J y.f,D J y.n,G y.b] 174);have cS:=hst.below hbl
 refine zRt hgd s x 124 ho 174 i0 _ 3 24 Tryz.underlying124 hi cD bu cM rfl (by decide) cS (Src.new (m:=1) (cs:=zTV y) rfl)
  (by intro u hu;simp [zTV] at hu;rcases hu with rfl | rfl | rfl<;>rfl) hs hx N hN (by unfold maxLen;omega) (by omega) (by simp;omega) ?_
 intro A' c' w' h1 h2 h3 _;refine h A' c' w' (by rw [List.flatMap_append];simpa using h1) ?_ (fun k hk=>?_)
 ·exact zAb (zAA hbl) h2
 ·rcases h3 k hk with e | e
  ·exact .inl e
  ·exact .inr (by simp at e;omega)
def zQK (x:List UInt8):List UInt8:=match x.getLast? with
 | some c=>[c]
 | none=>[]
theorem zQL (S:List UInt8) (c:UInt8):zQK (S++[c])=[c]:=by unfold zQK;simp
theorem zJN (x:List UInt8) (c:UInt8):(zQK x==[c])=zBT x c:=by
 unfold zQK zBT
 cases x.getLast? with
 | none=>simp
 | some d=>by_cases h:d=c<;>simp [h]
theorem zSD (S:List UInt8) (c:UInt8) (w:ZY):(Instr.slice 9 (W (bA (S++[c]))) U (Z (D J (S.length:Int))) U).run ZX w=.ok (W (bA S)) w:=by
 rw [run_slice_string_h w 9 (bA (S++[c])) Tryz.underlying9 J (S.length:Int) (by omega) (by rw [zAH];simp;omega),zBE];simp
theorem zSE (S:List UInt8) (c:UInt8) (w:ZY):(Instr.slice 9 (W (bA (S++[c]))) (Z (D J (S.length:Int))) U U).run ZX w=.ok (W (bA [c])) w:=by
 rw [run_slice_string_l w 9 (bA (S++[c])) Tryz.underlying9 J (S.length:Int) (by omega) (by rw [zAH];simp;omega),zBE,zAH,List.take_of_length_le (O _)];simp
theorem zVA (s:List UInt8) (hs:s.length<=100000) (w:ZY) (ht:Tabs w) :
  Calls ZX 62 #[W (bA s),W ⟨#[46]⟩] w fun e w'=>e=.returned (.tuple #[W (bA (Lib.cut s [46]).1),W (bA (Lib.cut s [46]).2.1),G (Lib.cut s [46]).2.2])/\ZZ w.heap.size w w':=by
 obtain ⟨m,hm⟩:=ht.most;have h:=Tryz.strings_Cut (bA s) (bA [46]) m w (by rw [zAH];omega) hm;rw [zDG,zDG] at h;refine h.mono ?_;rintro e w' ⟨rfl,n,rfl⟩;exact ⟨rfl,zAg (M _ _) n⟩
theorem zNj (S:List UInt8):0<=(zAs S).1/\(zAs S).1<=999999999:=by
 cases h:(zAs S).2 with
 | true =>
  obtain ⟨_,h2,h3⟩:=zCB (S:=S) (n:=(zAs S).1) (by rw [<-h]);omega
 | false =>
  have:(zAs S).1=0:=by
   unfold zAs at h ⊢;split
   ·rename_i hc;rw [qP hc] at h;simp at h
   ·rfl
  omega
theorem zVB {L:List Fg} (hL:L.length<=17592186043904) (x:List UInt8):BiOk (zNe L x):=by
 have h1:=zNj (zGV x).2.1;have h2:=zNj x.dropLast;have h3:∀S,(zDA L S:Int)<=17592186043904:=fun S=>by
  unfold zDA
  cases zGs S with
  | none=>simp
  | some f=>have:=zDF (f:=f) (L:=L);simp only;omega
 have h4:=h3 (zGV x).1;unfold zNe;split
 ·refine ⟨⟨?_,?_⟩,⟨?_,?_⟩⟩<;>simp only<;>(try split)<;>omega
 ·refine ⟨⟨?_,?_⟩,⟨?_,?_⟩⟩<;>simp only<;>omega
theorem zSF {S:List UInt8} {v:Int} {ok:Bool} (h1:(zAs S).1=v) (h2:(zAs S).2=ok) (w:ZY) :
  Calls ZX 129 #[W (bA S)] w fun e w'=>e=.returned (.tuple #[D J v,G ok])/\ZZ w.heap.size w w':=by
 subst h1;subst h2;exact zHx S w
def BitW (X:ZY) (rb:Nat) (F:Fm) (T:List (List UInt8)) (bad lost:Bool) (base:Nat) (A:Option Addr) (i c:Nat) (l:List Bi) (a8:Nat) (f n:Int) (b:Bool) (Y:ZY):Prop :=
 RX X rb F ⟨T,bad,lost⟩/\Row X base 3 A i c (l.flatMap zTV)/\Blk X a8 174 #[D J f,D J n,G b]/\Y.grownBy X (Z rb)
section
variable {X V:ZY} {rb:Nat} {F:Fm} {T:List (List UInt8)} {bad lost:Bool} {base:Nat} {A:Option Addr} {i c:Nat} {l:List Bi} {a8:Nat} {f n:Int} {b:Bool} {Y:ZY}
theorem BitW.below (h:BitW X rb F T bad lost base A i c l a8 f n b Y) (hb:ZZ X.heap.size X V):BitW V rb F T bad lost base A i c l a8 f n b Y :=
 ⟨h.1.below hb,h.2.1.below hb,h.2.2.1.below hb h.2.2.1.lt,zAb h.2.2.2 (zAA hb)⟩
theorem BitW.marked (h:BitW X rb F T bad lost base A i c l a8 f n b Y) (hb:rb < base) (h8:rb < a8) (q m:Bool) (hq:q=(bad||m)):BitW (X.setCell ⟨rb,4,U⟩ (G q)) rb F T (bad||m) lost base A i c l a8 f n b Y:=by
 obtain ⟨h1,h2⟩:=h.1.marked m q hq;exact ⟨h1,h.2.1.overO h2 hb,h.2.2.1.grownO h2 h8,zAb h.2.2.2 h2⟩
theorem BitW.grown {gk lp:Bool} (h:BitW X rb F T bad lost base A i c l a8 f n b Y) (hb:rb < base) (h8:rb < a8) (hx:RX V rb F ⟨T,lp,gk⟩) (hg:X.grownBy V (Z rb)):BitW V rb F T lp gk base A i c l a8 f n b Y :=
 ⟨hx,h.2.1.overO hg hb,h.2.2.1.grownO hg h8,zAb h.2.2.2 hg⟩
theorem BitW.set0 (h:BitW X rb F T bad lost base A i c l a8 f n b Y) (h8:rb < a8) (hY:Y.heap.size<=a8) (hA:∀k,blk A=Z k->k≠a8) (u:Int):BitW (X.setCell ⟨a8,0,U⟩ (D J u)) rb F T bad lost base A i c l a8 u n b Y :=
 ⟨h.1.over ((M _ _).setCell (p:=⟨a8,0,U⟩) h8 _),h.2.1.farSet 0 _ hA,h.2.2.1.set_ 0 _,zAd h.2.2.2 ((M _ _).setCell (p:=⟨a8,0,U⟩) hY _)⟩
theorem BitW.set1 (h:BitW X rb F T bad lost base A i c l a8 f n b Y) (h8:rb < a8) (hY:Y.heap.size<=a8) (hA:∀k,blk A=Z k->k≠a8) (u:Int):BitW (X.setCell ⟨a8,1,U⟩ (D J u)) rb F T bad lost base A i c l a8 f u b Y :=
 ⟨h.1.over ((M _ _).setCell (p:=⟨a8,1,U⟩) h8 _),h.2.1.farSet 1 _ hA,h.2.2.1.set_ 1 _,zAd h.2.2.2 ((M _ _).setCell (p:=⟨a8,1,U⟩) hY _)⟩
theorem BitW.set2 (h:BitW X rb F T bad lost base A i c l a8 f n b Y) (h8:rb < a8) (hY:Y.heap.size<=a8) (hA:∀k,blk A=Z k->k≠a8) (u:Bool):BitW (X.setCell ⟨a8,2,U⟩ (G u)) rb F T bad lost base A i c l a8 f n u Y :=
 ⟨h.1.over ((M _ _).setCell (p:=⟨a8,2,U⟩) h8 _),h.2.1.farSet 2 _ hA,h.2.2.1.set_ 2 _,zAd h.2.2.2 ((M _ _).setCell (p:=⟨a8,2,U⟩) hY _)⟩
theorem BitW.c0 (h:BitW X rb F T bad lost base A i c l a8 f n b Y):X.cell? ⟨a8,0,U⟩=Z (D J f):=(h.2.2.1.cell 0).trans rfl
theorem BitW.c1 (h:BitW X rb F T bad lost base A i c l a8 f n b Y):X.cell? ⟨a8,1,U⟩=Z (D J n):=(h.2.2.1.cell 1).trans rfl
theorem BitW.c2 (h:BitW X rb F T bad lost base A i c l a8 f n b Y):X.cell? ⟨a8,2,U⟩=Z (G b):=(h.2.2.1.cell 2).trans rfl
theorem BitW.z (h:BitW X rb F T bad lost base A i c l a8 f n b Y) (k:Nat):X.frozen? ⟨a8,k,U⟩=E:=h.2.2.1.frozen k
theorem BitW.bad4 (h:BitW X rb F T bad lost base A i c l a8 f n b Y):X.cell? ⟨rb,4,U⟩=Z (G bad)/\X.frozen? ⟨rb,4,U⟩=E:=h.1.bad4
end
def zKZ (w:ZY) (rb:Nat) (F:Fm) (T:List (List UInt8)) (bad lost:Bool) (Ws:List (List UInt8)) (e:Ending) (w':ZY):Prop :=
 ∃A c,e=.returned (H A Ws.length c)/\Row w' w.heap.size 3 A Ws.length c ((Ws.map (zNe F.L)).flatMap zTV)/\RX w' rb F ⟨T,bad||zEQ Ws,lost||zGe F.L Ws⟩/\w.grownBy w' (Z rb)
theorem zMm (rb:Nat) (F:Fm) (T:List (List UInt8)) (bad0 lost0:Bool) (S:List UInt8) (w:ZY) (h:RX w rb F ⟨T,bad0,lost0⟩) (hS:S.length<=20000) (hT:∀X,w.grownBy X (Z rb)->Tabs X) :
  Calls ZX 79 #[.pointer (Z ⟨rb,0,U⟩),W (bA S)] w (zKZ w rb F T bad0 lost0 (zAI 32 S)):=by
 obtain ⟨ws,hws⟩:∃ZO,zAI 32 S=ZO:=⟨_,rfl⟩
 rw [hws];obtain ⟨n,hn⟩:∃n,ws.length=n:=⟨_,rfl⟩
 have Ca:n<=20001:=by rw [<-hn,<-hws];have:=zBp S;omega
 have hpl:∀p∈ws,p.length<=100000:=fun p hp=>by rw [<-hws] at hp;exact Nat.le_trans (zAJ 32 S p hp) (by omega)
 have cc:=qH hpl;have HN:=qH hn;have eO:=qH (zHz S (by omega) w (hT w (zBo _ _)));rw [hws,hn] at eO;have HT:=qH hT;have zv:=qH hws;clear hws hn hpl hS hT;go_enter Tryz.func79,Tryz.ntmps79;go_wp2_with fail
 refine eO.out.mono ?_;rintro e Y ⟨rfl,hY⟩;have uV:ZZ w.heap.size w Y:=by rw [hY];exact (M _ _).alloc (O _) _
 have E4:∀(j:Nat) (p:List UInt8),ws[j]? = Z p->Y.cell? ⟨w.heap.size,j,U⟩=Z (W (bA p)):=fun j p hp=>by
  rw [hY,World.cell?_alloc_at _ _ _ _ rfl];simp [hp]
 have hlY:w.heap.size < Y.heap.size:=by rw [hY];simp
 have Bh:=qH E4;have uq:=h.below uV;have hrw:rb < w.heap.size:=h.lt;have GX:=qH (show w.grownBy Y (Z rb) from zAA uV);clear hY E4 eO h;go_wp2_with fail
 go_loopw [5,19] (fun v5 v19 wv=>∃(i:Nat) (V:ZY) (A':Option Addr) (c':Nat) (l:List Bi) (bad lost:Bool),V=wv/\i<=n/\v19=D J i/\v5=H A' i c'/\RX V rb F ⟨T,bad,lost⟩/\Row V Y.heap.size 3 A' i c' (l.flatMap zTV)/\Y.grownBy V (Z rb)/\Hid (l=(ws.take i).map (zNe F.L)/\bad=(bad0||zEQ (ws.take i))/\lost=(lost0||zGe F.L (ws.take i)))) (fun _ v19 _=>n-(intOf v19).toNat)
 case atStart=>exact ⟨0,_,U,0,[],bad0,lost0,rfl,by omega,rfl,rfl,uq,Row.none_ _ _ _,zBo _ _,qH ⟨rfl,by simp [zEQ,zSw],by simp [zGe]⟩⟩
 case round =>
  clear uq;obtain ⟨i,V,A',c',l,bad,lost,hV,hi,rfl,rfl,hr,hR,hg,HI⟩:=hrel;subst hV;by_cases hlt:i < n
  ·have j0:(0:Int)<=(i:Int):=by omega
   have j1:(i:Int) < (n:Int):=by omega
   obtain ⟨x,hx⟩:∃p,ws[i]? = Z p:=⟨ws[i]'(by rw [HN.out];exact hlt),List.getElem?_eq_getElem _⟩
   have hxl:=cc.out x (List.mem_of_getElem? hx);have hc:V.cell? ⟨w.heap.size,i,U⟩=Z (W (bA x)):=by
    rw [World.cell?_of_block (w:=Y) (w':=V) (a:=⟨w.heap.size,i,U⟩) (hg.block _ hlY (fun e=>by injection e with e;simp only at e;omega))];exact Bh.out i x hx
   have fR:=hg.size;have EV:=hr.lt;have uq:rb < Y.heap.size:=by omega
   have yS:=fun k hk=>(hR.lt k hk).2
   have hbl:=(M V.heap.size V).alloc (O _) (.cells #[D J 0,D J 0,G E] 174)
   have cA:BitW (V.alloc (.cells #[D J 0,D J 0,G E] 174)) rb F T bad lost Y.heap.size A' i c' l V.heap.size 0 0 E Y :=
    ⟨hr.below hbl,hR.below hbl,Blk.new _ _ _,zAb hg (zAA hbl)⟩
   have HX:=qH hx;obtain ⟨em,hem⟩:∃b,x.isEmpty=b:=⟨_,rfl⟩
   have n0:((bA x).toList==[])=em:=by rw [zAr,<-hem];cases x<;>rfl
   have G4:=qH hem;have Fv:∀k,blk A'=Z k->k≠V.heap.size:=fun k hk=>Nat.ne_of_lt (yS k hk)
   have wX:=qH Fv;have h8:rb < V.heap.size:=EV;have wC:Y.heap.size<=V.heap.size:=fR;clear hr hR hg hx Fv yS hbl hem;go_upto_if 24 with fail
   clear hc;generalize V.alloc (.cells #[D J 0,D J 0,G E] 174)=X at cA ⊢;generalize V.heap.size=a8 at cA h8 wC wX ⊢;go_cut [7,9] (fun v7 v9 wv=>v7=W (bA x.dropLast)/\v9=W (bA (zQK x))/\∃X:ZY,X=wv/\BitW X rb F T bad lost Y.heap.size A' i c' l a8 0 0 E Y)
   case first =>
    rcases List.eq_nil_or_concat x with rfl | ⟨y,c,rfl⟩
    ·have HW:=qH cA;obtain rfl:Q=em:=G4.out;clear cA n0;go_wp2_with fail
     go_meet
     case rel=>exact ⟨rfl,rfl,_,rfl,HW.out⟩
    ·obtain ⟨m,hm⟩:∃m,y.length=m:=⟨_,rfl⟩
     rw [List.concat_eq_append] at *;have s1:=fun w=>zSD y c w
     have s2:=fun w=>zSE y c w
     have hsz:(bA (y++[c])).size=m+1:=by rw [zAH];simp [hm]
     rw [hm] at s1 s2;obtain rfl:E=em:=by rw [<-G4.out];cases y<;>rfl
     have q1:IntKind.i64.wrap (((m+1:Nat):Int)-1)=(m:Int):=by rw [show ((m+1:Nat):Int)-1=(m:Int) by omega];exact IntWalk.i64_in _ (by simp only [List.length_append,List.length_singleton] at hxl;omega)
     have q2:IntKind.i64.wrap ((m:Int)+1-1)=(m:Int):=by rw [show (m:Int)+1-1=(m:Int) by omega];exact IntWalk.i64_in _ (by simp only [List.length_append,List.length_singleton] at hxl;omega)
     have q4:m<=100000:=by simp only [List.length_append,List.length_singleton] at hxl;omega
     have HW:=qH (fun q=>cA.below (zAg (M X.heap.size X) q));have HD:=qH (show (y++[c]).dropLast=y/\zQK (y++[c])=[c] from ⟨List.dropLast_concat,zQL y c⟩);clear cA hm;go_wp2_with fail
     go_quiet (fail)
     go_wp2_with fail
     go_meet
     case rel=>exact ⟨by rw [HD.out.1],by rw [HD.out.2],_,rfl,HW.out _⟩
   case rest =>
    clear cA n0;obtain ⟨rfl,rfl,X1,hX1,de⟩:=hcut;subst hX1;have hcl:x.dropLast.length<=100000:=by rw [List.length_dropLast];omega
    have hgw:=zAb GX.out de.2.2.2;have f8:=qH (zVA x.dropLast hcl X1 (HT.out X1 hgw));obtain ⟨⟨ca,cb,dot⟩,hci⟩:∃y,Lib.cut x.dropLast [46]=y:=⟨_,rfl⟩
    rw [hci] at f8;have Bj:=qH (show zGV x=(ca,cb,dot) from hci);have C0:((bA (zQK x)).toList==[62])=zBT x 62:=by rw [zAr];exact zJN x 62
    have C1:((bA (zQK x)).toList==[60])=zBT x 60:=by rw [zAr];exact zJN x 60
    have vz:((bA (zQK x)).toList==[111])=zBT x 111:=by rw [zAr];exact zJN x 111
    have vy:((bA (zQK x)).toList==[117])=zBT x 117:=by rw [zAr];exact zJN x 117
    obtain ⟨oc,C9⟩:∃b,zBT x 62=b:=⟨_,rfl⟩
    obtain ⟨ui,Da⟩:∃b,zBT x 60=b:=⟨_,rfl⟩
    obtain ⟨gm,vC⟩:∃b,zBT x 111=b:=⟨_,rfl⟩
    obtain ⟨jx,vB⟩:∃b,zBT x 117=b:=⟨_,rfl⟩
    rw [C9] at C0;rw [Da] at C1;rw [vC] at vz;rw [vB] at vy;have pL:=qH (show zBT x 62=oc/\zBT x 60=ui/\zBT x 111=gm/\zBT x 117=jx from ⟨C9,Da,vC,vB⟩);generalize bA (zQK x)=en at C0 C1 vz vy ⊢;clear hci hgw C9 Da vC vB hcl hxl;go_wp2_with fail
    refine f8.out.mono ?_;rintro e X2 ⟨rfl,ai⟩;have cP:=de.below ai;clear de ai f8;go_upto_if 42 with fail
    obtain ⟨dg,hdg⟩:∃d,(if dot then cb else x.dropLast)=d:=⟨_,rfl⟩
    obtain ⟨fv,hfv⟩:∃f:Int,(if dot then (if zDA F.L ca=0 then -1 else (zDA F.L ca:Int)) else 0)=f:=⟨_,rfl⟩
    obtain ⟨bv,hbv⟩:∃b:Bool,(if dot then oc else gm)=b:=⟨_,rfl⟩
    obtain ⟨bm,hbm⟩:∃b:Bool,(if dot then zKE ca||!(oc||ui) else (!(gm||jx))||decide (i=0))=b:=⟨_,rfl⟩
    obtain ⟨lm,hlm⟩:∃b:Bool,(dot&&zEH F.L ca)=b:=⟨_,rfl⟩
    have vV:=qH hdg;have wY:=qH hfv;have it:=qH hbv;have wZ:=qH hbm;have wU:=qH hlm;clear hdg hfv hbv hbm hlm;go_cut [10] (fun lU wv=>lU=W (bA dg)/\∃X:ZY,X=wv/\BitW X rb F T (bad||bm) (lost||lm) Y.heap.size A' i c' l a8 fv 0 bv Y)
    case first =>
     cases dot with
     | true =>
      have HF:=qH (fun wx (hx:RX wx rb F ⟨T,bad,lost⟩)=>zCF hx ca);obtain ⟨fx,hfx⟩:∃f,zDA F.L ca=f:=⟨_,rfl⟩
      obtain ⟨fb,hfb⟩:∃f,zKE ca=f:=⟨_,rfl⟩
      obtain ⟨fl,hfl⟩:∃f,zEH F.L ca=f:=⟨_,rfl⟩
      simp only [RS.fing,hfx,hfb,hfl] at HF;have hE:(if fx=0 then -1 else (fx:Int))=fv/\oc=bv/\(fb||!(oc||ui))=bm/\fl=lm/\cb=dg:=⟨by have:=wY.out;rw [qP rfl,hfx] at this;exact this,by have:=it.out;rwa [qP rfl] at this,by have:=wZ.out;rw [qP rfl,hfb] at this;exact this,by have:=wU.out;rw [hfl] at this;simpa using this,by have:=vV.out;rwa [qP rfl] at this⟩;have HE:=qH hE;clear hfx hfb hfl hE wY it wZ wU vV;have b0:=cP.c0;have z0:=cP.z 0;go_wp2_with fail
      refine (HF.out X2 cP.1).mono ?_;rintro e X3 ⟨rfl,ER,iJ⟩;have du:=cP.grown uq h8 ER iJ;clear cP ER iJ HF b0 z0;have b0:=du.c0;have z0:=du.z 0;have p5:=du.set0 h8 wC wX.out (fx:Int);go_upto_region 13 with fail
      clear b0 z0 du;generalize X3.setCell ⟨a8,0,U⟩ (D J (fx:Int))=X4 at p5 ⊢;go_cut [60] (fun _ wv=>∃X:ZY,X=wv/\BitW X rb F T (bad||bm) (lost||lm) Y.heap.size A' i c' l a8 fx 0 E Y)
      case first =>
       have HZ:=qH (fun (q:Bool) (hq:q=((bad||fb)||!(oc||ui)))=>(show BitW (X4.setCell ⟨rb,4,U⟩ (G q)) rb F T (bad||bm) (lost||lm) Y.heap.size A' i c' l a8 fx 0 E Y by
        have:=p5.marked uq h8 q (!(oc||ui)) hq
        rwa [Bool.or_assoc,HE.out.2.2.1,HE.out.2.2.2.1] at this))
       have b4:=p5.bad4.1;have z4:=p5.bad4.2;obtain ⟨bb,hbb⟩:∃b,(bad||fb)=b:=⟨_,rfl⟩
       rw [hbb] at b4 HZ;clear p5 hbb HE
       cases bb<;>cases oc<;>cases ui
       all_goals
        go_wp2_with fail
        go_meet
        case rel=>exact ⟨_,rfl,HZ.out _ rfl⟩
      case rest =>
       clear p5;obtain ⟨X5,qF,pg⟩:=hcut;subst qF;have b2:=pg.c2;have z2:=pg.z 2;have b0:=pg.c0;have z0:=pg.z 0;have tt:=pg.set2 h8 wC wX.out oc;have d0:=tt.c0;have dz0:=tt.z 0;have Dr:=qH tt;have HW7:=qH (tt.set0 h8 wC wX.out (-1));have tx:=HE.out;clear HE pg tt;by_cases hf0:fx=0
       ·subst hf0;have HE:=qH (show (-1:Int)=fv/\oc=bv/\cb=dg from ⟨by rw [<-tx.1];rfl,tx.2.1,tx.2.2.2.2⟩);clear tx;go_wp2_with fail
        go_meet
        case rel=>exact ⟨by rw [HE.out.2.2],_,rfl,by rw [<-HE.out.1,<-HE.out.2.1];exact HW7.out⟩
       ·have HE:=qH (show ((fx:Nat):Int)=fv/\oc=bv/\cb=dg from ⟨by rw [<-tx.1,qN hf0],tx.2.1,tx.2.2.2.2⟩);have k0:((fx:Int)==0)=E:=by simp;omega
        clear tx hf0;go_wp2_with fail
        go_meet
        case rel=>exact ⟨by rw [HE.out.2.2],_,rfl,by rw [<-HE.out.1,<-HE.out.2.1];exact Dr.out⟩
     | false =>
      have hE:(0:Int)=fv/\gm=bv/\((!(gm||jx))||decide (i=0))=bm/\E=lm/\x.dropLast=dg:=⟨by have:=wY.out;rwa [qN (by simp)] at this,by have:=it.out;rwa [qN (by simp)] at this,by have:=wZ.out;rwa [qN (by simp)] at this,by have:=wU.out;simpa using this,by have:=vV.out;rwa [qN (by simp)] at this⟩;have HE:=qH hE;clear hE wY it wZ wU vV;go_upto_region 17 with fail
      go_cut [87] (fun _ wv=>∃X:ZY,X=wv/\BitW X rb F T (bad||bm) (lost||lm) Y.heap.size A' i c' l a8 0 0 E Y)
      case first =>
       have HZ:=qH (fun (q:Bool) (hq:q=(bad||((!(gm||jx))||decide (i=0))))=>(show BitW (X2.setCell ⟨rb,4,U⟩ (G q)) rb F T (bad||bm) (lost||lm) Y.heap.size A' i c' l a8 0 0 E Y by
        have:=cP.marked uq h8 q ((!(gm||jx))||decide (i=0)) hq
        rwa [HE.out.2.2.1,show lost=(lost||lm) by rw [<-HE.out.2.2.2.1];simp] at this))
       have b4:=cP.bad4.1;have z4:=cP.bad4.2;clear cP HE;by_cases hi0:i=0
       ·have p0:((i:Int)==0)=Q:=by simp;omega
        rw [decide_eq_true hi0] at HZ;clear hi0
        cases bad<;>cases gm<;>cases jx
        all_goals
         go_wp2_with fail
         go_meet
         case rel=>exact ⟨_,rfl,HZ.out _ rfl⟩
       ·have p0:((i:Int)==0)=E:=by simp;omega
        rw [decide_eq_false hi0] at HZ;clear hi0
        cases bad<;>cases gm<;>cases jx
        all_goals
         go_wp2_with fail
         go_meet
         case rel=>exact ⟨_,rfl,HZ.out _ rfl⟩
      case rest =>
       clear cP;obtain ⟨X5,qF,pg⟩:=hcut;subst qF;have b2:=pg.c2;have z2:=pg.z 2;have Dr:=qH (pg.set2 h8 wC wX.out gm);clear pg;go_wp2_with fail
       go_meet
       case rel=>exact ⟨by rw [HE.out.2.2.2.2],_,rfl,by rw [<-HE.out.1,<-HE.out.2.1];exact Dr.out⟩
    case rest =>
     clear cP C0 C1 vz vy;obtain ⟨rfl,X6,hX6,tt⟩:=hcut;subst hX6;obtain ⟨nv,hnv⟩:∃v,(zAs dg).1=v:=⟨_,rfl⟩
     obtain ⟨ok,hok⟩:∃v,(zAs dg).2=v:=⟨_,rfl⟩
     have ox:=qH (zSF hnv hok X6)
     have Ad:=qH (show zNe F.L x=⟨fv,nv,bv⟩ by
      unfold zNe
      rw [Bj.out]
      simp only
      rw [pL.out.1,pL.out.2.2.1,<-wY.out,<-it.out,<-hnv,<-vV.out]
      cases dot<;>rfl)
     have fo:=qH (show ((bad||bm)||!ok)=(bad||(zOl x||((ws.take i).isEmpty&&zTR x))) by
      have he:(ws.take i).isEmpty=decide (i=0):=by
       rcases Nat.eq_zero_or_pos i with h0 | h0
       ·rw [h0];rfl
       ·rw [decide_eq_false (by omega)]
        have:=HX.out
        cases ws with
        | nil=>simp at this
        | cons y ws=>cases i with
         | zero=>omega
         | succ i=>rfl
      unfold zOl zTR
      rw [Bj.out,he]
      simp only
      rw [pL.out.1,pL.out.2.1,pL.out.2.2.1,pL.out.2.2.2,<-hok,<-wZ.out,<-vV.out]
      cases dot
      ·simp only [Bool.false_eq_true,if_false,Bool.not_false,Bool.and_true]
       cases bad<;>cases gm<;>cases jx<;>cases decide (i=0)<;>cases (zAs x.dropLast).2<;>rfl
      ·simp only [if_true,Bool.not_true,Bool.and_false,Bool.or_false]
       cases bad<;>cases zKE ca<;>cases oc<;>cases ui<;>cases (zAs cb).2<;>rfl)
     have eR:=qH (show (lost||lm)=(lost||zVt F.L x) by
      unfold zVt
      rw [Bj.out,<-wU.out])
     clear hnv hok wY it wZ wU vV Bj pL;go_wp2_with fail
     refine ox.out.mono ?_;rintro e X7 ⟨rfl,cV⟩;have yA:=tt.below cV;clear tt cV ox;go_upto_region 20 with fail
     go_cut [106] (fun _ wv=>∃X:ZY,X=wv/\BitW X rb F T ((bad||bm)||!ok) (lost||lm) Y.heap.size A' i c' l a8 fv 0 bv Y)
     case first =>
      obtain ⟨bb,hbb⟩:∃b,(bad||bm)=b:=⟨_,rfl⟩
      have HZ:=qH (fun (q:Bool) (hq:q=(bb||!ok))=>yA.marked uq h8 q (!ok) (by rw [hbb];exact hq));have b4:=yA.bad4.1;have z4:=yA.bad4.2;rw [hbb] at b4;clear yA hbb fo
      cases bb<;>cases ok
      all_goals
       go_wp2_with fail
       go_meet
       case rel=>exact ⟨_,rfl,HZ.out _ rfl⟩
     case rest =>
      clear yA;obtain ⟨X8,hX8,AF⟩:=hcut;subst hX8;have b1:=AF.c1;have z1:=AF.z 1;have eG:=AF.set1 h8 wC wX.out nv;go_upto_region 22 with fail
      clear b1 z1 AF;generalize X8.setCell ⟨a8,1,U⟩ (D J nv)=X9 at eG ⊢;have f0:=eG.c0;have f1:=eG.c1;have f2:=eG.c2;have hsz:Y.heap.size<=X9.heap.size:=eG.2.2.2.size;go_upto_region 23 with (at_builtin;refine zEK ?_)
      refine qH ?_;refine zYs (y:=⟨fv,nv,bv⟩) (N:=i+1) (base:=Y.heap.size) (A:=A') (n:=i) (c:=c') (P:=l) rfl (.tmp 111) (.tmp 113) ?_ ?_ ?_ ?_ ?_ ?_ ?_ ?_
      ·rfl
      ·exact eG.2.1
      ·rfl
      ·rfl
      ·rfl
      ·omega
      ·exact hsz
      intro A2 c2 w9 hR9 b8 cl;have bn:=eG.2.1.belowOf b8 hsz;have BY:=eG.1.over (bn.mono (by omega));have uJ:=zAd eG.2.2.2 bn
      have HF:=qH (show l++[(⟨fv,nv,bv⟩:Bi)]=(ws.take (i+1)).map (zNe F.L)/\((bad||bm)||!ok)=(bad0||zEQ (ws.take (i+1)))/\(lost||lm)=(lost0||zGe F.L (ws.take (i+1))) by
       have hti:ws.take (i+1)=ws.take i++[x]:=by rw [List.take_add_one,HX.out];rfl
       rw [hti,zOm,zOn,List.map_append,fo.out,eR.out,HI.out.1,HI.out.2.1,HI.out.2.2,List.map_singleton,Ad.out,Bool.or_assoc,Bool.or_assoc]
       exact ⟨rfl,rfl,rfl⟩)
      clear eG bn b8 cl f0 f1 f2 hsz fo eR Ad HI;go_wp2_with fail
      go_roundw
      case rel=>exact ⟨i+1,_,A2,c2,_,_,_,rfl,by omega,by go_num,rfl,BY,hR9,uJ,HF⟩
      case measure=>simp [intOf];omega
  ·have j1:¬(i:Int) < (n:Int):=by omega
   have hin:i=n:=by omega
   have yJ:=HI.out;rw [hin,<-HN.out,List.take_length] at yJ
   have HF:=qH (show zKZ w rb F T bad0 lost0 ws (.returned (H A' i c')) V from
    ⟨A',c',by rw [HN.out,hin],by rw [<-yJ.1,HN.out,<-hin];exact hR.mono (by omega),by rw [<-yJ.2.1,<-yJ.2.2];exact hr,zAb GX.out hg⟩)
   clear yJ hin hlt HI hr hR hg;go_wp2_with fail
   go_ret;exact HF.out
theorem zSG (a:Lt) (w:ZY):(Instr.buildSlice 53 1 #[(0,ltV a)]).run ZX w=.ok (H (Z ⟨w.heap.size,0,U⟩) 1 1) (w.alloc (.cells ([a].flatMap ltC).toArray 76)):=by
 obtain ⟨i0,hi,cD,bu,cM⟩:=info_parts zMJ;refine run_buildSlice w _ _ 1 _ _ i0 _ Tryz.underlying53 hi cD (by rw [bu];omega) (by rw [bu];omega) ?_;rw [bu]
 kernel_rfl
theorem zXh (i:Int) (o:Bool) (w:ZY):(Instr.build 76 #[(0,D J 2),(3,D J i),(5,G o)]).run ZX w=.ok (.agg #[D J 2,D J 0,D J 0,D J i,D J 0,G o]) w:=run_build w _ _ _ (by kernel_rfl)
theorem zXi (g r:Int) (w:ZY):(Instr.build 76 #[(0,D J 1),(1,D J g),(2,D J r)]).run ZX w=.ok (.agg #[D J 1,D J g,D J r,D J 0,D J 0,G E]) w:=run_build w _ _ _ (by kernel_rfl)
theorem zQM {w:ZY} {ops:Array Oper} {rest:List Oper} {o:Oper} {a:Act} {Q':Exit->Act->ZY->Prop} (hgd:o.guard=U) (s x:Operand)
  (ho:o.op=.call { callee:=.builtin .append,args:=#[s,x],argTypes:=#[53,53] })
  {base:Nat} {A:Option Addr} {n c:Nat} {L:List Lt} (hst:OwnL w base A n c L) (ZN:List Lt) (m:Nat) (hm:ZN.length=m) (hok:∀x∈ZN,LtOk x) (hs:a.eval s=H A n c) (hx:a.eval x=H (Z ⟨w.heap.size,0,U⟩) m m)
  (N:Nat) (hN:n+m=N) (hn:N<=1000000) (hbase:base<=w.heap.size)
  (h:∀A' c' w',OwnL w' base A' N c' (L++ZN)->w.grownBy w' (blk A)->(∀k,blk A'=Z k->blk A=Z k∨w.heap.size<=k)->wpList ZX ops Q' rest (a.put o.dst (H A' N c')) w') :
  wpList ZX ops Q' (o :: rest) a (w.alloc (.cells (ZN.flatMap ltC).toArray 76)):=by
 have hbl:=(M w.heap.size w).alloc (O _) (.cells (ZN.flatMap ltC).toArray 76);have hO:=OwnL.block (Blk.new w 76 (ZN.flatMap ltC).toArray) (base:=0) (Nat.zero_le _) hok (by omega);subst hm;refine zXe hgd s x ho (hst.next hbl) hO.lets hs hx N hN (by omega) (Nat.le_trans hbase hbl.size) ?_;intro A' c' w' h1 h2 h3;refine h A' c' w' h1 (zAb (zDk hbl _) h2) fun k hk=>?_
 rcases h3 k hk with e | e
 ·exact .inl e
 ·exact .inr (Nat.le_trans hbl.size e)
theorem SgW.pushed {Y w w':ZY} {oB:Nat} {K:Int} {A A':Option Addr} {n c N c':Nat} {L L':List Lt} (h:SgW Y w oB K A n c L) (hY:Y.heap.size<=oB) (hown:OwnL w' Y.heap.size A' N c' L') (hg:w.grownBy w' (blk A)) (hl:∀k,blk A'=Z k->blk A=Z k∨w.heap.size<=k) :
  Blk w' oB 55 #[D J K,H A n c]/\SgW Y (w'.setCell ⟨oB,1,U⟩ (H A' N c')) oB K A' N c' L':=by
 have hb:Blk w' oB 55 #[D J K,H A n c]:=h.bk.grown hg (fun e=>h.far oB e.symm rfl);have hf:∀q,blk A'=Z q->q≠oB:=fun q hq=>by
  rcases hl q hq with e | e
  ·exact h.far q e
  ·have:=h.bk.lt;omega
 have hold:ZZ Y.heap.size Y w':=h.old.trans ((M _ _).grown hg h.old.size (fun k hk=>(h.own.row.lt k hk).1));refine ⟨hb,⟨⟨hown.row.farSet 1 _ hf,hown.fits,hown.le⟩,hb.set_ 1 _,hf,hold.setCell (p:=⟨oB,1,U⟩) hY _⟩⟩
theorem zQN {α β:Type} (f:α->List β) {l:List α} {i:Nat} {x:α} (h:l[i]? = Z x):(l.take (i+1)).flatMap f=(l.take i).flatMap f++f x:=by
 rw [List.take_add_one,h];simp
theorem zTW {a b:Lt} (ha:LtOk a) (hb:LtOk b):∀x∈[a,b],LtOk x:=by
 intro x hx;simp only [List.mem_cons,List.not_mem_nil,or_false] at hx;rcases hx with rfl | rfl
 ·exact ha
 ·exact hb
theorem zMn (kk:Nat) (B:Option Addr) (n d:Nat) (l:List Bi) (g:Nat) (ZN:List Int) (w:ZY) (hB:Bits w B n l) (hM:OwnI w 0 g (kk+2) ZN) (hk:kk<=40) (hn:n<=20001)
  (hl:∀x∈l,0<=x.f/\x.f<=(kk:Int)/\0<=x.n/\x.n<=999999999) (hMb:∀j,j < kk+2->∃v:Nat,ZN[j]? = Z (v:Int)/\v<=100000) :
  Calls ZX 81 #[D J (kk:Int),H B n d,H (Z ⟨g,0,U⟩) (kk+2) (kk+2)] w (zMl w (kk:Int) (zAU ZN l)):=by
 have ah:ZZ w.heap.size w (w.alloc (.cells #[D J 0,H U 0 0] 55)):=(M _ _).alloc (O _) _;have hk0:Blk (w.alloc (.cells #[D J 0,H U 0 0] 55)) w.heap.size 55 #[D J 0,H U 0 0]:=Blk.new _ _ _;have bo:=qH hB.len;have HB:=qH hB;have HM:=qH hM;have HL:=qH hl;have Bd:=qH hMb;obtain ⟨K,hK⟩:∃K:Int,(kk:Int)=K:=⟨_,rfl⟩
 rw [hK];clear hl hB hM hMb hK;go_enter Tryz.func81,Tryz.ntmps81;go_upto_region 1 with fail
 generalize w.alloc (.cells #[D J 0,H U 0 0] 55)=Y at ah hk0 ⊢;have cA:SgW Y (Y.alloc (.cells #[D J K,H U 0 0] 55)) Y.heap.size K U 0 0 (zAU ZN (l.take 0)):=⟨OwnL.nil _ _,Blk.new _ _ _,fun q hq=>(by cases hq),(M _ _).alloc (O _) _⟩;go_upto_region 2 with fail
 generalize hZ:Y.alloc (.cells #[D J K,H U 0 0] 55)=ZR at cA ⊢;clear hZ;obtain ⟨oB,o4⟩:∃a,Y.heap.size=a:=⟨_,rfl⟩
 have tr:Y.heap.size<=oB:=by omega
 rw [o4];have cA:SgW Y ZR oB K U 0 0 (zAU ZN (l.take 0)):=by rw [<-o4];exact cA
 clear o4;go_wp2_with fail
 go_loopw [16] (fun v16 wv=>∃(i m:Nat) (X:ZY) (A1:Option Addr) (c1:Nat),X=wv/\i<=n/\m<=2*i/\v16=D J i/\SgW Y X oB K A1 m c1 (zAU ZN (l.take i))) (fun v16 _=>n-(intOf v16).toNat)
 case atStart=>exact ⟨0,0,_,U,0,rfl,by omega,by omega,rfl,cA⟩
 case round =>
  obtain ⟨i,m,X,A1,c1,hX,hi,hm,rfl,hW⟩:=hrel;subst hX;clear cA;by_cases hlt:i < n
  ·have j0:(0:Int)<=(i:Int):=by omega
   have j1:(i:Int) < (n:Int):=by omega
   have hold:=zAa ah hW.old ah.size;have oj:=HB.out.below hold;have CN:OwnI X 0 g (kk+2) ZN:=HM.out.below hold HM.out.lt;have hli:l[i]? = Z (ba l i):=zNd (by rw [bo.out];exact hlt);have hbd:=HL.out _ (List.mem_of_getElem? hli);obtain ⟨gb,ob,rfl,hgb,⟨x0,x1,x2⟩,hok⟩:=oj.at_ hlt;have hbl:=(M X.heap.size X).alloc (O _) (.cells #[D J (ba l i).f,D J (ba l i).n,G (ba l i).b] 174);have cl:Blk (X.alloc (.cells #[D J (ba l i).f,D J (ba l i).n,G (ba l i).b] 174)) X.heap.size 174 #[D J (ba l i).f,D J (ba l i).n,G (ba l i).b]:=Blk.new _ _ _;have de:=hW.next hbl;have tu:=CN.below hbl CN.lt;have ol:=qH (zQN (zMe ZN) hli);clear hW hbl oj CN hold hok hli;go_upto_if 22 with fail
   clear x0 x1 x2;generalize X.alloc (.cells #[D J (ba l i).f,D J (ba l i).n,G (ba l i).b] 174)=X1 at cl de tu ⊢;generalize X.heap.size=a9 at cl ⊢;obtain ⟨⟨ff,nn,bb⟩,hbe⟩:∃b,ba l i=b:=⟨_,rfl⟩
   rw [hbe] at cl ol hbd ⊢;simp only at cl hbd ⊢;clear hbe;by_cases hf0:ff=0
   ·subst hf0;obtain ⟨h0,h1,h2⟩:=cQ3 cl;have o1:X1.cell? ⟨oB,1,U⟩=Z (H A1 m c1):=(de.bk.cell 1).trans rfl;have hbs:=fun w=>zSG ⟨2,0,0,nn,0,bb⟩ w
    simp only [ltV] at hbs;have xY:∀x∈[(⟨2,0,0,nn,0,bb⟩:Lt)],LtOk x:=by
     intro x hx;rw [List.mem_singleton.1 hx];exact ⟨⟨by simp only;omega,by simp only;omega⟩,⟨by simp only;omega,by simp only;omega⟩,⟨by simp only;omega,by simp only;omega⟩,⟨by simp only;omega,by simp only;omega⟩,⟨by simp only;omega,by simp only;omega⟩⟩
    have DJ:=qH xY;have bD:Y.heap.size<=X1.heap.size:=de.old.size;have jF:m+1<=1000000:=by omega
    have wt:m+1<=2*(i+1):=by omega
    clear xY cl tu;go_upto_region 12 with (at_builtin;refine zEK ?_)
    refine qH ?_;refine zQM (base:=Y.heap.size) (A:=A1) (n:=m) (c:=c1) (L:=zAU ZN (l.take i)) rfl (.tmp 24) (.tmp 30) ?_ ?_ [⟨2,0,0,nn,0,bb⟩] 1 rfl DJ.out ?_ ?_ (m+1) rfl jF bD ?_
    ·rfl
    ·exact de.own
    ·rfl
    ·rfl
    intro A2 c2 w9 fq b8 hl9';obtain ⟨gn,eG⟩:=de.pushed tr fq b8 hl9';have p1:w9.cell? ⟨oB,1,U⟩=Z (H A1 m c1):=(gn.cell 1).trans rfl;have z1:=gn.frozen 1;have jK:SgW Y (w9.setCell ⟨oB,1,U⟩ (H A2 (m+1) c2)) oB K A2 (m+1) c2 (zAU ZN (l.take (i+1))):=by
     unfold zAU;rw [ol.out];exact eG
    have pG:=qH jK;clear de fq b8 hl9' eG jK gn h0 h1 h2 o1 hbs;go_wp2_with fail
    go_roundw
    case rel=>exact ⟨i+1,m+1,_,A2,c2,rfl,by omega,wt,by go_num,pG.out⟩
    case measure=>simp [intOf];omega
   ·obtain ⟨q,rfl⟩:∃q:Nat,ff=(q:Int):=⟨ff.toNat,by omega⟩
    obtain ⟨p,hp⟩:∃p:Nat,q=p+1:=⟨q-1,by omega⟩
    have k0:((q:Int)==0)=E:=by simp;omega
    have hqp:(q:Int)-1=(p:Int):=by omega
    have hpk:p < kk+2:=by omega
    have hqk:q < kk+2:=by omega
    obtain ⟨v1,pV,BP⟩:=Bd.out p hpk;obtain ⟨v2,wl,BO⟩:=Bd.out q hqk;obtain ⟨r2,mT⟩:∃r:Int,(v2:Int)-nn=r:=⟨_,rfl⟩
    obtain ⟨r3,B0⟩:∃r:Int,r2+1=r:=⟨_,rfl⟩
    have ji:=qH (show zMe ZN ⟨(q:Int),nn,bb⟩=if bb then [⟨1,(p:Int),(v1:Int)+nn,0,0,E⟩,⟨1,(q:Int),r3,0,0,E⟩] else [⟨1,(q:Int),r3,0,0,E⟩,⟨1,(p:Int),(v1:Int)+nn,0,0,E⟩] by
     unfold zMe ia
     simp only
     rw [qN (by omega),hqp,show ((p:Int)).toNat=p by omega,show ((q:Int)).toNat=q by omega,pV,wl]
     simp only [Option.getD_some,mT,B0])
    obtain ⟨h0,h1⟩:=cQ2 cl;have e1:=tu.cell pV;have nH:=(M X1.heap.size X1).alloc (O _) (.cells #[D J 0,D J 0,D J 0,D J 0,D J 0,G E] 76);have yi:=cl.below nH cl.lt;obtain ⟨cD,bu⟩:=cQ2 yi;have cM:=(tu.below nH tu.lt).cell pV;have i4:(0:Int)<=(p:Int):=by omega
    have i6:(p:Int) < (kk:Int)+2:=by omega
    have i7:(0:Int)<=(q:Int):=by omega
    have i9:(q:Int) < (kk:Int)+2:=by omega
    have xZ:LtOk ⟨1,(p:Int),(v1:Int)+nn,0,0,E⟩:=⟨⟨by simp only;omega,by simp only;omega⟩,⟨by simp only;omega,by simp only;omega⟩,⟨by simp only;omega,by simp only;omega⟩,⟨by simp only;omega,by simp only;omega⟩,⟨by simp only;omega,by simp only;omega⟩⟩;have xX:LtOk ⟨1,(q:Int),r3,0,0,E⟩:=⟨⟨by simp only;omega,by simp only;omega⟩,⟨by simp only;omega,by simp only;omega⟩,⟨by simp only;omega,by simp only;omega⟩,⟨by simp only;omega,by simp only;omega⟩,⟨by simp only;omega,by simp only;omega⟩⟩;have jF:m+2<=1000000:=by omega
    have wt:m+2<=2*(i+1):=by omega
    have GQ:=qH wt;have GP:=qH jF;have nF:i+1<=n:=by omega
    have Bf:=qH nF;have w1:IntKind.i64.wrap ((q:Int)-1)=(p:Int):=by rw [hqp];exact IntWalk.i64_in _ (by omega)
    have w2:IntKind.i64.wrap ((v1:Int)+nn)=(v1:Int)+nn:=IntWalk.i64_in _ (by omega);have w3:IntKind.i64.wrap ((v2:Int)-nn)=r2:=by rw [mT];exact IntWalk.i64_in _ (by omega)
    have w4:IntKind.i64.wrap (r2+1)=r3:=by rw [B0];exact IntWalk.i64_in _ (by omega)
    clear mT B0;have GM:=qH xZ;have GL:=qH xX;have bL:=(M X1.heap.size X1).alloc (O _) (.cells #[D J 1,D J (p:Int),D J ((v1:Int)+nn),D J 0,D J 0,G E] 76);have kL:Blk (X1.alloc (.cells #[D J 1,D J (p:Int),D J ((v1:Int)+nn),D J 0,D J 0,G E] 76)) X1.heap.size 76 #[D J 1,D J (p:Int),D J ((v1:Int)+nn),D J 0,D J 0,G E]:=Blk.new _ _ _;have di:=cl.below bL cl.lt;have cP:=de.next bL;have qJ:=tu.below bL tu.lt;have Du:=qH wl;clear hp hf0 pV wl xZ xX nH yi cl de tu bL hbd;go_upto_region 7 with fail
    go_region
    clear h0 h1 e1 cD bu cM w1 w2 i4 i6 hqp hpk hqk BP BO hlt wt jF nF;generalize X1.alloc (.cells #[D J 1,D J (p:Int),D J ((v1:Int)+nn),D J 0,D J 0,G E] 76)=X2 at kL di cP qJ ⊢;generalize X1.heap.size=jU at kL ⊢;have kL:=kL.drew;have di:=di.drew;have cP:=cP.next (M _ _).drew;have qJ:=qJ.drew;generalize X2.drew=X3 at kL di cP qJ ⊢;obtain ⟨h0,h1⟩:=cQ2 di;have e1:=qJ.cell Du.out;have nH:=(M X3.heap.size X3).alloc (O _) (.cells #[D J 0,D J 0,D J 0,D J 0,D J 0,G E] 76);have yi:=di.below nH di.lt;obtain ⟨cD,bu⟩:=cQ2 yi;have cM:=(qJ.below nH qJ.lt).cell Du.out;have GS:=qH kL;have wV:=qH di;have vI:=qH cP;have fO:=qH qJ;clear kL di cP qJ nH yi cD bu cM;go_upto_region 8 with fail
    have KP:=qH (show ∀wx,ZZ X3.heap.size X3 wx->(ZZ X3.heap.size X3 wx/\wx.cell? ⟨a9,0,U⟩=Z (D J (q:Int))/\wx.cell? ⟨a9,1,U⟩=Z (D J nn)/\wx.cell? ⟨g,q,U⟩=Z (D J (v2:Int))) from
     fun wx h=>⟨h,((wV.out.below h wV.out.lt).cell 0).trans rfl,((wV.out.below h wV.out.lt).cell 1).trans rfl,(fO.out.below h fO.out.lt).cell Du.out⟩)
    first
     | go_region_held3 (fun wx=>ZZ X3.heap.size X3 wx/\wx.cell? ⟨a9,0,U⟩=Z (D J (q:Int))/\wx.cell? ⟨a9,1,U⟩=Z (D J nn)/\wx.cell? ⟨g,q,U⟩=Z (D J (v2:Int))) (first | assumption | exact KP.out _ (M _ _).drew | exact KP.out _ (zDT (M _ _).drew _)) (first | fail)
     | fail
    clear h0 h1 e1 w3 w4 KP;have bR:=(M X3.heap.size X3).alloc (O _) (.cells #[D J 1,D J (q:Int),D J r3,D J 0,D J 0,G E] 76);have kR:Blk (X3.alloc (.cells #[D J 1,D J (q:Int),D J r3,D J 0,D J 0,G E] 76)) X3.heap.size 76 #[D J 1,D J (q:Int),D J r3,D J 0,D J 0,G E]:=Blk.new _ _ _;have wg:=GS.out.below bR GS.out.lt;have fQ:=wV.out.below bR wV.out.lt;have du:=vI.out.next bR;generalize X3.alloc (.cells #[D J 1,D J (q:Int),D J r3,D J 0,D J 0,G E] 76)=X4 at kR wg fQ du ⊢;generalize X3.heap.size=a11 at kR ⊢;have kR:=kR.drew;have wg:=wg.drew;have fQ:=fQ.drew;have du:=du.next (M _ _).drew;generalize X4.drew=X5 at kR wg fQ du ⊢;have h2:X5.cell? ⟨a9,2,U⟩=Z (G bb):=(fQ.cell 2).trans rfl;have o1:X5.cell? ⟨oB,1,U⟩=Z (H A1 m c1):=(du.bk.cell 1).trans rfl;obtain ⟨y0,y1,y2,y3,y4,y5⟩:=cQ6 wg;obtain ⟨u0,u1,u2,u3,u4,u5⟩:=cQ6 kR;have bD:Y.heap.size<=X5.heap.size:=du.old.size;clear kR wg fQ
    cases bb with
    | true =>
     have hbs:=fun w=>zPt ⟨1,(p:Int),(v1:Int)+nn,0,0,E⟩ ⟨1,(q:Int),r3,0,0,E⟩ w
     simp only [ltV] at hbs;go_upto_region 12 with (at_builtin;refine zEK ?_)
     refine qH ?_;refine zQM (base:=Y.heap.size) (A:=A1) (n:=m) (c:=c1) (L:=zAU ZN (l.take i)) rfl (.tmp 61) (.tmp 64) ?_ ?_ [⟨1,(p:Int),(v1:Int)+nn,0,0,E⟩,⟨1,(q:Int),r3,0,0,E⟩] 2 rfl (zTW GM.out GL.out) ?_ ?_ (m+2) rfl GP.out bD ?_
     ·rfl
     ·exact du.own
     ·rfl
     ·rfl
     intro A2 c2 w9 fq b8 hl9';obtain ⟨gn,eG⟩:=du.pushed tr fq b8 hl9';have p1:w9.cell? ⟨oB,1,U⟩=Z (H A1 m c1):=(gn.cell 1).trans rfl;have z1:=gn.frozen 1;have jK:SgW Y (w9.setCell ⟨oB,1,U⟩ (H A2 (m+2) c2)) oB K A2 (m+2) c2 (zAU ZN (l.take (i+1))):=by
      unfold zAU;rw [ol.out,ji.out];exact eG
     have pG:=qH jK;clear du fq b8 hl9' eG jK gn h2 o1 hbs y0 u0 y1 u1 y2 u2 y3 u3 y4 u4 y5 u5;go_wp2_with fail
     go_roundw
     case rel=>exact ⟨i+1,m+2,_,A2,c2,rfl,Bf.out,GQ.out,by go_num,pG.out⟩
     case measure=>simp [intOf];omega
    | false =>
     have hbs:=fun w=>zPt ⟨1,(q:Int),r3,0,0,E⟩ ⟨1,(p:Int),(v1:Int)+nn,0,0,E⟩ w
     simp only [ltV] at hbs;go_upto_region 12 with (at_builtin;refine zEK ?_)
     refine qH ?_;refine zQM (base:=Y.heap.size) (A:=A1) (n:=m) (c:=c1) (L:=zAU ZN (l.take i)) rfl (.tmp 68) (.tmp 71) ?_ ?_ [⟨1,(q:Int),r3,0,0,E⟩,⟨1,(p:Int),(v1:Int)+nn,0,0,E⟩] 2 rfl (zTW GL.out GM.out) ?_ ?_ (m+2) rfl GP.out bD ?_
     ·rfl
     ·exact du.own
     ·rfl
     ·rfl
     intro A2 c2 w9 fq b8 hl9';obtain ⟨gn,eG⟩:=du.pushed tr fq b8 hl9';have p1:w9.cell? ⟨oB,1,U⟩=Z (H A1 m c1):=(gn.cell 1).trans rfl;have z1:=gn.frozen 1;have jK:SgW Y (w9.setCell ⟨oB,1,U⟩ (H A2 (m+2) c2)) oB K A2 (m+2) c2 (zAU ZN (l.take (i+1))):=by
      unfold zAU;rw [ol.out,ji.out];exact eG
     have pG:=qH jK;clear du fq b8 hl9' eG jK gn h2 o1 hbs y0 u0 y1 u1 y2 u2 y3 u3 y4 u4 y5 u5;go_wp2_with fail
     go_roundw
     case rel=>exact ⟨i+1,m+2,_,A2,c2,rfl,Bf.out,GQ.out,by go_num,pG.out⟩
     case measure=>simp [intOf];omega
  ·have j1:¬(i:Int) < (n:Int):=by omega
   have hin:l.take i=l:=by rw [List.take_of_length_le (by rw [bo.out];omega)]
   rw [hin] at hW;have vj:w.heap.size < Y.heap.size:=hk0.lt;have fT:=hk0.below hW.old vj;have e0:X.cell? ⟨oB,0,U⟩=Z (D J K):=(hW.bk.cell 0).trans rfl;have e1:X.cell? ⟨oB,1,U⟩=Z (H A1 m c1):=(hW.bk.cell 1).trans rfl;obtain ⟨r0,r1⟩:=cQ2 fT;have z0:=fT.frozen 0;have z1:=fT.frozen 1;have vL:=qH fT;have HW:=qH hW;have og:=ah.size;clear hin hlt hW fT;go_wp2_with fail
   have hS:Blk ((X.setCell ⟨w.heap.size,0,U⟩ (D J K)).setCell ⟨w.heap.size,1,U⟩ (H A1 m c1)) w.heap.size 55 #[D J K,H A1 m c1]:=(vL.out.set_ 0 _).set_ 1 _;have gS:=zAk (zAk (World.grownBy.refl X (Z w.heap.size)) (p:=⟨w.heap.size,0,U⟩) (.inl rfl) (D J K)) (p:=⟨w.heap.size,1,U⟩) (.inl rfl) (H A1 m c1);have gM:=((zAa ah HW.out.old og).setCell (p:=⟨w.heap.size,0,U⟩) (O _) (D J K)).setCell (p:=⟨w.heap.size,1,U⟩) (O _) (H A1 m c1);have vl:OwnL ((X.setCell ⟨w.heap.size,0,U⟩ (D J K)).setCell ⟨w.heap.size,1,U⟩ (H A1 m c1)) w.heap.size A1 m c1 (zAU ZN l):=by
    refine ⟨(HW.out.own.row.kept gS ?_).mono og,HW.out.own.fits,HW.out.own.le⟩
    cases hb:blk A1 with
    | none=>exact .inl rfl
    | some q=>exact .inr (by have:=(HW.out.own.row.lt q hb).1;simp;omega)
   (try simp only [Exit.inBlock,Exit.then])
   refine zAi rfl rfl hS Tryz.underlying55 rfl (by kernel_rfl) rfl ?_;exact ⟨A1,m,c1,rfl,vl,gM⟩
open Go.Maps (Keyed)
abbrev bV (b:Bi):Value:=.agg #[D J b.f,D J b.n,G b.b]
theorem zTX:174 < Tryz.prog.types.size:=of_decide_eq_true (by kernel_rfl)
theorem zXj:Tryz.prog.keyTypeAt 2 174=Q:=by kernel_rfl
theorem zNk:Keyed ZX 174 :=
 Keyed.of_law (deep_law_laid zVp (m:=2) (by omega) zTX zXj (by rw [Tryz.underlying174]))
theorem zVC:Tryz.prog.keyType 174=Q:=by kernel_rfl
theorem zNl:Tryz.prog.cellsOf 174=3:=by kernel_rfl
theorem zIi {P : Program} {m : Nat} {t : TypeId} {fs : Array Field} {cs : List Value} (hu : P.underlying t = Z (.struct fs)) (h1 : cs.length = P.cellsOf t) (h2 : fs.all (·.name != "_") = Q) :
  P.keyLits (m+1) t cs=(fs.toList.mapM fun f=>P.keyLits m f.type ((cs.drop f.offset).take (P.cellsOf f.type))).map List.flatten:=by
 simp only [Program.keyLits,hu];rw [qP ⟨h1,h2⟩]
theorem zVD (m:Nat) {x:Bi} (h:BiOk x):Tryz.prog.keyLits (m+2) 174 [.int .i64 x.f,.int .i64 x.n,.bool x.b]=Z [.int .i64 x.f,.int .i64 x.n,.bool x.b]:=by
 have hu:=Tryz.underlying174;have c3:Tryz.prog.cellsOf 3=1:=by kernel_rfl
 have c4:Tryz.prog.cellsOf 4=1:=by kernel_rfl
 have k1:∀y,I64 y->Tryz.prog.keyLits (m+1) 3 [.int .i64 y]=Z [.int .i64 y]:=fun y hy=>by
  have w1:(Lit.int .i64 y).wf=Q:=Go.WalkArith.wf_i64 hy;simp only [Program.keyLits,Tryz.underlying3];rw [qP ⟨trivial,w1⟩]
 have k2:∀b:Bool,Tryz.prog.keyLits (m+1) 4 [.bool b]=Z [.bool b]:=fun b=>by
  simp only [Program.keyLits,Tryz.underlying4]
 have k3:=k1 x.f h.f;have k4:=k1 x.n h.n;have k5:=k2 x.b;rw [zIi hu (by rw [zNl];rfl) (by kernel_rfl)];simp only [List.mapM_cons,List.mapM_nil,c3,c4,List.drop_zero,List.take_succ_cons,List.take_zero,List.drop_succ_cons,k3,k4,k5];rfl
theorem zTY {x:Bi} (h:BiOk x):∃l,keyOf ZX 174 (bV x)=Z l:=by
 obtain ⟨m,hm⟩:∃m,Tryz.prog.types.size=m+1:=⟨Tryz.prog.types.size-1,by have:=zTX;omega⟩
 have hl:=zVD m h;have hf:(bV x).formed ZX 174=Q:=by
  simp [Value.formed,zNl,Tryz.underlying174]
 have hc:(bV x).cells.toList=[D J x.f,D J x.n,G x.b]:=rfl;unfold keyOf;rw [Tryz.underlying174];simp only;rw [zVC,hf,hc,hm,hl];exact ⟨_,rfl⟩
theorem zTZ {x y:Bi} (h:bV x=bV y):x=y:=by
 obtain ⟨a,b,c⟩:=x;obtain ⟨a',b',c'⟩:=y;simp [bV] at h;simp [h]
structure Seen (w:ZY) (b:Nat) (ks:List Bi):Prop where
 map:KMap w ZX 174 b (ks.map fun k=>(bV k,G Q))
section
variable {w w':ZY} {b:Nat} {ks:List Bi}
theorem Seen.look (h:Seen w b ks) {x:Bi} (hx:BiOk x):(Instr.lookup 176 (.map (Z b)) (bV x) E).run ZX w=.ok (G (decide (x∈ks))) w:=by
 obtain ⟨l,hl⟩:=zTY hx;rcases h.map.look zNk Tryz.underlying176 (zSs w) hl with ⟨h1,h2⟩ | ⟨j,v,h1,h2⟩
 ·have hn:x ∉ ks:=fun hm=>h2 (bV x,G Q) (List.mem_map.2 ⟨x,hm,rfl⟩) rfl
  rw [h1,decide_eq_false hn]
 ·rw [List.getElem?_map] at h2
  cases hk:ks[j]? with
  | none=>rw [hk] at h2;cases h2
  | some y =>
   rw [hk] at h2;simp only [Option.map_some,Option.some.injEq,Prod.mk.injEq] at h2;obtain ⟨e1,rfl⟩:=h2;have:=zTZ e1;subst this;rw [h1,decide_eq_true (List.mem_of_getElem? hk)]
theorem Seen.push (h:Seen w b ks) {x:Bi} (hx:BiOk x) (hn:x ∉ ks) :
  ∃w',(Instr.mapUpdate 176 (.map (Z b)) (bV x) (G Q)).run ZX w=.ok () w'/\Seen w' b (ks++[x])/\w.grownBy w' (Z b):=by
 obtain ⟨l,hl⟩:=zTY hx
 obtain ⟨w',h1,h2,h3⟩:=h.map.push zNk Tryz.underlying176 (val:=G Q) hl (fun p hp e=>by
  obtain ⟨y,hy,rfl⟩:=List.mem_map.1 hp
  exact hn (by rw [<-zTZ e];exact hy))
 exact ⟨w',h1,⟨by rw [List.map_append];exact h2⟩,h3⟩
theorem Seen.lt (h:Seen w b ks):b < w.heap.size:=h.map.lt
theorem Seen.made (w:ZY):Seen (w.alloc (.map #[] 0)) w.heap.size []:=⟨KMap.made w _ _⟩
theorem Seen.below {B:Nat} (h:Seen w b ks) (hb:ZZ B w w') (hB:b < B):Seen w' b ks:=⟨h.map.below hb hB⟩
theorem Seen.setCell (h:Seen w b ks) {p:Addr} (hp:b≠p.block) (u:Value):Seen (w.setCell p u) b ks:=⟨h.map.setCell hp u⟩
end
def zFF (w0:ZY) (k:Nat) (l:List Bi) (e:Ending) (w':ZY):Prop :=
 (zGg l=Q/\∃g,e=.returned (.tuple #[H (Z ⟨g,0,U⟩) (k+2) (k+2),D J ((zGf l / 2:Nat):Int),G Q])/\OwnI w' w0.heap.size g (k+2) (zCI k l)/\ZZ w0.heap.size w0 w') ∨
 (zGg l=E/\e=.returned (.tuple #[H U 0 0,D J 0,G E])/\ZZ w0.heap.size w0 w')
theorem zSH {l:List Bi} {i:Nat} {x:Bi} (hx:l[i]? = Z x) (h:zGx x∈(l.take i).map zGx):zGg l=E:=by
 unfold zGg;rw [decide_eq_false,Bool.false_and];intro hn;obtain ⟨j,hj⟩:=List.getElem?_of_mem h;rw [List.getElem?_map,List.getElem?_take] at hj;split at hj
 ·rename_i hji
  cases hq:l[j]? with
  | none=>rw [hq] at hj;cases hj
  | some y =>
   rw [hq] at hj;simp only [Option.map_some,Option.some.injEq] at hj;have hlt:=(List.getElem?_eq_some_iff.1 hx).1;have:=(List.getElem?_inj (l:=l.map zGx) (i:=j) (j:=i) (by rw [List.length_map];omega) hn).1 (by rw [List.getElem?_map,List.getElem?_map,hq,hx];simp [hj]);omega
 ·cases hj
theorem zQO {l:List Bi} {x:Bi} (hx:x∈l) (h:zJJ l x=Q):zGg l=E:=by
 unfold zGg;have:(l.all fun b=>!zJJ l b)=E:=by
  rw [List.all_eq_false];exact ⟨x,hx,by rw [h];simp⟩
 rw [this,Bool.and_false]
theorem zSI {l:List Bi} (h1:(l.map zGx).Nodup) (h2:∀i,i < l.length->zJJ l (ba l i)=E):zGg l=Q:=by
 unfold zGg;rw [decide_eq_true h1,Bool.true_and,List.all_eq_true];intro x hx;obtain ⟨i,hi⟩:=List.getElem?_of_mem hx;have:=h2 i (List.getElem?_eq_some_iff.1 hi).1;rw [zYp hi] at this;rw [this];rfl
theorem zLa {l:List Bi} {i:Nat} {x:Bi} (h:l[i]? = Z x):l.take (i+1)=l.take i++[x]:=by rw [List.take_add_one,h];rfl
theorem zOt {ks:List Bi} {x:Bi} (h:ks.Nodup) (hn:x ∉ ks):(ks++[x]).Nodup:=by
 rw [List.nodup_append];exact ⟨h,by simp,fun a ha b hb e=>by simp at hb;subst hb;subst e;exact hn ha⟩
theorem zVE {x:Bi} (h:BiOk x):BiOk (zGx x):=by
 unfold zGx;split
 ·exact ⟨h.f,h.n⟩
 ·exact h
