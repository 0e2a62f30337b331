/-
  Lemmas, part 13. Conditions: each theorem's own.
-/
import Derived.Test.YtlmdfmnbcndhoaaGreatDoorRq12
import Derived.Test.YtlmdfmnbcndhoaaGreatDoorRq05
import Derived.Test.YtlmdfmnbcndhoaaGreatDoorRq02
import Derived.Great.BuildSlice
import Derived.Laws.StructEq
import Derived.Laws.ResultCell
open Go.Value renaming bool→G,int→D,slice→H,string→W
open Go.IntKind renaming i64→J
open Option renaming none→U,some→Z
open Bool renaming false→E,true→Q
namespace Go.Proofs.YtlmdfmnbcndhoaaGreatDoor
open Go.RowKit
abbrev zLN (S:List UInt8):Value:=W (bA S)
theorem zJo:(Tryz.prog.info? 9).map (fun i=>(i.zero,i.size,i.bytes))=Z (Z (W ⟨#[]⟩),1,16):=by kernel_rfl
theorem zVX {w:World} {ops:Array Oper} {rest:List Oper} {o:Oper} {a:Act} {ZS:Exit→Act→World→Prop} (hgd:o.guard=U) (s x:Operand)
  (ho:o.op=.call { callee:=.builtin .append,args:=#[s,x],argTypes:=#[112,112] })
  {base:Nat} {A:Option Addr} {n c:Nat} {Ss:List (List UInt8)} (hst:Row w base 1 A n c (Ss.map zLN)) (S:List UInt8)
  (hs:a.eval s=H A n c) (hx:a.eval x=H (Z ⟨w.heap.size,0,U⟩) 1 1) (N:Nat) (hN:n+1=N) (hn:N≤1000000) (hbase:base≤w.heap.size)
  (h:∀A' c' w',Row w' base 1 A' N c' ((Ss++[S]).map zLN)→Below base w w'→wpList Tryz.prog ops ZS rest (a.put o.dst (H A' N c')) w') :
  wpList Tryz.prog ops ZS (o :: rest) a (w.alloc (.cells #[W (bA S)] 9)):=by
 obtain ⟨i0,hi,aQ,az,bi⟩:=info_parts zJo;have hbl:=(Below.refl w.heap.size w).alloc (Nat.le_refl _) (.cells #[W (bA S)] 9);have bE:=hst.below hbl
 refine zPn hgd s x 112 ho 9 i0 _ 1 16 Tryz.underlying112 hi aQ az bi rfl (by decide) bE (Src.new (m:=1) (cs:=[W (bA S)]) rfl)
  (by intro u hu;simp at hu;subst hu;rfl) hs hx N hN (by unfold maxLen;omega) (by omega) (by simp;omega) ?_
 intro A' c' w' h1 h2 _ _;refine h A' c' w' (by rw [List.map_append];exact h1) ?_;exact ((Below.refl _ _).alloc hbase _).trans (bE.belowOf h2 (by simp;omega))
def zHE (L:List Fg) (O:List Og):List UInt8:=Lib.join (O.map (zDr L)) [32]
theorem zIG {L:List Fg} {re lo:Int} (hv:frOk L re lo) {P:List Sp} (h:∀x∈P,zAR L.length x.s=Q):∀i,i≤P.length→(zDS L P i).length≤i*50
 | 0,_=>by simp [zDS]
 | i+1,hi=>by
  have ih:=zIG hv h i (by omega);have hn:=zAD.1 (h _ (List.mem_of_getElem? (zEC (L:=P) (i:=i) (by omega))));have a:=zCs hv hn.1 hn.2.1;have b:=zCC (pa P i).over;have c:(if 0 < i then [44] else []:List UInt8).length≤1:=by split<;>simp
  rw [zDS,zMT];simp only [List.length_append];omega
theorem zPI {L:List Fg} {re lo:Int} (hv:frOk L re lo) {o:Og} (hr:zAr L.length o=Q):(zDr L o).length≤200+o.path.length*50:=by
 obtain ⟨h1,h8,dk,aC,hpn,hfrn⟩:=zCd hr;have a:=zBJ hv dk aC;have b:=zKA o.kind;have c:=zCC o.over;have p:=zIG hv hpn o.path.length (Nat.le_refl _);have t:(zED L o).length≤100+o.path.length*50:=by
  unfold zED;by_cases e4:o.kind=4
  ·rw [if_pos e4];omega
  ·rw [if_neg e4];by_cases e3:o.kind=3
   ·rw [if_pos e3];have hn:=zAD.1 (hfrn (.inl e3));have:=zCs hv hn.1 hn.2.1;have q:(if o.path=[] then [] else [60]:List UInt8).length≤1:=by split<;>simp
    simp only [List.length_append];omega
   ·rw [if_neg e3];by_cases e5:o.kind=5
    ·rw [if_pos e5];have hn:=zAD.1 (hfrn (.inr (.inl e5)));have:=zCs hv hn.1 hn.2.1;simp only [List.length_append];omega
    ·rw [if_neg e5];by_cases e6:o.kind=6∨o.kind=7
     ·rw [if_pos e6];have hn:=zAD.1 (hfrn (by omega));have:=zBJ hv hn.1 hn.2.1;simp only [List.length_append];omega
     ·rw [if_neg e6];simp
 unfold zDr;simp only [List.length_append];omega
theorem zMU {b:Nat} (sep:List UInt8) (hs:sep.length≤1):∀{xs:List (List UInt8)},(∀x∈xs,x.length≤b)→(Lib.join xs sep).length≤xs.length*(b+1)
 | [],_=>by simp [Lib.join_nil]
 | x :: r,h=>by
  have hx:=h x (List.mem_cons_self ..);have hr:((r.map (sep++·)).flatten).length≤r.length*(b+1):=by
   have hh:∀y∈r,y.length≤b:=fun y hy=>h y (List.mem_cons_of_mem _ hy)
   clear h
   induction r with
   | nil=>simp
   | cons y r ih =>
    have:=ih fun z hz=>hh z (List.mem_cons_of_mem _ hz)
    have hy:=hh y (List.mem_cons_self ..);rw [List.map_cons,List.flatten_cons,List.length_append,List.length_append,List.length_cons,Nat.add_mul];omega
  rw [Lib.join_cons,Lib.joinTail,List.length_append,List.length_cons,Nat.add_mul];omega
theorem zMV {w:World} {base:Nat} {A:Option Addr} {n c:Nat} {Ss:List (List UInt8)} (h:Row w base 1 A n c (Ss.map zLN)) (hn:n≤1000000) (hl:(Lib.join Ss [32]).length≤140737488355328) :
  Calls Tryz.prog 69 #[H A n c,W ⟨#[32]⟩] w fun e w'=>e=.returned (W (bA (Lib.join Ss [32])))∧Below w.heap.size w w':=by
 have hlen:Ss.length=n:=by have:=h.len;simpa using this
 cases A with
 | none =>
  have h0:=h.nil rfl;have h1:=h.cap;obtain rfl:n=0:=by omega
  obtain rfl:Ss=[]:=List.length_eq_zero_iff.1 hlen;refine (Tryz.strings_Join_none U c ⟨#[32]⟩ w).mono ?_;rintro e w' ⟨rfl,rfl⟩;exact ⟨rfl,Below.refl _ _⟩
 | some ad =>
  obtain ⟨h1,_,h3,h4,_⟩:=h.at_ ad rfl;have hx:(Ss.map bA).length=n:=by rw [List.length_map];exact hlen
  have hm:(Ss.map bA).map (fun x:ByteArray=>x.data.toList)=Ss:=by
   rw [List.map_map]
   conv=>rhs;rw [←List.map_id Ss]
   apply List.map_congr_left;intro x _;exact zDO x
  have hj:=Tryz.strings_Join ad.block ad.off c (Ss.map bA) ⟨#[32]⟩ w (fun j x hxj=>h4 j _ (by
   rw [List.getElem?_map] at hxj ⊢
   cases e:Ss[j]? with
   | none=>rw [e] at hxj;cases hxj
   | some y=>rw [e] at hxj;simp only [Option.map_some,Option.some.injEq] at hxj ⊢;show Value.string (bA y)=_;rw [hxj])) h3 (by omega) (by rw [hx];exact h.cap) (by rw [hm];exact hl)
  rw [hx,hm] at hj;rw [zJf h1];exact hj
def zRt (L:List Fg) (re lo:Int) (O:List Og):Int:=if zBi L re lo O=0 then (if O.all (zDI L) then 0 else 8) else zBi L re lo O
def zUe (L:List Fg) (re lo:Int) (O:List Og):List UInt8:=if zRt L re lo O=0 then zHE L O else []
theorem zVY {A:Option Addr} {n c:Nat} {L:List Fg} {re lo:Int} {o:Og} {q:Bool} (h:zDI L o=q) (B:Option Addr) (m d:Nat) (w:World) (hA:Fgs w A n L) (hO:OpIn w o B m d) (hr:zAr n o=Q) :
  Calls Tryz.prog 67 #[frV A n c re lo,opV o B m d] w fun e w'=>e=.returned (G q)∧Below w.heap.size w w':=by
 subst h;exact zKy A n c L re lo o B m d w hA hO hr
theorem zUf {A:Option Addr} {n c:Nat} {L:List Fg} {re lo:Int} {o:Og} {S:List UInt8} (h:zDr L o=S) (B:Option Addr) (m d:Nat) (w:World) (hA:Fgs w A n L) (hv:frOk L re lo) (hO:OpIn w o B m d) (hr:zAr n o=Q) (hm:m≤10000) :
  Calls Tryz.prog 68 #[frV A n c re lo,opV o B m d] w fun e w'=>e=.returned (W (bA S))∧Below w.heap.size w w':=by
 subst h;exact zOa A n c L re lo o B m d w hA hv hO hr hm
theorem zUg {L:List Fg} {re lo:Int} {Es:List Oe} {i:Nat} (h0:zBi L re lo (Es.map (·.o))=0) (hi:i < Es.length) (h:zDI L (oa Es i).o=E):zRt L re lo (Es.map (·.o))=8:=by
 have:(Es.map (·.o)).all (zDI L)=E:=by
  cases e:(Es.map (·.o)).all (zDI L) with
  | false=>rfl
  | true=>rw [List.all_eq_true] at e;have:=e _ (List.mem_map_of_mem (List.mem_of_getElem? (zCX hi)));rw [h] at this;cases this
 unfold zRt;rw [if_pos h0,this];rfl
theorem zUh {L:List Fg} {re lo:Int} {Es:List Oe} (h0:zBi L re lo (Es.map (·.o))=0) (h:∀i,i < Es.length→zDI L (oa Es i).o=Q):zRt L re lo (Es.map (·.o))=0:=by
 have:(Es.map (·.o)).all (zDI L)=Q:=by
  rw [List.all_eq_true];intro x hx;obtain ⟨e,he,rfl⟩:=List.mem_map.1 hx;obtain ⟨i,hi⟩:=List.getElem?_of_mem he;have hlt:=(List.getElem?_eq_some_iff.1 hi).1;have h2:=h i hlt;have h3:=zCX hlt;rw [hi] at h3;injection h3 with h3
  rw [h3];exact h2
 unfold zRt;rw [if_pos h0,this];rfl
set_option maxHeartbeats 6400000 in
set_option maxRecDepth 100000 in
theorem zLO (A:Option Addr) (n c:Nat) (L:List Fg) (re lo:Int) (B:Option Addr) (m d:Nat) (Es:List Oe) (w:World) (hA:Fgs w A n L) (hc:n≤c) (hO:Oprs w B m Es) (hm:m≤10000) (hf:zVW Es) :
  Calls Tryz.prog 28 #[frV A n c re lo,H B m d] w fun e w'=>e=.returned (.tuple #[W (bA (zUe L re lo (Es.map (·.o)))),D J (zRt L re lo (Es.map (·.o)))])∧Below w.heap.size w w':=by
 have aL:=qH hO.len;have fj:=qH hA.len;have aa:Below w.heap.size w (w.alloc (.cells #[H A n c,D J re,D J lo] 24)):=(Below.refl _ _).alloc (Nat.le_refl _) _;have hk0:Blk (w.alloc (.cells #[H A n c,D J re,D J lo] 24)) w.heap.size 24 #[H A n c,D J re,D J lo]:=Blk.new _ _ _;have hC:=zEO A n c L re lo B m d Es _ (hA.below aa) hc (hO.below aa);have hcase:=zDR L re lo (Es.map (·.o));obtain ⟨ZT,hE⟩:∃ZT,zBi L re lo (Es.map (·.o))=ZT:=⟨_,rfl⟩
 rw [hE] at hcase hC;have HC:=qH hC;have HE:=qH hE;have oK:=qH hf;clear hE hC hf;rcases hcase with ⟨rfl,hfr,hro⟩ | rfl
 ·have hri:∀i,i < m→zAr n (oa Es i).o=Q:=fun i hi=>by
   have:=hro _ (List.mem_map_of_mem (List.mem_of_getElem? (zCX (L:=Es) (i:=i) (by rw [aL.out];exact hi))));rw [fj.out] at this;exact this
  have tT:=qH hri;clear hro hri;go_enter Tryz.func28,Tryz.ntmps28;go_wp2_with fail
  refine HC.out.mono ?_;rintro e w2 ⟨rfl,ab⟩;have ac:=zAa aa ab aa.size;have hk2:=hk0.below ab hk0.lt;have cT:=hA.below ac;have eG:=hO.below ac;clear HC aa hk0 ab;go_wp2_with fail
  go_loopw [7,18] (fun v7 v wr=>∃(i:Nat) (A':Option Addr) (c':Nat) (Ss:List (List UInt8)),i≤m∧v=D J i∧v7=H A' i c'∧Row wr w2.heap.size 1 A' i c' (Ss.map zLN)∧Below w2.heap.size w2 wr∧Hid (Ss=(Es.take i).map fun e=>zDr L e.o)∧Hid (∀j:Nat,j < i→zDI L (oa Es j).o=Q)∧w2.heap.size≤wr.heap.size) (fun _ v _=>m-(intOf v).toNat)
  case atStart=>exact ⟨0,U,0,[],Nat.zero_le _,rfl,rfl,Row.none_ _ _ _,Below.refl _ _,qH (by simp),qH (fun j hj=>by omega),Nat.le_refl _⟩
  case round =>
   obtain ⟨i,A',c',Ss,hi,rfl,rfl,hR,hbr,HT,HS,hzr⟩:=hrel;have hkr:=hk2.below hbr hk2.lt;by_cases hlt:i < m
   ·obtain ⟨g,p,rfl,hg,⟨x0,x1,x2,x3,x4,x5,x6,x7⟩,hin⟩:=(eG.below hbr).at_ hlt;have j0:(0:Int)≤(i:Int):=by omega
    have j1:(i:Int) < (m:Int):=by omega
    have oz:=zCX (L:=Es) (i:=i) (by rw [aL.out];exact hlt);have hpn:=oK.out _ (List.mem_of_getElem? oz);have hri:=tT.out i hlt;have hsn:((Es.take (i+1)).map fun e=>zDr L e.o)=((Es.take i).map fun e=>zDr L e.o)++[zDr L (oa Es i).o]:=by
     rw [List.take_add_one,oz];simp
    obtain ⟨q,hq⟩:∃q,zDI L (oa Es i).o=q:=⟨_,rfl⟩
    have HQ:=qH hq;generalize oa Es i=x at x0 x1 x2 x3 x4 x5 x6 x7 hin hpn hri hsn oz hq;obtain ⟨⟨kind,f,⟨ff,fl,ffar,fpc⟩,path,over⟩,PA,pn,pc⟩:=x;simp only at x0 x1 x2 x3 x4 x5 x6 x7 hin hpn hri hsn hq;obtain ⟨IT,lW⟩:∃X,zDr L ⟨kind,f,⟨ff,fl,ffar,fpc⟩,path,over⟩=X:=⟨_,rfl⟩
    rw [lW] at hsn;have HT1:=qH (show Ss++[IT]=(Es.take (i+1)).map fun e=>zDr L e.o by rw [hsn,HT.out]);have ai:Below w2.heap.size w2 (wr.alloc (.cells #[D J kind,D J f,D J ff,D J fl,G ffar,D J fpc,H PA pn pc,G over] 32)):=hbr.alloc hbr.size _;have DK:=hR.alloc (.cells #[D J kind,D J f,D J ff,D J fl,G ffar,D J fpc,H PA pn pc,G over] 32);have fK:=hkr.alloc (.cells #[D J kind,D J f,D J ff,D J fl,G ffar,D J fpc,H PA pn pc,G over] 32);have uZ:Blk (wr.alloc (.cells #[D J kind,D J f,D J ff,D J fl,G ffar,D J fpc,H PA pn pc,G over] 32)) wr.heap.size 32 #[D J kind,D J f,D J ff,D J fl,G ffar,D J fpc,H PA pn pc,G over]:=Blk.new _ _ _;have lr:=hin.below ((Below.refl wr.heap.size wr).alloc (Nat.le_refl _) (.cells #[D J kind,D J f,D J ff,D J fl,G ffar,D J fpc,H PA pn pc,G over] 32));have rn:=qH (zVY (c:=c) (re:=re) (lo:=lo) hq PA pn pc _ (cT.below ai) lr hri);have ii:=qH (fun wx (dQ:Fgs wx A n L) hOx=>zUf (c:=c) lW PA pn pc wx dQ hfr hOx hri hpn);have y0:=(fK.cell 0).trans rfl;have y1:=(fK.cell 1).trans rfl;have y2:=(fK.cell 2).trans rfl;clear lW hsn hin hpn hri oz hq HT
    cases q with
    | false =>
     have hr:=qH (zUg (L:=L) (re:=re) (lo:=lo) (Es:=Es) (i:=i) HE.out (by rw [aL.out];exact hlt) HQ.out);go_wp2_with fail
     refine rn.out.mono ?_;rintro e w6 ⟨rfl,ao⟩;have be:=zAa ai ao ai.size;clear y0 y1 y2 x0 x1 x2 x3 x4 x5 x6 x7;go_wp2_with fail
     go_ret2;exact ⟨by unfold zUe;rw [hr.out];rfl,zAa ac be ac.size⟩
    | true =>
     have du:=qH (show ∀j:Nat,j < i+1→zDI L (oa Es j).o=Q from fun j hj=>by
      rcases Nat.decEq j i with e | e
      ·exact HS.out j (by omega)
      ·subst e;exact HQ.out)
     clear HS HQ;go_wp2_with fail
     refine rn.out.mono ?_;rintro e w6 ⟨rfl,ao⟩;have be:=zAa ai ao ai.size;have DJ:=DK.below ao;have tr:=fK.below ao fK.lt;have nQ:=uZ.below ao uZ.lt;have vm:=lr.below ao;have z0:=(tr.cell 0).trans rfl;have z1:=(tr.cell 1).trans rfl;have z2:=(tr.cell 2).trans rfl;have v0:=(nQ.cell 0).trans rfl;have v1:=(nQ.cell 1).trans rfl;have v2:=(nQ.cell 2).trans rfl;have v3:=(nQ.cell 3).trans rfl;have v4:=(nQ.cell 4).trans rfl;have v5:=(nQ.cell 5).trans rfl;have v6:=(nQ.cell 6).trans rfl;have v7:=(nQ.cell 7).trans rfl;clear y0 y1 y2 x0 x1 x2 x3 x4 x5 x6 x7 DK fK uZ lr hR hbr hkr rn;go_wp2_with fail
     refine (ii.out _ (cT.below be) vm).mono ?_;rintro e w8 ⟨rfl,bc⟩;have tI:=DJ.below bc;have aP:=zAa be bc be.size;have th:w2.heap.size≤w8.heap.size:=aP.size;clear z0 z1 z2 v0 v1 v2 v3 v4 v5 v6 v7 DJ tr nQ vm ao be ai ii;go_wp2_with (at_builtin;refine zVX rfl _ _ rfl tI IT rfl rfl (i+1) rfl (by omega) th ?_;intro A2 c2 w9 hR9 bW)
     have vy:=aP.trans bW;have hz9:w2.heap.size≤w9.heap.size:=vy.size;clear tI bc aP bW;go_wp2_with fail
     go_roundw
     case rel=>exact ⟨i+1,A2,c2,Ss++[IT],by omega,by go_num,rfl,hR9,vy,HT1,du,hz9⟩
     case measure=>simp [intOf];omega
   ·have j1:¬(i:Int) < (m:Int):=by omega
    have hin:i=m:=by omega
    have oj:Ss=(Es.map (·.o)).map (zDr L):=by
     rw [HT.out,hin,←aL.out,List.take_length,List.map_map];rfl
    have hr:=qH (zUh (L:=L) (re:=re) (lo:=lo) (Es:=Es) HE.out (fun j hj=>HS.out j (by rw [aL.out] at hj;omega)));have hjl:(Lib.join Ss [32]).length≤140737488355328:=by
     have hb:∀x∈Ss,x.length≤600000:=by
      rw [oj];intro x hx;obtain ⟨o,ho,rfl⟩:=List.mem_map.1 hx;obtain ⟨e,he,rfl⟩:=List.mem_map.1 ho;obtain ⟨k,hk⟩:=List.getElem?_of_mem he;have hlk:=(List.getElem?_eq_some_iff.1 hk).1;have hkk:=zCX hlk;rw [hk] at hkk;injection hkk with hkk
      have hri:=tT.out k (by rw [←aL.out];exact hlk);rw [←hkk] at hri;have h1:=zPI hfr (o:=e.o) (by rw [fj.out];exact hri);have h2:=oK.out e he;have h3:=(eG.2 e he).path.len;omega
     have:=zMU [32] (by simp) hb;have hl:Ss.length=m:=by rw [oj];simp;exact aL.out
     rw [hl] at this;have:m*(600000+1)≤10000*600001:=Nat.mul_le_mul hm (by omega);omega
    have HJ:=qH (zMV hR (by omega) hjl);have HR:=qH (show Lib.join Ss [32]=zUe L re lo (Es.map (·.o)) by unfold zUe;rw [hr.out,if_pos rfl];unfold zHE;rw [oj]);clear hin HT HS oj hjl hkr;go_wp2_with fail
    refine HJ.out.mono ?_;rintro e w8 ⟨rfl,bc⟩;have aP:Below w.heap.size w w8:=zAa ac (zAa hbr bc hzr) ac.size;go_wp2_with fail
    go_ret2;exact ⟨by rw [HR.out,hr.out];rfl,aP⟩
 ·have hr:=qH (show zRt L re lo (Es.map (·.o))=2 by unfold zRt;rw [HE.out];rfl);go_enter Tryz.func28,Tryz.ntmps28;go_wp2_with fail
  refine HC.out.mono ?_;rintro e w2 ⟨rfl,ab⟩;have ac:=zAa aa ab aa.size;go_wp2_with fail
  go_ret2;exact ⟨by unfold zUe;rw [hr.out];rfl,ac⟩
theorem zDs {α β:Type} (f:α→List β) (k:Nat) (hk:∀a,(f a).length=k):∀L:List α,(L.flatMap f).length=L.length*k
 | []=>by simp
 | a :: L=>by rw [List.flatMap_cons,List.length_append,hk,zDs f k hk L,List.length_cons,Nat.add_mul,Nat.one_mul,Nat.add_comm]
theorem zEP {α β:Type} (f:α→List β) (k:Nat) (hk:∀a,(f a).length=k):∀(L:List α) (j i:Nat) (x:α),L[j]? = Z x→i < k→(L.flatMap f)[j*k+i]? = (f x)[i]?
 | [],j,_,_,h,_=>by simp at h
 | a :: L,0,i,x,h,hi=>by
  simp only [List.getElem?_cons_zero,Option.some.injEq] at h;subst h;rw [List.flatMap_cons,Nat.zero_mul,Nat.zero_add,List.getElem?_append_left (by rw [hk];exact hi)]
 | a :: L,j+1,i,x,h,hi=>by
  rw [List.getElem?_cons_succ] at h;rw [List.flatMap_cons,List.getElem?_append_right (by rw [hk,Nat.add_mul,Nat.one_mul];omega),hk,show (j+1)*k+i-k=j*k+i by rw [Nat.add_mul,Nat.one_mul];omega];exact zEP f k hk L j i x h hi
theorem zMW {α β:Type} (f:α→List β) (k:Nat) (hk:∀a,(f a).length=k):∀(L:List α) (j i:Nat) (x x':α) (u:β),L[j]? = Z x→i < k→f x'=(f x).set i u→(L.flatMap f).set (j*k+i) u=(L.set j x').flatMap f
 | [],j,_,_,_,_,h,_,_=>by simp at h
 | a :: L,0,i,x,x',u,h,hi,he=>by
  simp only [List.getElem?_cons_zero,Option.some.injEq] at h;subst h;rw [List.flatMap_cons,Nat.zero_mul,Nat.zero_add,List.set_append_left _ _ (by rw [hk];exact hi),List.set_cons_zero,List.flatMap_cons,he]
 | a :: L,j+1,i,x,x',u,h,hi,he=>by
  rw [List.getElem?_cons_succ] at h;rw [List.flatMap_cons,List.set_append_right _ _ (by rw [hk,Nat.add_mul,Nat.one_mul];omega),hk,show (j+1)*k+i-k=j*k+i by rw [Nat.add_mul,Nat.one_mul];omega,zMW f k hk L j i x x' u h hi he,List.set_cons_succ,List.flatMap_cons]
theorem zJp {α β:Type} (f:α→List β) (k:Nat) (hk:∀a,(f a).length=k) {L:List α} {j i:Nat} {x x':α} {u:β} (h:L[j]? = Z x) (hi:i < k) (he:f x'=(f x).set i u) {q:Nat} (hq:q=j*k+i):(L.flatMap f).set q u=(L.set j x').flatMap f:=by
 subst hq;exact zMW f k hk L j i x x' u h hi he
theorem Row.put {w:World} {base size:Nat} {g off n c:Nat} {xs:List Value} (h:Row w base size (Z ⟨g,off,U⟩) n c xs) {q:Nat} (hq:q < n*size) (u:Value):Row (w.setCell ⟨g,off+q,U⟩ u) base size (Z ⟨g,off,U⟩) n c (xs.set q u):=by
 obtain ⟨h1,h2,h3,h4,h5⟩:=h.at_ _ rfl;simp only [] at h4 h5;refine ⟨by simpa using h.len,h.cap,h.nil,fun ad ha=>?_⟩;injection ha with ha
 subst ha;refine ⟨rfl,h2,by simpa [World.setCell] using h3,fun j v hv=>?_,fun j hj=>?_⟩
 ·by_cases e:q=j
  ·subst e;rw [List.getElem?_set_self (by rw [h.len];exact hq)] at hv;injection hv with hv
   subst hv;have hc:=(h5 q (by have:=h.cap;exact Nat.lt_of_lt_of_le hq (Nat.mul_le_mul_right _ this))).1;obtain ⟨v0,zx⟩:=Option.isSome_iff_exists.1 hc;exact World.cell?_setCell_same _ _ _ zx
  ·rw [List.getElem?_set_ne e] at hv;rw [World.cell?_setCell_other _ _ _ _ (by intro he;injection he with _ he;simp at he;omega)];exact h4 j v hv
 ·obtain ⟨k1,k2⟩:=h5 j hj;refine ⟨?_,?_⟩
  ·by_cases e:q=j
   ·subst e;obtain ⟨v0,zx⟩:=Option.isSome_iff_exists.1 k1;rw [World.cell?_setCell_same _ _ _ zx];rfl
   ·rw [World.cell?_setCell_other _ _ _ _ (by intro he;injection he with _ he;simp at he;omega)];exact k1
  ·rw [World.frozen?_setCell];exact k2
def ltC (l:Lt):List Value:=[D J l.kind,D J l.gate,D J l.rank,D J l.id,D J l.sign,G l.over]
theorem zDT (l:Lt):(ltC l).length=6:=rfl
structure OwnL (w:World) (base:Nat) (A:Option Addr) (n c:Nat) (L:List Lt):Prop where
 row:Row w base 6 A n c (L.flatMap ltC)
 fits:∀x∈L,LtOk x
 le:n≤2932031007402
section
variable {w w':World} {base:Nat} {A:Option Addr} {n c:Nat} {L:List Lt}
theorem OwnL.len (h:OwnL w base A n c L):L.length=n:=by
 have:=h.row.len;rw [zDs ltC 6 zDT] at this;omega
theorem OwnL.lets (h:OwnL w base A n c L):Lets w A n L:=by
 refine ⟨h.len,h.le,h.fits,fun hn=>?_⟩;obtain ⟨g,off,rfl,_,hlt⟩:=h.row.form hn;refine ⟨g,off,rfl,hlt,fun j x hx=>?_⟩;have key:∀i u,i < 6→(ltC x)[i]? = Z u→w.cell? ⟨g,off+(j*6+i),U⟩=Z u:=fun i u hi hu=>h.row.cell (by rw [zEP ltC 6 zDT L j i x hx hi];exact hu)
 exact ⟨key 0 _ (by omega) rfl,key 1 _ (by omega) rfl,key 2 _ (by omega) rfl,key 3 _ (by omega) rfl,key 4 _ (by omega) rfl,key 5 _ (by omega) rfl⟩
theorem OwnL.next (h:OwnL w base A n c L) (hb:Below w.heap.size w w'):OwnL w' base A n c L:=⟨h.row.below hb,h.fits,h.le⟩
theorem OwnL.alloc (h:OwnL w base A n c L) (o:Obj):OwnL (w.alloc o) base A n c L:=⟨h.row.alloc o,h.fits,h.le⟩
theorem OwnL.nil (w:World) (base:Nat):OwnL w base U 0 0 []:=⟨Row.none_ _ _ _,by simp,by omega⟩
theorem OwnL.put {g off:Nat} (h:OwnL w base (Z ⟨g,off,U⟩) n c L) {j i q:Nat} {x x':Lt} {u:Value} (hx:L[j]? = Z x) (hi:i < 6) (he:ltC x'=(ltC x).set i u) (hok:LtOk x') (hq:q=j*6+i) :
  OwnL (w.setCell ⟨g,off+q,U⟩ u) base (Z ⟨g,off,U⟩) n c (L.set j x'):=by
 have hj:j < n:=by rw [←h.len];exact (List.getElem?_eq_some_iff.1 hx).1
 refine ⟨?_,fun y hy=>?_,h.le⟩
 ·rw [←zJp ltC 6 zDT hx hi he hq];exact h.row.put (by omega) u
 ·rcases List.mem_or_eq_of_mem_set hy with hy | rfl
  ·exact h.fits y hy
  ·exact hok
end
theorem OwnL.block {w:World} {base g:Nat} {L:List Lt} (h:Blk w g 76 (L.flatMap ltC).toArray) (hb:base≤g) (hf:∀x∈L,LtOk x) (hle:L.length≤2932031007402):OwnL w base (Z ⟨g,0,U⟩) L.length L.length L:=by
 refine ⟨⟨zDs ltC 6 zDT L,Nat.le_refl _,fun e=>(by cases e),fun ad ha=>?_⟩,hf,hle⟩;injection ha with ha
 subst ha;have hc:∀j,w.cell? ⟨g,0+j,U⟩=(L.flatMap ltC)[j]?:=fun j=>by rw [Nat.zero_add,h.cell,List.getElem?_toArray]
 refine ⟨rfl,hb,h.lt,fun j u hu=>by rw [hc,hu],fun j hj=>⟨?_,?_⟩⟩
 ·rw [hc,List.getElem?_eq_getElem (by rw [zDs ltC 6 zDT];exact hj)];rfl
 ·exact h.frozen _
section
variable {w w':World} {base:Nat} {A:Option Addr} {n c:Nat} {ZS:List Plc}
end
theorem zAH {P:Program} {fn:Func} {p:Tmp} {ty:TypeId} {R:Ending→World→Prop} {a:Act} {w:World} {g:Nat} {t:TypeId} {cs:Array Value} {fr:Nat×Nat} {d:TypeDesc} (h:fn.results=#[.cell p ty])
  (hp:a.tmps.getD p undef=.pointer (Z ⟨g,0,U⟩)) (hg:w.heap[g]? = Z (.cells cs t fr)) (hu:P.underlying ty=Z d) (hd:(match d with | .struct _ | .array _ _=>Q | _=>E)=Q) (hi:(P.info? ty).map (·.size)=Z cs.size)
  (hdf:a.defers=[]) (hR:R (.returned (.agg cs)) w):bodyPost P fn R .ret a w:=bodyPost_ret (results_cell_row h a.tmps w g t cs fr d hp hg hu hd hi) hdf hR
theorem zCk {P:Program} {fn:Func} {p u:Tmp} {ty:TypeId} {R:Ending→World→Prop} {a:Act} {w:World} {g:Nat} {t:TypeId} {cs:Array Value} {fr:Nat×Nat} {d:TypeDesc} {v:Value} (h:fn.results=#[.cell p ty,.tmp u])
  (hp:a.tmps.getD p undef=.pointer (Z ⟨g,0,U⟩)) (hv:a.tmps.getD u undef=v) (hg:w.heap[g]? = Z (.cells cs t fr)) (hu:P.underlying ty=Z d) (hd:(match d with | .struct _ | .array _ _=>Q | _=>E)=Q) (hi:(P.info? ty).map (·.size)=Z cs.size)
  (hdf:a.defers=[]) (hR:R (.returned (.tuple #[.agg cs,v])) w):bodyPost P fn R .ret a w:=by
 refine bodyPost_ret ?_ hdf hR;rw [results_cell_tmp h,hp,hv];simp [asAddr,run_loadVar_row w g t ty cs fr d hg hu hd hi,Result.andThen]
theorem zUi (K:Int) (w:World):(Instr.build 55 #[(0,D J K)]).run Tryz.prog w=.ok (.agg #[D J K,H U 0 0]) w:=run_build w _ _ _ (by kernel_rfl)
theorem zUj (K:Int) (A:Option Addr) (n c:Nat) (w:World):(Instr.build 55 #[(0,D J K),(1,H A n c)]).run Tryz.prog w=.ok (.agg #[D J K,H A n c]) w:=run_build w _ _ _ (by kernel_rfl)
theorem zVZ (K:Int) (A:Option Addr) (n c:Nat) (w:World):(Instr.build 148 #[(0,.agg #[D J K,H A n c])]).run Tryz.prog w=.ok (.agg #[D J K,H A n c,H U 0 0,H U 0 0,H U 0 0,.map U,H U 0 0]) w:=run_build w _ _ _ (by kernel_rfl)
theorem zMX:(Tryz.prog.info? 76).map (fun i=>(i.zero,i.size,i.bytes))=Z (Z (.agg #[D J 0,D J 0,D J 0,D J 0,D J 0,G E]),6,48):=by kernel_rfl
theorem zPJ (a b:Lt) (w:World):(Instr.buildSlice 53 2 #[(0,ltV a),(1,ltV b)]).run Tryz.prog w=.ok (H (Z ⟨w.heap.size,0,U⟩) 2 2) (w.alloc (.cells ([a,b].flatMap ltC).toArray 76)):=by
 obtain ⟨i0,hi,aQ,az,bi⟩:=info_parts zMX;refine run_buildSlice w _ _ 2 _ _ i0 _ Tryz.underlying53 hi aQ (by rw [az];omega) (by rw [az];omega) ?_;rw [az]
 kernel_rfl
theorem zCt {x:Int} (h0:0≤x) (h1:x < 10):Lib.itoa x=[UInt8.ofNat (48+x.toNat)]:=by
 obtain ⟨k,rfl⟩:=Int.eq_ofNat_of_zero_le h0;unfold Lib.itoa;rw [if_neg (by omega)];simp only [Int.toNat_natCast];exact zGf (by omega)
theorem zJq {a b:Nat} (ha:a < 256) (hb:b < 256) (h:UInt8.ofNat a=UInt8.ofNat b):a=b:=by
 have:=congrArg UInt8.toNat h;simp only [UInt8.toNat_ofNat'] at this;omega
theorem zPK {x y:Fg} (hx:zAx x=Q) (hy:zAx y=Q) (h:zAq x=zAq y):x=y:=by
 obtain ⟨a1,a2,a3,a4⟩:=zAP.1 hx;obtain ⟨b1,b2,b3,b4⟩:=zAP.1 hy;obtain ⟨p,r,d⟩:=x;obtain ⟨p',r',d'⟩:=y;simp only at a1 a2 a3 a4 b1 b2 b3 b4;unfold zAq at h;simp only at h;rw [zCt a3 (by omega),zCt b3 (by omega),zCt (x:=p) (by omega) (by omega),zCt (x:=p') (by omega) (by omega)] at h;have hd:∀a b:Int,0≤a→a≤9→0≤b→b≤9→UInt8.ofNat (48+a.toNat)=UInt8.ofNat (48+b.toNat)→a=b:=fun a b h1 h2 h3 h4 e=>by
  have:=zJq (by omega) (by omega) e;omega
 by_cases e1:p=1
 ·by_cases e2:p'=1
  ·rw [if_pos e1,if_pos e2] at h;simp only [List.nil_append,List.cons.injEq,and_true] at h;obtain ⟨h1,h2⟩:=h;have hr:r=r':=by cases r<;>cases r'<;>first | rfl | (exfalso;simp at h1)
   rw [e1,e2,hr,hd d d' a3 (by omega) b3 (by omega) h2]
  ·rw [if_pos e1,if_neg e2] at h;have:=congrArg List.length h;simp at this
 ·by_cases e2:p'=1
  ·rw [if_neg e1,if_pos e2] at h;have:=congrArg List.length h;simp at this
  ·rw [if_neg e1,if_neg e2] at h;simp only [List.cons_append,List.nil_append,List.cons.injEq,and_true] at h;obtain ⟨h0,h1,h2⟩:=h;have hr:r=r':=by cases r<;>cases r'<;>first | rfl | (exfalso;simp at h1)
   rw [hd p p' (by omega) (by omega) (by omega) (by omega) h0,hr,hd d d' a3 (by omega) b3 (by omega) h2]
open Classical in
noncomputable def zIH (S:List UInt8):Option Fg:=if h:∃f,zAx f=Q∧zAq f=S then Z h.choose else U
theorem zFp {S:List UInt8} {f:Fg} (h1:zAx f=Q) (h2:zAq f=S):zIH S=Z f:=by
 have h:∃f,zAx f=Q∧zAq f=S:=⟨f,h1,h2⟩
 unfold zIH;rw [dif_pos h]
 congr 1
 exact zPK h.choose_spec.1 h1 (h.choose_spec.2.trans h2.symm)
theorem zPL {S:List UInt8} (h:∀f,zAx f=Q→zAq f≠S):zIH S=U:=by
 unfold zIH;rw [dif_neg (fun ⟨f,h1,h2⟩=>h f h1 h2)]
theorem zLP {S:List UInt8} {f:Fg} (h:zIH S=Z f):zAx f=Q∧zAq f=S:=by
 unfold zIH at h;split at h
 ·rename_i hh;injection h with h
  subst h;exact hh.choose_spec
 ·cases h
theorem Blk.store3 {w:World} {g:Nat} {t:TypeId} {v0 v1 v2:Value} (h:Blk w g t #[v0,v1,v2]) (u0 u1 u2:Value) :
  Blk (((w.setCell ⟨g,0,U⟩ u0).setCell ⟨g,1,U⟩ u1).setCell ⟨g,2,U⟩ u2) g t #[u0,u1,u2]:=((h.set_ 0 _).set_ 1 _).set_ 2 _
theorem zGH {a w:World} {g B:Nat} (h:Below B a w) (hB:B≤g) (u0 u1 u2:Value) :
  Below B a (((w.setCell ⟨g,0,U⟩ u0).setCell ⟨g,1,U⟩ u1).setCell ⟨g,2,U⟩ u2) :=
 ((h.setCell (p:=⟨g,0,U⟩) hB _).setCell (p:=⟨g,1,U⟩) hB _).setCell (p:=⟨g,2,U⟩) hB _
theorem zUk {x:Fg} {S:List UInt8} (h:zAq x=S) (hx:zAx x=Q) (w:World):Calls Tryz.prog 154 #[fgV x] w fun e w'=>e=.returned (W (bA S))∧Below w.heap.size w w':=by
 subst h;exact zKs x hx w
theorem zXg (p:Int) (r:Bool) (d:Int) (w:World):(Instr.build 90 #[(0,D J p),(1,G r),(2,D J d)]).run Tryz.prog w=.ok (fgV ⟨p,r,d⟩) w:=run_build w _ _ _ (by kernel_rfl)
theorem zWa (w:World):(Instr.build 90 #[]).run Tryz.prog w=.ok (.agg #[D J 0,G E,D J 0]) w:=run_build w _ _ _ (by kernel_rfl)
def parV (o:Option Fg):Value:=match o with | some f=>.tuple #[fgV f,D J 0] | none=>.tuple #[fgV df,D J 6]
set_option maxHeartbeats 6400000 in
set_option maxRecDepth 100000 in
theorem zEE (S:List UInt8) (w:World) :
  Calls Tryz.prog 166 #[W (bA S)] w fun e w'=>e=.returned (parV (zIH S))∧Below w.heap.size w w':=by
 have aa:Below w.heap.size w (w.alloc (.cells #[D J 0,G E,D J 0] 90)):=(Below.refl _ _).alloc (Nat.le_refl _) _;have hk0:Blk (w.alloc (.cells #[D J 0,G E,D J 0] 90)) w.heap.size 90 #[D J 0,G E,D J 0]:=Blk.new _ _ _;go_enter Tryz.func166,Tryz.ntmps166;go_wp2_with fail
 generalize w.alloc (.cells #[D J 0,G E,D J 0] 90)=ZR at aa hk0 ⊢;go_loopw [4] (fun v wr=>∃p:Nat,1≤p∧p≤10∧v=D J p∧Below ZR.heap.size ZR wr∧Hid (∀f,zAx f=Q→f.p < (p:Int)→zAq f≠S)) (fun v _=>10-(intOf v).toNat)
 case atStart=>exact ⟨1,by omega,by omega,rfl,Below.refl _ _,qH (fun f hf h=>by have:=zAP.1 hf;omega)⟩
 case round =>
  obtain ⟨p,ik,hp,rfl,hbr,HP⟩:=hrel;by_cases hlt:p < 10
  ·have i1:(p:Int)≤9:=by omega
   go_wp2_with fail
   go_loopw [5] (fun v w1=>∃d:Nat,d≤7∧v=D J d∧Below ZR.heap.size ZR w1∧Hid (∀f,zAx f=Q→(f.p < (p:Int)∨f.p=(p:Int)∧f.d < (d:Int))→zAq f≠S)) (fun v _=>7-(intOf v).toNat)
   case atStart=>exact ⟨0,by omega,rfl,hbr,qH (fun f hf h=>by rcases h with h | h;exact HP.out f hf h;have:=zAP.1 hf;omega)⟩
   case round =>
    clear hbr;obtain ⟨d,hd,rfl,hbr,HD⟩:=hrel;by_cases hdl:d < 7
    ·have i2:(d:Int)≤6:=by omega
     go_wp2_with fail
     have ab:Below ZR.heap.size ZR (wr.alloc (.cells #[G E,G Q] 4)):=hbr.alloc hbr.size _;have hbb:Blk (wr.alloc (.cells #[G E,G Q] 4)) wr.heap.size 4 #[G E,G Q]:=Blk.new _ _ _;generalize wr.alloc (.cells #[G E,G Q] 4)=X at ab hbb ⊢;generalize wr.heap.size=gb at hbb ⊢;go_loopw [19] (fun v w3=>∃k:Nat,k≤2∧v=D J k∧Below X.heap.size X w3∧Hid (∀f,zAx f=Q→(f.p < (p:Int)∨f.p=(p:Int)∧(f.d < (d:Int)∨f.d=(d:Int)∧(f.r=E∧1≤k∨f.r=Q∧2≤k)))→zAq f≠S)) (fun v _=>2-(intOf v).toNat)
     case atStart=>exact ⟨0,by omega,rfl,Below.refl _ _,qH (fun f hf h=>HD.out f hf (by rcases h with h | ⟨h,h2 | ⟨_,h3⟩⟩;exact .inl h;exact .inr ⟨h,h2⟩;omega))⟩
     case round =>
      clear hbr;obtain ⟨k,hk,rfl,hbr,HK⟩:=hrel;have hbbr:=hbb.below hbr hbb.lt;have ac:=zAa ab hbr ab.size;by_cases hkl:k < 2
      ·obtain ⟨r,hr⟩:∃r:Bool,(k=0∧r=E∨k=1∧r=Q):=by
        rcases (show k=0∨k=1 by omega) with h | h
        ·exact ⟨E,.inl ⟨h,rfl⟩⟩
        ·exact ⟨Q,.inr ⟨h,rfl⟩⟩
       have hcell:wr.cell? ⟨gb,k,U⟩=Z (G r):=by
        rcases hr with ⟨rfl,rfl⟩ | ⟨rfl,rfl⟩
        ·exact (hbbr.cell 0).trans rfl
        ·exact (hbbr.cell 1).trans rfl
       have hth:zAx ⟨(p:Int),r,(d:Int)⟩=Q:=zAP.2 ⟨by simp only;omega,by simp only;omega,by simp only;omega,by simp only;omega⟩;have j0:(0:Int)≤(k:Int):=by omega
       have j1:(k:Int) < 2:=by omega
       have HR:=qH hr;have BY:=qH hth;obtain ⟨NX,AJ⟩:∃T,zAq ⟨(p:Int),r,(d:Int)⟩=T:=⟨_,rfl⟩
       have HN:=qH (fun w=>zUk AJ hth w);have ig:=qH AJ;have ai:Below ZR.heap.size ZR (wr.alloc (.cells #[D J (p:Int),G r,D J (d:Int)] 90)):=ac.alloc ac.size _;have sl:Below X.heap.size X (wr.alloc (.cells #[D J (p:Int),G r,D J (d:Int)] 90)):=hbr.alloc hbr.size _;have dV:Blk (wr.alloc (.cells #[D J (p:Int),G r,D J (d:Int)] 90)) wr.heap.size 90 #[D J (p:Int),G r,D J (d:Int)]:=Blk.new _ _ _;clear hr hth AJ;by_cases hq:NX=S
       ·have hres:=qH (show zIH S=Z ⟨(p:Int),r,(d:Int)⟩ from zFp BY.out (ig.out.trans hq));have n0:((bA NX).toList==(bA S).toList)=Q:=by rw [zFm];simpa using hq
        clear hq;go_wp2_with fail
        refine (HN.out _).mono ?_;rintro e w6 ⟨rfl,ao⟩;have kC:=dV.below ao dV.lt;have be:=zAa ai ao ai.size;have lh:=hk0.below be hk0.lt;obtain ⟨c0,c1,c2⟩:=cQ3 kC;obtain ⟨d0,d1,d2⟩:=cQ3 lh;have z0:=lh.frozen 0;have z1:=lh.frozen 1;have z2:=lh.frozen 2;have hS:=lh.store3 (D J (p:Int)) (G r) (D J (d:Int));have gP:=zGH (zAa aa be aa.size) (Nat.le_refl w.heap.size) (D J (p:Int)) (G r) (D J (d:Int));clear kC lh hcell ao sl dV hbb hbbr;go_wp2_with fail
        (try simp only [Exit.inBlock,Exit.then])
        exact zCk rfl rfl rfl hS Tryz.underlying90 rfl (by kernel_rfl) rfl ⟨by rw [hres.out];rfl,gP⟩
       ·have nj:=qH (show ∀f,zAx f=Q→(f.p < (p:Int)∨f.p=(p:Int)∧(f.d < (d:Int)∨f.d=(d:Int)∧(f.r=E∧1≤k+1∨f.r=Q∧2≤k+1)))→zAq f≠S from fun f hf h=>by
         by_cases h5:f.p < (p:Int)∨f.p=(p:Int)∧(f.d < (d:Int)∨f.d=(d:Int)∧(f.r=E∧1≤k∨f.r=Q∧2≤k))
         ·exact HK.out f hf h5
         ·have hfe:f=⟨(p:Int),r,(d:Int)⟩:=by
           obtain ⟨fp,frr,fd⟩:=f
           simp only at h h5
           rcases h with h | ⟨h1,h | ⟨h2,h3⟩⟩
           ·exact absurd (.inl h) h5
           ·exact absurd (.inr ⟨h1,.inl h⟩) h5
           ·rcases HR.out with ⟨k0,r0⟩ | ⟨k0,r0⟩
            ·rcases h3 with ⟨h3,_⟩ | ⟨_,h4⟩
             ·rw [h1,h2,h3,r0]
             ·omega
            ·rcases h3 with ⟨h3,h4⟩ | ⟨h3,h4⟩
             ·exact absurd (.inr ⟨h1,.inr ⟨h2,.inl ⟨h3,by omega⟩⟩⟩) h5
             ·rw [h1,h2,h3,r0]
          rw [hfe,ig.out];exact hq)
        have n0:((bA NX).toList==(bA S).toList)=E:=by rw [zFm];simpa using hq
        clear hq HK;go_wp2_with fail
        refine (HN.out _).mono ?_;rintro e w6 ⟨rfl,ao⟩;have be:=zAa sl ao sl.size;clear hcell dV hbbr ai;go_wp2_with fail
        go_roundw
        case rel=>exact ⟨k+1,by omega,by go_num,be,nj⟩
        case measure=>simp [intOf];omega
      ·have j1:¬(k:Int) < 2:=by omega
       have HD1:=qH (show ∀f,zAx f=Q→(f.p < (p:Int)∨f.p=(p:Int)∧f.d < ((d+1:Nat):Int))→zAq f≠S from fun f hf h=>HK.out f hf (by
        rcases h with h | ⟨h1,h2⟩
        ·exact .inl h
        ·refine .inr ⟨h1,?_⟩
         by_cases h3:f.d < (d:Int)
         ·exact .inl h3
         ·refine .inr ⟨by omega,?_⟩
          cases e:f.r with
          | false=>exact .inl ⟨rfl,by omega⟩
          | true=>exact .inr ⟨rfl,by omega⟩))
       clear HK HD hbb hbbr;go_wp2_with fail
       go_roundw
       case rel=>exact ⟨d+1,by omega,by go_num,ac,HD1⟩
       case measure=>simp [intOf];omega
    ·have i2:¬(d:Int)≤6:=by omega
     have HP1:=qH (show ∀f,zAx f=Q→f.p < ((p+1:Nat):Int)→zAq f≠S from fun f hf h=>HD.out f hf (by
      have:=zAP.1 hf
      by_cases h1:f.p < (p:Int)
      ·exact .inl h1
      ·exact .inr ⟨by omega,by omega⟩))
     clear HD HP;go_wp2_with fail
     go_roundw
     case rel=>exact ⟨p+1,by omega,by omega,by go_num,hbr,HP1⟩
     case measure=>simp [intOf];omega
  ·have i1:¬(p:Int)≤9:=by omega
   have hres:=qH (show zIH S=U from zPL fun f hf=>HP.out f hf (by have:=zAP.1 hf;omega));have lh:=hk0.below hbr hk0.lt;obtain ⟨d0,d1,d2⟩:=cQ3 lh;have z0:=lh.frozen 0;have z1:=lh.frozen 1;have z2:=lh.frozen 2;have hS:=lh.store3 (D J 0) (G E) (D J 0);have gP:=zGH (zAa aa hbr aa.size) (Nat.le_refl w.heap.size) (D J 0) (G E) (D J 0);clear HP lh;go_wp2_with fail
   (try simp only [Exit.inBlock,Exit.then])
   exact zCk rfl rfl rfl hS Tryz.underlying90 rfl (by kernel_rfl) rfl ⟨by rw [hres.out];rfl,gP⟩
end Go.Proofs.YtlmdfmnbcndhoaaGreatDoor
