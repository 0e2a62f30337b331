/-
  Lemmas, part 11. Conditions: each theorem's own.
-/
import Derived.Test.YtlmdfmnbcndhoaaGreatDoorRc10
import Derived.Test.YtlmdfmnbcndhoaaGreatDoorRc01
open Go.Value renaming bool→G,int→D,slice→H,string→W
open Option renaming none→U,some→Z
open Bool renaming false→E,true→Q
open Go.IntKind renaming i64→J
namespace Go.Proofs.YtlmdfmnbcndhoaaGreatDoor
open Go.RowKit
abbrev zLi (S:List UInt8):Value:=W (bA S)
theorem zJf:(Tryz.prog.info? 9).map (fun i=>(i.zero,i.size,i.bytes))=Z (Z (W ⟨#[]⟩),1,16):=by kernel_rfl
theorem zRH {w:World} {ops:Array Oper} {rest:List Oper} {o:Oper} {a:Act} {ZS:Exit→Act→World→Prop} (hgd:o.guard=U) (s x:Operand)
  (ho:o.op=.call { callee:=.builtin .append,args:=#[s,x],argTypes:=#[112,112] })
  {base:Nat} {A:Option Addr} {n c:Nat} {Ss:List (List UInt8)} (hst:Row w base 1 A n c (Ss.map zLi)) (S:List UInt8)
  (hs:a.eval s=H A n c) (hx:a.eval x=H (Z ⟨w.heap.size,0,U⟩) 1 1) (N:Nat) (hN:n+1=N) (hn:N≤1000000) (hbase:base≤w.heap.size)
  (h:∀A' c' w',Row w' base 1 A' N c' ((Ss++[S]).map zLi)→Below base w w'→wpList Tryz.prog ops ZS rest (a.put o.dst (H A' N c')) w') :
  wpList Tryz.prog ops ZS (o :: rest) a (w.alloc (.cells #[W (bA S)] 9)):=by
 obtain ⟨i0,hi,aT,az,bt⟩:=info_parts zJf;have hbl:=(Below.refl w.heap.size w).alloc (Nat.le_refl _) (.cells #[W (bA S)] 9);have bO:=hst.below hbl
 refine zOy hgd s x 112 ho 9 i0 _ 1 16 Tryz.underlying112 hi aT az bt rfl (by decide) bO (Src.new (m:=1) (cs:=[W (bA S)]) rfl)
  (by intro u hu;simp at hu;subst hu;rfl) hs hx N hN (by unfold maxLen;omega) (by omega) (by simp;omega) ?_
 intro A' c' w' h1 h2 _ _;refine h A' c' w' (by rw [List.map_append];exact h1) ?_;exact ((Below.refl _ _).alloc hbase _).trans (bO.belowOf h2 (by simp;omega))
def zHo (L:List Fg) (O:List Og):List UInt8:=Lib.join (O.map (zDt L)) [32]
theorem zIA {L:List Fg} {re lo:Int} (hv:frOk L re lo) {P:List Sp} (h:∀x∈P,zAR L.length x.s=Q):∀i,i≤P.length→(zDQ L P i).length≤i*50
 | 0,_=>by simp [zDQ]
 | i+1,hi=>by
  have ih:=zIA hv h i (by omega);have hn:=zAC.1 (h _ (List.mem_of_getElem? (zEA (L:=P) (i:=i) (by omega))));have a:=zCt hv hn.1 hn.2.1;have b:=zCB (pa P i).over;have c:(if 0 < i then [44] else []:List UInt8).length≤1:=by split<;>simp
  rw [zDQ,zMx];simp only [List.length_append];omega
theorem zPg {L:List Fg} {re lo:Int} (hv:frOk L re lo) {o:Og} (hr:zAq L.length o=Q):(zDt L o).length≤200+o.path.length*50:=by
 obtain ⟨h1,h8,eX,aP,hpn,hfrn⟩:=zCe hr;have a:=zBH hv eX aP;have b:=zKs o.kind;have c:=zCB o.over;have p:=zIA hv hpn o.path.length (Nat.le_refl _);have t:(zEB L o).length≤100+o.path.length*50:=by
  unfold zEB;by_cases e4:o.kind=4
  ·rw [if_pos e4];omega
  ·rw [if_neg e4];by_cases e3:o.kind=3
   ·rw [if_pos e3];have hn:=zAC.1 (hfrn (.inl e3));have:=zCt hv hn.1 hn.2.1;have q:(if o.path=[] then [] else [60]:List UInt8).length≤1:=by split<;>simp
    simp only [List.length_append];omega
   ·rw [if_neg e3];by_cases e5:o.kind=5
    ·rw [if_pos e5];have hn:=zAC.1 (hfrn (.inr (.inl e5)));have:=zCt hv hn.1 hn.2.1;simp only [List.length_append];omega
    ·rw [if_neg e5];by_cases e6:o.kind=6∨o.kind=7
     ·rw [if_pos e6];have hn:=zAC.1 (hfrn (by omega));have:=zBH hv hn.1 hn.2.1;simp only [List.length_append];omega
     ·rw [if_neg e6];simp
 unfold zDt;simp only [List.length_append];omega
theorem zMy {b:Nat} (sep:List UInt8) (hs:sep.length≤1):∀{xs:List (List UInt8)},(∀x∈xs,x.length≤b)→(Lib.join xs sep).length≤xs.length*(b+1)
 | [],_=>by simp [Lib.join_nil]
 | x :: r,h=>by
  have hx:=h x (List.mem_cons_self ..);have hr:((r.map (sep++·)).flatten).length≤r.length*(b+1):=by
   have hh:∀y∈r,y.length≤b:=fun y hy=>h y (List.mem_cons_of_mem _ hy)
   clear h
   induction r with
   | nil=>simp
   | cons y r ih =>
    have:=ih fun z hz=>hh z (List.mem_cons_of_mem _ hz)
    have hy:=hh y (List.mem_cons_self ..);rw [List.map_cons,List.flatten_cons,List.length_append,List.length_append,List.length_cons,Nat.add_mul];omega
  rw [Lib.join_cons,Lib.joinTail,List.length_append,List.length_cons,Nat.add_mul];omega
theorem zMz {w:World} {base:Nat} {A:Option Addr} {n c:Nat} {Ss:List (List UInt8)} (h:Row w base 1 A n c (Ss.map zLi)) (hn:n≤1000000) (hl:(Lib.join Ss [32]).length≤140737488355328) :
  Calls Tryz.prog 69 #[H A n c,W ⟨#[32]⟩] w fun e w'=>e=.returned (W (bA (Lib.join Ss [32])))∧Below w.heap.size w w':=by
 have hlen:Ss.length=n:=by have:=h.len;simpa using this
 cases A with
 | none =>
  have h0:=h.nil rfl;have h1:=h.cap;obtain rfl:n=0:=by omega
  obtain rfl:Ss=[]:=List.length_eq_zero_iff.1 hlen;refine (Tryz.strings_Join_none U c ⟨#[32]⟩ w).mono ?_;rintro e w' ⟨rfl,rfl⟩;exact ⟨rfl,Below.refl _ _⟩
 | some ad =>
  obtain ⟨h1,_,h3,h4,_⟩:=h.at_ ad rfl;have hx:(Ss.map bA).length=n:=by rw [List.length_map];exact hlen
  have hm:(Ss.map bA).map (fun x:ByteArray=>x.data.toList)=Ss:=by
   rw [List.map_map]
   conv=>rhs;rw [←List.map_id Ss]
   apply List.map_congr_left;intro x _;exact zDM x
  have hj:=Tryz.strings_Join ad.block ad.off c (Ss.map bA) ⟨#[32]⟩ w (fun j x hxj=>h4 j _ (by
   rw [List.getElem?_map] at hxj ⊢
   cases e:Ss[j]? with
   | none=>rw [e] at hxj;cases hxj
   | some y=>rw [e] at hxj;simp only [Option.map_some,Option.some.injEq] at hxj ⊢;show Value.string (bA y)=_;rw [hxj])) h3 (by omega) (by rw [hx];exact h.cap) (by rw [hm];exact hl)
  rw [hx,hm] at hj;rw [zIU h1];exact hj
def zRq (L:List Fg) (re lo:Int) (O:List Og):Int:=if zBi L re lo O=0 then (if O.all (zDI L) then 0 else 8) else zBi L re lo O
def zUi (L:List Fg) (re lo:Int) (O:List Og):List UInt8:=if zRq L re lo O=0 then zHo L O else []
theorem zVV {A:Option Addr} {n c:Nat} {L:List Fg} {re lo:Int} {o:Og} {q:Bool} (h:zDI L o=q) (B:Option Addr) (m d:Nat) (w:World) (hA:Fgs w A n L) (hO:OpIn w o B m d) (hr:zAq n o=Q) :
  Calls Tryz.prog 67 #[frV A n c re lo,opV o B m d] w fun e w'=>e=.returned (G q)∧Below w.heap.size w w':=by
 subst h;exact zKq A n c L re lo o B m d w hA hO hr
theorem zUj {A:Option Addr} {n c:Nat} {L:List Fg} {re lo:Int} {o:Og} {S:List UInt8} (h:zDt L o=S) (B:Option Addr) (m d:Nat) (w:World) (hA:Fgs w A n L) (hv:frOk L re lo) (hO:OpIn w o B m d) (hr:zAq n o=Q) (hm:m≤10000) :
  Calls Tryz.prog 68 #[frV A n c re lo,opV o B m d] w fun e w'=>e=.returned (W (bA S))∧Below w.heap.size w w':=by
 subst h;exact zNG A n c L re lo o B m d w hA hv hO hr hm
theorem zUk {L:List Fg} {re lo:Int} {Es:List Oe} {i:Nat} (h0:zBi L re lo (Es.map (·.o))=0) (hi:i < Es.length) (h:zDI L (oa Es i).o=E):zRq L re lo (Es.map (·.o))=8:=by
 have:(Es.map (·.o)).all (zDI L)=E:=by
  cases e:(Es.map (·.o)).all (zDI L) with
  | false=>rfl
  | true=>rw [List.all_eq_true] at e;have:=e _ (List.mem_map_of_mem (List.mem_of_getElem? (zCZ hi)));rw [h] at this;cases this
 unfold zRq;rw [if_pos h0,this];rfl
theorem zUl {L:List Fg} {re lo:Int} {Es:List Oe} (h0:zBi L re lo (Es.map (·.o))=0) (h:∀i,i < Es.length→zDI L (oa Es i).o=Q):zRq L re lo (Es.map (·.o))=0:=by
 have:(Es.map (·.o)).all (zDI L)=Q:=by
  rw [List.all_eq_true];intro x hx;obtain ⟨e,he,rfl⟩:=List.mem_map.1 hx;obtain ⟨i,hi⟩:=List.getElem?_of_mem he;have hlt:=(List.getElem?_eq_some_iff.1 hi).1;have h2:=h i hlt;have h3:=zCZ hlt;rw [hi] at h3;injection h3 with h3
  rw [h3];exact h2
 unfold zRq;rw [if_pos h0,this];rfl
set_option maxHeartbeats 6400000 in
set_option maxRecDepth 100000 in
theorem zLG (A:Option Addr) (n c:Nat) (L:List Fg) (re lo:Int) (B:Option Addr) (m d:Nat) (Es:List Oe) (w:World) (hA:Fgs w A n L) (hc:n≤c) (hO:Oprs w B m Es) (hm:m≤10000) (hf:zVU Es) :
  Calls Tryz.prog 28 #[frV A n c re lo,H B m d] w fun e w'=>e=.returned (.tuple #[W (bA (zUi L re lo (Es.map (·.o)))),D J (zRq L re lo (Es.map (·.o)))])∧Below w.heap.size w w':=by
 have aN:=qH hO.len;have fI:=qH hA.len;have aa:Below w.heap.size w (w.alloc (.cells #[H A n c,D J re,D J lo] 24)):=(Below.refl _ _).alloc (Nat.le_refl _) _;have hk0:Blk (w.alloc (.cells #[H A n c,D J re,D J lo] 24)) w.heap.size 24 #[H A n c,D J re,D J lo]:=Blk.new _ _ _;have hC:=zEI A n c L re lo B m d Es _ (hA.below aa) hc (hO.below aa);have hcase:=zDP L re lo (Es.map (·.o));obtain ⟨ZT,hE⟩:∃ZT,zBi L re lo (Es.map (·.o))=ZT:=⟨_,rfl⟩
 rw [hE] at hcase hC;have HC:=qH hC;have HE:=qH hE;have pI:=qH hf;clear hE hC hf;rcases hcase with ⟨rfl,hfr,hro⟩ | rfl
 ·have hri:∀i,i < m→zAq n (oa Es i).o=Q:=fun i hi=>by
   have:=hro _ (List.mem_map_of_mem (List.mem_of_getElem? (zCZ (L:=Es) (i:=i) (by rw [aN.out];exact hi))));rw [fI.out] at this;exact this
  have zT:=qH hri;clear hro hri;go_enter Tryz.func28,Tryz.ntmps28;go_wp2_with fail
  refine HC.out.mono ?_;rintro e w2 ⟨rfl,ab⟩;have ac:=zAa aa ab aa.size;have hk2:=hk0.below ab hk0.lt;have dn:=hA.below ac;have fP:=hO.below ac;clear HC aa hk0 ab;go_wp2_with fail
  go_loopw [7,18] (fun v7 v wr=>∃(i:Nat) (A':Option Addr) (c':Nat) (Ss:List (List UInt8)),i≤m∧v=D J i∧v7=H A' i c'∧Row wr w2.heap.size 1 A' i c' (Ss.map zLi)∧Below w2.heap.size w2 wr∧Hid (Ss=(Es.take i).map fun e=>zDt L e.o)∧Hid (∀j:Nat,j < i→zDI L (oa Es j).o=Q)∧w2.heap.size≤wr.heap.size) (fun _ v _=>m-(intOf v).toNat)
  case atStart=>exact ⟨0,U,0,[],Nat.zero_le _,rfl,rfl,Row.none_ _ _ _,Below.refl _ _,qH (by simp),qH (fun j hj=>by omega),Nat.le_refl _⟩
  case round =>
   obtain ⟨i,A',c',Ss,hi,rfl,rfl,hR,hbr,HT,HS,hzr⟩:=hrel;have hkr:=hk2.below hbr hk2.lt;by_cases hlt:i < m
   ·obtain ⟨g,p,rfl,hg,⟨x0,x1,x2,x3,x4,x5,x6,x7⟩,hin⟩:=(fP.below hbr).at_ hlt;have j0:(0:Int)≤(i:Int):=by omega
    have j1:(i:Int) < (m:Int):=by omega
    have pq:=zCZ (L:=Es) (i:=i) (by rw [aN.out];exact hlt);have hpn:=pI.out _ (List.mem_of_getElem? pq);have hri:=zT.out i hlt;have hsn:((Es.take (i+1)).map fun e=>zDt L e.o)=((Es.take i).map fun e=>zDt L e.o)++[zDt L (oa Es i).o]:=by
     rw [List.take_add_one,pq];simp
    obtain ⟨q,hq⟩:∃q,zDI L (oa Es i).o=q:=⟨_,rfl⟩
    have HQ:=qH hq;generalize oa Es i=x at x0 x1 x2 x3 x4 x5 x6 x7 hin hpn hri hsn pq hq;obtain ⟨⟨kind,f,⟨ff,fl,ffar,fpc⟩,path,over⟩,PA,pn,pc⟩:=x;simp only at x0 x1 x2 x3 x4 x5 x6 x7 hin hpn hri hsn hq;obtain ⟨IT,mL⟩:∃X,zDt L ⟨kind,f,⟨ff,fl,ffar,fpc⟩,path,over⟩=X:=⟨_,rfl⟩
    rw [mL] at hsn;have HT1:=qH (show Ss++[IT]=(Es.take (i+1)).map fun e=>zDt L e.o by rw [hsn,HT.out]);have ai:Below w2.heap.size w2 (wr.alloc (.cells #[D J kind,D J f,D J ff,D J fl,G ffar,D J fpc,H PA pn pc,G over] 32)):=hbr.alloc hbr.size _;have EX:=hR.alloc (.cells #[D J kind,D J f,D J ff,D J fl,G ffar,D J fpc,H PA pn pc,G over] 32);have gk:=hkr.alloc (.cells #[D J kind,D J f,D J ff,D J fl,G ffar,D J fpc,H PA pn pc,G over] 32);have wh:Blk (wr.alloc (.cells #[D J kind,D J f,D J ff,D J fl,G ffar,D J fpc,H PA pn pc,G over] 32)) wr.heap.size 32 #[D J kind,D J f,D J ff,D J fl,G ffar,D J fpc,H PA pn pc,G over]:=Blk.new _ _ _;have mi:=hin.below ((Below.refl wr.heap.size wr).alloc (Nat.le_refl _) (.cells #[D J kind,D J f,D J ff,D J fl,G ffar,D J fpc,H PA pn pc,G over] 32));have oj:=qH (zVV (c:=c) (re:=re) (lo:=lo) hq PA pn pc _ (dn.below ai) mi hri);have fo:=qH (fun wx (eq:Fgs wx A n L) hOx=>zUj (c:=c) mL PA pn pc wx eq hfr hOx hri hpn);have y0:=(gk.cell 0).trans rfl;have y1:=(gk.cell 1).trans rfl;have y2:=(gk.cell 2).trans rfl;clear mL hsn hin hpn hri pq hq HT
    cases q with
    | false =>
     have hr:=qH (zUk (L:=L) (re:=re) (lo:=lo) (Es:=Es) (i:=i) HE.out (by rw [aN.out];exact hlt) HQ.out);go_wp2_with fail
     refine oj.out.mono ?_;rintro e w6 ⟨rfl,ao⟩;have bE:=zAa ai ao ai.size;clear y0 y1 y2 x0 x1 x2 x3 x4 x5 x6 x7;go_wp2_with fail
     go_ret2;exact ⟨by unfold zUi;rw [hr.out];rfl,zAa ac bE ac.size⟩
    | true =>
     have et:=qH (show ∀j:Nat,j < i+1→zDI L (oa Es j).o=Q from fun j hj=>by
      rcases Nat.decEq j i with e | e
      ·exact HS.out j (by omega)
      ·subst e;exact HQ.out)
     clear HS HQ;go_wp2_with fail
     refine oj.out.mono ?_;rintro e w6 ⟨rfl,ao⟩;have bE:=zAa ai ao ai.size;have EW:=EX.below ao;have uJ:=gk.below ao gk.lt;have oU:=wh.below ao wh.lt;have wB:=mi.below ao;have z0:=(uJ.cell 0).trans rfl;have z1:=(uJ.cell 1).trans rfl;have z2:=(uJ.cell 2).trans rfl;have v0:=(oU.cell 0).trans rfl;have v1:=(oU.cell 1).trans rfl;have v2:=(oU.cell 2).trans rfl;have v3:=(oU.cell 3).trans rfl;have v4:=(oU.cell 4).trans rfl;have v5:=(oU.cell 5).trans rfl;have v6:=(oU.cell 6).trans rfl;have v7:=(oU.cell 7).trans rfl;clear y0 y1 y2 x0 x1 x2 x3 x4 x5 x6 x7 EX gk wh mi hR hbr hkr oj;go_wp2_with fail
     refine (fo.out _ (dn.below bE) wB).mono ?_;rintro e w8 ⟨rfl,bg⟩;have EV:=EW.below bg;have aJ:=zAa bE bg bE.size;have uF:w2.heap.size≤w8.heap.size:=aJ.size;clear z0 z1 z2 v0 v1 v2 v3 v4 v5 v6 v7 EW uJ oU wB ao bE ai fo;go_wp2_with (at_builtin;refine zRH rfl _ _ rfl EV IT rfl rfl (i+1) rfl (by omega) uF ?_;intro A2 c2 w9 hR9 bH)
     have wN:=aJ.trans bH;have AO:w2.heap.size≤w9.heap.size:=wN.size;clear EV bg aJ bH;go_wp2_with fail
     go_roundw
     case rel=>exact ⟨i+1,A2,c2,Ss++[IT],by omega,by go_num,rfl,hR9,wN,HT1,et,AO⟩
     case measure=>simp [intOf];omega
   ·have j1:¬(i:Int) < (m:Int):=by omega
    have hin:i=m:=by omega
    have pe:Ss=(Es.map (·.o)).map (zDt L):=by
     rw [HT.out,hin,←aN.out,List.take_length,List.map_map];rfl
    have hr:=qH (zUl (L:=L) (re:=re) (lo:=lo) (Es:=Es) HE.out (fun j hj=>HS.out j (by rw [aN.out] at hj;omega)));have hjl:(Lib.join Ss [32]).length≤140737488355328:=by
     have hb:∀x∈Ss,x.length≤600000:=by
      rw [pe];intro x hx;obtain ⟨o,ho,rfl⟩:=List.mem_map.1 hx;obtain ⟨e,he,rfl⟩:=List.mem_map.1 ho;obtain ⟨k,hk⟩:=List.getElem?_of_mem he;have hlk:=(List.getElem?_eq_some_iff.1 hk).1;have hkk:=zCZ hlk;rw [hk] at hkk;injection hkk with hkk
      have hri:=zT.out k (by rw [←aN.out];exact hlk);rw [←hkk] at hri;have h1:=zPg hfr (o:=e.o) (by rw [fI.out];exact hri);have h2:=pI.out e he;have h3:=(fP.2 e he).path.len;omega
     have:=zMy [32] (by simp) hb;have hl:Ss.length=m:=by rw [pe];simp;exact aN.out
     rw [hl] at this;have:m*(600000+1)≤10000*600001:=Nat.mul_le_mul hm (by omega);omega
    have HJ:=qH (zMz hR (by omega) hjl);have HR:=qH (show Lib.join Ss [32]=zUi L re lo (Es.map (·.o)) by unfold zUi;rw [hr.out,if_pos rfl];unfold zHo;rw [pe]);clear hin HT HS pe hjl hkr;go_wp2_with fail
    refine HJ.out.mono ?_;rintro e w8 ⟨rfl,bg⟩;have aJ:Below w.heap.size w w8:=zAa ac (zAa hbr bg hzr) ac.size;go_wp2_with fail
    go_ret2;exact ⟨by rw [HR.out,hr.out];rfl,aJ⟩
 ·have hr:=qH (show zRq L re lo (Es.map (·.o))=2 by unfold zRq;rw [HE.out];rfl);go_enter Tryz.func28,Tryz.ntmps28;go_wp2_with fail
  refine HC.out.mono ?_;rintro e w2 ⟨rfl,ab⟩;have ac:=zAa aa ab aa.size;go_wp2_with fail
  go_ret2;exact ⟨by unfold zUi;rw [hr.out];rfl,ac⟩
end Go.Proofs.YtlmdfmnbcndhoaaGreatDoor
namespace Go.Proofs.YtlmdfmnbcndhoaaGreatDoor
theorem zPh {p:Nat→Bool} {n:Nat} (h:∀i j,i < n→j < n→p i=Q→p j=Q→i=j):zAf p n≤1:=by
 rcases Nat.eq_zero_or_pos (zAf p n) with h0 | h0
 ·omega
 ·obtain ⟨i,hi,hp⟩:=zTT h0;rw [zIt hi hp (fun m hm hpm=>h m i hm hi hpm hp)];omega
theorem zRI {p:Nat→Bool} {n:Nat} (h:0 < zAf p n):∃i,i < n∧p i=Q∧∀j,j < i→p j=E:=by
 induction n with
 | zero=>simp [zAf] at h
 | succ n ih =>
  by_cases h0:0 < zAf p n
  ·obtain ⟨i,hi,r⟩:=ih h0;exact ⟨i,by omega,r⟩
  ·cases hp:p n with
   | false=>rw [zAp hp] at h;omega
   | true =>
    refine ⟨n,by omega,hp,fun j hj=>?_⟩
    cases hq:p j with
    | false=>rfl
    | true=>have:=zKd hj hq;omega
theorem zPi (n:Nat):zGJ (fun _=>1) n=n:=by
 induction n with
 | zero=>rfl
 | succ n ih=>simp only [zGJ];rw [ih]
theorem zBA {L:List Lt} {i:Nat}:crB L i=Q↔(isC (la L i)=Q→(1≤(la L i).id∧(la L i).id≤((cN L L.length / 2:Nat):Int))∧∀j,j < i→isC (la L j)=Q→(la L j).id=(la L i).id→(la L j).over≠(la L i).over∧(la L j).sign=(la L i).sign):=by
 unfold crB
 cases h:isC (la L i) with
 | false=>simp
 | true =>
  simp only [Bool.not_true,Bool.false_or,Bool.and_eq_true,decide_eq_true_eq,zAF,forall_const];refine and_congr_right fun _=>forall_congr' fun j=>forall_congr' fun _=>?_
  cases h2:isC (la L j)<;>simp
  by_cases h3:(la L j).id=(la L i).id<;>simp [h3]
theorem zCf {L:List Lt} {i:Nat}:rkB L i=Q↔(isP (la L i)=Q→(1≤(la L i).rank∧(la L i).rank≤(gN L (la L i).gate L.length:Int))∧∀j,j < i→isP (la L j)=Q→(la L j).gate=(la L i).gate→(la L j).rank≠(la L i).rank):=by
 unfold rkB
 cases h:isP (la L i) with
 | false=>simp
 | true =>
  simp only [Bool.not_true,Bool.false_or,Bool.and_eq_true,decide_eq_true_eq,zAF,forall_const];refine and_congr_right fun _=>forall_congr' fun j=>forall_congr' fun _=>?_
  cases h2:isP (la L j)<;>simp [keyB]
  by_cases h3:(la L j).gate=(la L i).gate<;>simp [h3]
theorem zPj {L:List Lt} {n:Nat} (h:∀i,i < n→isC (la L i)=Q→1≤(la L i).id∧(la L i).id≤((cN L L.length / 2:Nat):Int)) :
  cN L n=zGJ (fun d=>tN L ((d+1:Nat):Int) n) (cN L L.length / 2):=by
 unfold cN
 rw [zEh (p:=fun i=>isC (la L i)) (c:=fun i=>((la L i).id-1).toNat) (n:=n) (k:=cN L L.length / 2) (by
  intro m hm hc
  have:=h m hm hc
  omega)]
 refine zEg fun d _=>zFa fun m hm=>?_
 cases hc:isC (la L m) with
 | false=>rfl
 | true =>
  have:=h m hm hc;simp only [Bool.true_and];rw [Bool.eq_iff_iff];simp;omega
theorem zEi {L:List Lt} (h:∀i,i < L.length→crB L i=Q) {i j:Nat} (hi:i < L.length) (hj:j < L.length) (hci:isC (la L i)=Q) (hcj:isC (la L j)=Q) (hid:(la L i).id=(la L j).id) (hne:i≠j) :
  (la L i).over≠(la L j).over∧(la L i).sign=(la L j).sign:=by
 rcases Nat.lt_or_gt_of_ne hne with hlt | hlt
 ·exact (zBA.1 (h j hj) hcj).2 i hlt hci hid
 ·have:=(zBA.1 (h i hi) hci).2 j hlt hcj hid.symm;exact ⟨fun e=>this.1 e.symm,this.2.symm⟩
theorem zJg (L:List Lt) (d:Int) (b:Bool) (n:Nat):tN L d n=zAf (fun m=>isC (la L m)&&(la L m).id==d&&(la L m).over==b) n+zAf (fun m=>isC (la L m)&&(la L m).id==d&&(la L m).over != b) n:=by
 unfold tN;refine zOD (fun m _=>?_) (fun m _=>?_)
 ·cases (la L m).over<;>cases b<;>simp
 ·rintro ⟨h1,h2⟩;simp at h1 h2;exact h2.2 h1.2
theorem zJh {L:List Lt} (h:∀i,i < L.length→crB L i=Q) (d:Int) (p:Bool→Bool) (hp:∀a b,p a=Q→p b=Q→a=b):zAf (fun m=>isC (la L m)&&(la L m).id==d&&p (la L m).over) L.length≤1:=by
 refine zPh fun i j hi hj h1 h2=>?_
 simp at h1 h2;rcases Nat.decEq i j with e | e
 ·exact absurd (hp _ _ h1.2 h2.2) (zEi h hi hj h1.1.1 h2.1.1 (by rw [h1.1.2,h2.1.2]) e).1
 ·exact e
theorem zXx {L:List Lt} (h:∀i,i < L.length→crB L i=Q) (d:Int):tN L d L.length≤2:=by
 rw [zJg L d Q];have h1:=zJh h d (fun o=>o==Q) (by simp);have h2:=zJh h d (fun o=>o != Q) (by simp);omega
theorem zPk {L:List Lt} (he:cN L L.length % 2=0) (h:∀i,i < L.length→crB L i=Q) {d:Nat} (hd:d < cN L L.length / 2):tN L ((d+1:Nat):Int) L.length=2:=by
 have hs:=zPj (L:=L) (n:=L.length) (fun i hi hc=>(zBA.1 (h i hi) hc).1);exact zOF (f:=fun d=>tN L ((d+1:Nat):Int) L.length) (c:=2) (fun i _=>zXx h _) (by omega) d hd
theorem zVW {L:List Lt} (h:zBR L=Q):dN L L.length=cN L L.length / 2:=by
 unfold zBR at h;simp only [Bool.and_eq_true,decide_eq_true_eq,zAF] at h;obtain ⟨he,h⟩:=h;unfold dN
 rw [zEh (p:=nwB L) (c:=fun i=>((la L i).id-1).toNat) (n:=L.length) (k:=cN L L.length / 2) (by
  intro m hm hc
  unfold nwB at hc
  simp at hc
  have:=(zBA.1 (h m hm) hc.1).1
  omega)]
 refine Eq.trans (zEg (g:=fun _=>1) fun d hd=>?_) (zPi _);have ht:=zPk he h hd;obtain ⟨i,hi,hp,hno⟩:=zRI (p:=fun i=>isC (la L i)&&(la L i).id==((d+1:Nat):Int)) (n:=L.length) (by unfold tN at ht;omega);simp at hp;refine zIt hi ?_ (fun m hm hpm=>?_)
 ·simp only [Bool.and_eq_true,beq_iff_eq];refine ⟨?_,by omega⟩;unfold nwB;simp only [Bool.and_eq_true,zAF];refine ⟨hp.1,fun j hj=>?_⟩;have:=hno j hj;rw [hp.2];simp only [Bool.not_eq_true'];exact this
 ·simp only [Bool.and_eq_true,beq_iff_eq] at hpm;obtain ⟨hnw,hcl⟩:=hpm;unfold nwB at hnw;simp only [Bool.and_eq_true,zAF] at hnw;have hb:=(zBA.1 (h m hm) hnw.1).1;have hid:(la L m).id=((d+1:Nat):Int):=by omega
  rcases Nat.lt_trichotomy m i with hlt | rfl | hgt
  ·have:=hno m hlt;simp [hnw.1] at this;omega
  ·rfl
  ·have:=hnw.2 i hgt;simp [hp.1] at this;omega
theorem zCC (K:Int) (L:List Lt):(zAB K L&&zCy L&&zBR L)=zBF K L:=by
 rw [Bool.eq_iff_iff];unfold zAB zCy zBR zBF;simp only [Bool.and_eq_true,decide_eq_true_eq,zAF];constructor
 ·rintro ⟨⟨hl,hr⟩,he,hc⟩ i hi;have hli:=hl i hi;unfold lpB at hli;unfold rlB;by_cases h1:(la L i).kind=1
  ·rw [if_pos h1] at hli ⊢;have hpi:isP (la L i)=Q:=by unfold isP;simp [h1]
   have hri:=zCf.1 (hr i hi) hpi;simp only [decide_eq_true_eq] at hli ⊢;refine ⟨hli.2.2.1,hli.2.2.2.1,hli.2.2.2.2,hli.1,hli.2.1,hri.1.1,hri.1.2,?_⟩;refine zIt hi (by simp [smB]) (fun m hm hs=>?_);simp [smB] at hs;have hpm:isP (la L m)=Q:=by unfold isP;simp [hs.1.1,h1]
   rcases Nat.lt_trichotomy m i with hlt | rfl | hgt
   ·exact absurd hs.2 (hri.2 m hlt hpm hs.1.2)
   ·rfl
   ·exact absurd hs.2.symm ((zCf.1 (hr m hm) hpm).2 i hgt hpi hs.1.2.symm)
  ·rw [if_neg h1] at hli ⊢;by_cases h2:(la L i).kind=2
   ·rw [if_pos h2] at hli ⊢;have hci:isC (la L i)=Q:=by unfold isC;simp [h2]
    have hcr:=zBA.1 (hc i hi) hci;simp only [decide_eq_true_eq] at hli ⊢;have ht:tN L (la L i).id L.length=2:=by
     have hd:((la L i).id-1).toNat < cN L L.length / 2:=by omega
     have:=zPk he hc hd
     rwa [show ((((la L i).id-1).toNat+1:Nat):Int)=(la L i).id by omega] at this
    refine ⟨hli.1,hli.2.1,hli.2.2,hcr.1.1,hcr.1.2,?_,ht⟩;have hs:=zJg L (la L i).id (la L i).over L.length;have o1:=zJh hc (la L i).id (fun o=>o==(la L i).over) (by simp);have o2:=zJh hc (la L i).id (fun o=>o != (la L i).over) (by intro a b;cases a<;>cases b<;>cases (la L i).over<;>simp);have he:prN L (la L i) L.length=zAf (fun m=>isC (la L m)&&(la L m).id==(la L i).id&&(la L m).over != (la L i).over) L.length:=by
     refine zFa fun m hm=>?_
     unfold prB;rw [Bool.eq_iff_iff];simp only [Bool.and_eq_true,beq_iff_eq,bne_iff_ne,isC];constructor
     ·rintro ⟨⟨⟨a,b⟩,c⟩,d⟩;exact ⟨⟨a.trans h2,b⟩,d⟩
     ·rintro ⟨⟨a,b⟩,d⟩;refine ⟨⟨⟨a.trans h2.symm,b⟩,?_⟩,d⟩;have hcm:isC (la L m)=Q:=by unfold isC;simp [a]
      exact (zEi hc hm hi hcm hci b (fun e=>d (by rw [e]))).2
    omega
   ·rw [if_neg h2] at hli;cases hli
 ·intro h;have hl:∀i,i < L.length→lpB K (la L i)=Q:=by
   intro i hi;have:=h i hi;unfold rlB at this;unfold lpB;by_cases h1:(la L i).kind=1
   ·rw [if_pos h1] at this ⊢;simp only [decide_eq_true_eq] at this ⊢;exact ⟨this.2.2.2.1,this.2.2.2.2.1,this.1,this.2.1,this.2.2.1⟩
   ·rw [if_neg h1] at this ⊢;by_cases h2:(la L i).kind=2
    ·rw [if_pos h2] at this ⊢;simp only [decide_eq_true_eq] at this ⊢;exact ⟨this.1,this.2.1,this.2.2.1⟩
    ·rw [if_neg h2] at this;cases this
  have hcx:∀i,i < L.length→isC (la L i)=Q→(1≤(la L i).id∧(la L i).id≤((cN L L.length / 2:Nat):Int))∧prN L (la L i) L.length=1∧tN L (la L i).id L.length=2:=by
   intro i hi hc;have:=h i hi;unfold isC at hc;simp at hc;unfold rlB at this;rw [if_neg (by omega),if_pos hc] at this;simp only [decide_eq_true_eq] at this;exact ⟨⟨this.2.2.2.1,this.2.2.2.2.1⟩,this.2.2.2.2.2.1,this.2.2.2.2.2.2⟩
  refine ⟨⟨hl,fun i hi=>zCf.2 fun hp=>?_⟩,?_,fun i hi=>zBA.2 fun hci=>⟨(hcx i hi hci).1,fun j hj hcj hid=>?_⟩⟩
  ·have hk:(la L i).kind=1:=by unfold isP at hp;simpa using hp
   have:=h i hi;unfold rlB at this;rw [if_pos hk] at this;simp only [decide_eq_true_eq] at this;refine ⟨⟨this.2.2.2.2.2.1,this.2.2.2.2.2.2.1⟩,fun j hj hpj hg hr=>?_⟩;have hkj:(la L j).kind=1:=by unfold isP at hpj;simpa using hpj
   have:=zOE (p:=fun j=>smB (la L i) (la L j)) (Nat.le_of_eq this.2.2.2.2.2.2.2) (i:=i) (j:=j) hi (by omega) (by simp [smB]) (by simp [smB,hk,hkj,hg,hr]);omega
  ·rw [zPj (fun i hi hc=>(hcx i hi hc).1)];refine zOG fun d _=>?_
   rcases Nat.eq_zero_or_pos (tN L ((d+1:Nat):Int) L.length) with h0 | h0
   ·rw [h0]
   ·obtain ⟨m,hm,hp⟩:=zTT h0;simp at hp;have:=(hcx m hm hp.1).2.2;rw [hp.2] at this;rw [show ((d+1:Nat):Int)=(d:Int)+1 by omega,this]
  ·obtain ⟨_,hpr,ht⟩:=hcx i hi hci;have hs:=zJg L (la L i).id (la L i).over L.length;have hsub:∀m,m < L.length→prB (la L i) (la L m)=Q→(isC (la L m)&&(la L m).id==(la L i).id&&(la L m).over != (la L i).over)=Q:=by
    intro m _ hp;unfold isC at hci;simp [prB] at hp hci;simp [isC,hp.1.1.1,hci,hp.1.1.2,hp.2]
   have hle:=zTn hsub;have h1:=zKd (p:=fun m=>isC (la L m)&&(la L m).id==(la L i).id&&(la L m).over==(la L i).over) hi (by simp [hci]);unfold prN at hpr;have hov:(la L j).over≠(la L i).over:=by
    intro e;have:=zOE (p:=fun m=>isC (la L m)&&(la L m).id==(la L i).id&&(la L m).over==(la L i).over) (n:=L.length) (by omega) (i:=i) (j:=j) hi (by omega) (by simp [hci]) (by simp [hcj,hid,e]);omega
   refine ⟨hov,?_⟩;have:=zTU hsub (by omega) j (by omega) (by simp [hcj,hid,hov]);simp [prB] at this;exact this.1.2
theorem zIB (L:List Lt) (i:Nat) (q:Nat→Bool):∀X:List Nat,(zKe L i X).countP q=X.countP q+(if q i then 1 else 0)
 | []=>by simp [zKe,List.countP_cons]
 | x :: X=>by
  unfold zKe;split
  ·rw [List.countP_cons,List.countP_cons,zIB L i q X];omega
  ·rw [List.countP_cons,List.countP_cons]
theorem zNH (L:List Lt) (q:Nat→Bool) (m:Nat):(zJY L m).countP q=zAf (fun j=>isP (la L j)&&q j) m:=by
 induction m with
 | zero=>rfl
 | succ m ih =>
  unfold zJY zAf
  cases h:isP (la L m) with
  | true=>rw [if_pos rfl,zIB,ih];simp
  | false=>simp [ih]
theorem zMA (L:List Lt) (i:Nat):∀X:List Nat,(zKe L i X).length=X.length+1
 | []=>rfl
 | x :: X=>by unfold zKe;split<;>simp [zMA L i X]
theorem zRJ (L:List Lt) (m:Nat):(zJY L m).length=pN L m:=by
 induction m with
 | zero=>rfl
 | succ m ih =>
  unfold zJY pN zAf
  cases h:isP (la L m) with
  | true=>rw [if_pos rfl,zMA,ih];simp [pN]
  | false=>simp [ih,pN]
theorem zEJ (L:List Lt):(axL L).length=pN L L.length:=zRJ L _
theorem zJi (L:List Lt) (i x:Nat):∀X:List Nat,x∈zKe L i X↔x=i∨x∈X
 | []=>by simp [zKe]
 | y :: X=>by
  unfold zKe;split
  ·simp [zJi L i x X];constructor<;>(rintro (h | h | h)<;>simp [h])
  ·simp
theorem zFi (L:List Lt) (x m:Nat):x∈zJY L m↔x < m∧isP (la L x)=Q:=by
 induction m with
 | zero=>simp [zJY]
 | succ m ih =>
  unfold zJY
  cases h:isP (la L m) with
  | true =>
   rw [if_pos rfl,zJi,ih];constructor
   ·rintro (rfl | ⟨h1,h2⟩)
    ·exact ⟨by omega,h⟩
    ·exact ⟨by omega,h2⟩
   ·rintro ⟨h1,h2⟩;rcases Nat.decEq x m with e | e
    ·exact .inr ⟨by omega,h2⟩
    ·exact .inl e
  | false =>
   simp only [Bool.false_eq_true,if_false];rw [ih];constructor
   ·rintro ⟨h1,h2⟩;exact ⟨by omega,h2⟩
   ·rintro ⟨h1,h2⟩;refine ⟨?_,h2⟩;rcases Nat.decEq x m with e | e
    ·omega
    ·subst e;rw [h] at h2;cases h2
theorem zFj {a b:Lt}:zFK a b=Q↔a.gate < b.gate∨(a.gate=b.gate∧a.rank < b.rank):=by unfold zFK;simp
theorem zPl {L:List Lt} {i:Nat}:∀{X:List Nat},X.Pairwise (fun a b=>zFK (la L a) (la L b)=Q)→(∀x∈X,¬((la L x).gate=(la L i).gate∧(la L x).rank=(la L i).rank))→(zKe L i X).Pairwise (fun a b=>zFK (la L a) (la L b)=Q)
 | [],_,_=>by simp [zKe]
 | x :: X,h,hne=>by
  rw [List.pairwise_cons] at h;unfold zKe;split
  ·rename_i hx;rw [List.pairwise_cons];refine ⟨fun y hy=>?_,zPl h.2 (fun y hy=>hne y (by simp [hy]))⟩;rcases (zJi L i y X).1 hy with rfl | hy
   ·exact hx
   ·exact h.1 y hy
  ·rename_i hx;have hix:zFK (la L i) (la L x)=Q:=by
    have hne':=hne x (by simp);rw [zFj] at hx ⊢;omega
   rw [List.pairwise_cons,List.pairwise_cons];refine ⟨fun y hy=>?_,h⟩;rcases List.mem_cons.1 hy with rfl | hy
   ·exact hix
   ·have:=h.1 y hy;rw [zFj] at this hix ⊢;omega
theorem zLH {L:List Lt} (h:∀i,i < L.length→rkB L i=Q):∀m,m≤L.length→(zJY L m).Pairwise (fun a b=>zFK (la L a) (la L b)=Q)
 | 0,_=>by simp [zJY]
 | m+1,hm=>by
  have ih:=zLH h m (by omega);unfold zJY
  cases hp:isP (la L m) with
  | false=>simpa using ih
  | true =>
   rw [if_pos rfl];refine zPl ih fun x hx hk=>?_
   rw [zFi] at hx;exact (zCf.1 (h m (by omega)) hp).2 x hx.1 hx.2 hk.1 hk.2
theorem zKv {L:List Lt} {i:Nat}:∀{X:List Nat} {p:Nat},X.Pairwise (fun a b=>zFK (la L a) (la L b)=Q)→X[p]? = Z i→X.countP (fun j=>zFK (la L j) (la L i))=p
 | [],p,_,h=>by simp at h
 | x :: X,0,h,hx=>by
  simp at hx;subst hx
  rw [List.pairwise_cons] at h;rw [List.countP_cons,List.countP_eq_zero.2]
  ·have:zFK (la L x) (la L x)=E:=by
    cases hq:zFK (la L x) (la L x) with
    | false=>rfl
    | true=>rw [zFj] at hq;omega
   rw [this];rfl
  ·intro y hy hq;have:=h.1 y hy;rw [zFj] at this hq;omega
 | x :: X,p+1,h,hx=>by
  simp at hx;rw [List.pairwise_cons] at h;rw [List.countP_cons,zKv h.2 hx,h.1 i (List.mem_of_getElem? hx)];rfl
def fsN (L:List Lt) (g:Nat):Nat:=zGJ (fun d=>gN L (d:Int) L.length) g
def atN (L:List Lt) (i:Nat):Nat:=fsN L (la L i).gate.toNat+((la L i).rank.toNat-1)
theorem zNI {L:List Lt} (hg:∀i,i < L.length→isP (la L i)=Q→0≤(la L i).gate) (h:∀i,i < L.length→rkB L i=Q) {i:Nat} (hi:i < L.length) (hp:isP (la L i)=Q) :
  zAf (fun j=>isP (la L j)&&zFK (la L j) (la L i)) L.length=atN L i:=by
 rw [zOD (p:=fun j=>isP (la L j)&&decide ((la L j).gate < (la L i).gate)) (q:=fun j=>(isP (la L j)&&(la L j).gate==(la L i).gate)&&decide ((la L j).rank≤(((la L i).rank.toNat-1:Nat):Int)))]
 ·unfold atN;have hr:=(zCf.1 (h i hi) hp).1
  congr 1
  ·rw [zEh (c:=fun j=>(la L j).gate.toNat) (k:=(la L i).gate.toNat) (by
    intro m hm hq
    simp at hq
    have:=hg m hm hq.1
    omega)]
   refine zEg fun d hd=>zFa fun m hm=>?_
   cases hq:isP (la L m) with
   | false=>rfl
   | true =>
    have:=hg m hm hq;simp only [Bool.true_and];rw [Bool.eq_iff_iff];simp;omega
  ·refine zVL (p:=fun j=>isP (la L j)&&(la L j).gate==(la L i).gate) (f:=fun j=>(la L j).rank) ?_ ?_ _ ?_
   ·intro m hm hq;simp at hq;have:=(zCf.1 (h m hm) hq.1).1;rw [hq.2] at this;exact this
   ·intro a b ha hb hqa hqb e;simp at hqa hqb;rcases Nat.lt_trichotomy a b with hlt | rfl | hgt
    ·exact absurd e ((zCf.1 (h b hb) hqb.1).2 a hlt hqa.1 (by rw [hqa.2,hqb.2]))
    ·rfl
    ·exact absurd e.symm ((zCf.1 (h a ha) hqa.1).2 b hgt hqb.1 (by rw [hqa.2,hqb.2]))
   ·have:(la L i).rank≤((zAf (fun j=>isP (la L j)&&(la L j).gate==(la L i).gate) L.length:Nat):Int):=hr.2;omega
 ·intro m hm;have hr:=(zCf.1 (h i hi) hp).1
  cases hq:isP (la L m) with
  | false=>rfl
  | true =>
   simp only [Bool.true_and];rw [Bool.eq_iff_iff];simp [zFK];omega
 ·rintro m _ ⟨h1,h2⟩;simp at h1 h2;omega
theorem zVX {L:List Lt} (hg:∀i,i < L.length→isP (la L i)=Q→0≤(la L i).gate) (h:∀i,i < L.length→rkB L i=Q) {i:Nat} (hi:i < L.length) (hp:isP (la L i)=Q):(axL L)[atN L i]? = Z i:=by
 have hm:i∈axL L:=(zFi L i _).2 ⟨hi,hp⟩;obtain ⟨p,hlt,he⟩:=List.getElem_of_mem hm;have ik:(axL L)[p]? = Z i:=by rw [List.getElem?_eq_getElem hlt,he]
 have:=zKv (zLH h _ (Nat.le_refl _)) ik;rw [zNH,zNI hg h hi hp] at this;rw [this];exact ik
theorem zJj {L:List Lt} (h:∀i,i < L.length→rkB L i=Q):(axL L).Nodup:=by
 refine (zLH h _ (Nat.le_refl _)).imp fun hab e=>?_
 subst e;rw [zFj] at hab;omega
theorem zLI {X:List Nat} (hn:X.Nodup) {p v:Nat} (h:X[p]? = Z v):zTW X v=p:=by
 unfold zTW
 induction X generalizing p with
 | nil=>simp at h
 | cons x X ih =>
  rw [List.nodup_cons] at hn;rw [List.findIdx_cons]
  cases p with
  | zero=>simp at h;subst h;simp
  | succ p =>
   simp at h;have:(x==v)=E:=by simpa using (fun e=>hn.1 (by rw [e];exact List.mem_of_getElem? h):¬x=v)
   rw [this,ih hn.2 h];rfl
end Go.Proofs.YtlmdfmnbcndhoaaGreatDoor
namespace Go.Proofs.YtlmdfmnbcndhoaaGreatDoor
theorem zUm {s:List Bool} {x y:Nat}:sat (s.set x Q) y=(sat s y||decide (x=y)):=by
 unfold sat;rw [List.getElem?_set];by_cases h:x=y
 ·subst h;by_cases hl:x < s.length
  ·simp [hl]
  ·simp [hl]
 ·simp [h]
def unN (s:List Bool):Nat:=s.countP (fun b=>!b)
theorem zJk:∀{s:List Bool} {x:Nat},sat s x=E→unN (s.set x Q)+1=unN s
 | [],x,h=>by simp [sat] at h
 | b :: s,0,h=>by simp [sat] at h;subst h;simp [unN]
 | b :: s,x+1,h=>by
  have:=zJk (s:=s) (x:=x) (by simpa [sat] using h);unfold unN at this ⊢;simp only [List.set_cons_succ,List.countP_cons];omega
theorem zPm {s:List Bool} {x:Nat} (h:sat s x=E):0 < unN s:=by have:=zJk h;omega
theorem zTp (s:List Bool):unN s≤s.length:=List.countP_le_length
end Go.Proofs.YtlmdfmnbcndhoaaGreatDoor
