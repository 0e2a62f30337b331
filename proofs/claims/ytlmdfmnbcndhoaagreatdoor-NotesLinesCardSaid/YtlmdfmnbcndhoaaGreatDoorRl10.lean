/-
  Lemmas, part 10. Conditions: each theorem's own.
-/
import Derived.Test.YtlmdfmnbcndhoaaGreatDoorRl09
import Derived.Test.YtlmdfmnbcndhoaaGreatDoorRl01
namespace Go.Proofs.YtlmdfmnbcndhoaaGreatDoor
open Go.RowKit
abbrev zDo (S:List UInt8):Value:=.string (bA S)
theorem zIF:(Tryz.prog.info? 9).map (fun i=>(i.zero,i.size,i.bytes))=some (some (.string ⟨#[]⟩),1,16):=by kernel_rfl
theorem zLl {w:World} {ops:Array Oper} {rest:List Oper} {o:Oper} {a:Act} {Q:Exit→Act→World→Prop} (hgd:o.guard=none) (s x:Operand)
  (ho:o.op=.call { callee:=.builtin .append,args:=#[s,x],argTypes:=#[112,112] })
  {base:Nat} {A:Option Addr} {n c:Nat} {Ss:List (List UInt8)} (hst:Row w base 1 A n c (Ss.map zDo)) (S:List UInt8)
  (hs:a.eval s=.slice A n c) (hx:a.eval x=.slice (some ⟨w.heap.size,0,none⟩) 1 1) (N:Nat) (hN:n+1=N) (hn:N≤1000000) (hbase:base≤w.heap.size)
  (h:∀A' c' w',Row w' base 1 A' N c' ((Ss++[S]).map zDo)→Below base w w'→wpList Tryz.prog ops Q rest (a.put o.dst (.slice A' N c')) w') :
  wpList Tryz.prog ops Q (o :: rest) a (w.alloc (.cells #[.string (bA S)] 9)):=by
 obtain ⟨i0,hi,ci,be,cH⟩:=info_parts zIF;have hbl:=(Below.refl w.heap.size w).alloc (Nat.le_refl _) (.cells #[.string (bA S)] 9);have cE:=hst.below hbl
 refine zQL hgd s x 112 ho 9 i0 _ 1 16 Tryz.underlying112 hi ci be cH rfl (by decide) cE (Src.new (m:=1) (cs:=[.string (bA S)]) rfl)
  (by intro u hu;simp at hu;subst hu;rfl) hs hx N hN (by unfold maxLen;omega) (by omega) (by simp;omega) ?_
 intro A' c' w' h1 h2 _ _;refine h A' c' w' (by rw [List.map_append];exact h1) ?_;exact ((Below.refl _ _).alloc hbase _).trans (cE.belowOf h2 (by simp;omega))
def zGR (L:List Fg) (O:List Og):List UInt8:=Lib.join (O.map (zCZ L)) [32]
theorem zId {L:List Fg} {re lo:Int} (hv:frOk L re lo) {P:List Sp} (h:∀x∈P,zAm L.length x.s=true):∀i,i≤P.length→(zDs L P i).length≤i*50
 | 0,_=>by simp [zDs]
 | i+1,hi=>by
  have ih:=zId hv h i (by omega);have hn:=zAj.1 (h _ (List.mem_of_getElem? (zCG (L:=P) (i:=i) (by omega))));have a:=zCf hv hn.1 hn.2.1;have b:=zCl (pa P i).over;have c:(if 0 < i then [44] else []:List UInt8).length≤1:=by split<;>simp
  rw [zDs,zMq];simp only [List.length_append];omega
theorem zOO {L:List Fg} {re lo:Int} (hv:frOk L re lo) {o:Og} (hr:zAg L.length o=true):(zCZ L o).length≤200+o.path.length*50:=by
 obtain ⟨h1,h8,eH,bt,hpn,hfrn⟩:=zBc hr;have a:=zBr hv eH bt;have b:=zJZ o.kind;have c:=zCl o.over;have p:=zId hv hpn o.path.length (Nat.le_refl _);have t:(zEc L o).length≤100+o.path.length*50:=by
  unfold zEc;by_cases e4:o.kind=4
  ·rw [if_pos e4];omega
  ·rw [if_neg e4];by_cases e3:o.kind=3
   ·rw [if_pos e3];have hn:=zAj.1 (hfrn (.inl e3));have:=zCf hv hn.1 hn.2.1;have q:(if o.path=[] then [] else [60]:List UInt8).length≤1:=by split<;>simp
    simp only [List.length_append];omega
   ·rw [if_neg e3];by_cases e5:o.kind=5
    ·rw [if_pos e5];have hn:=zAj.1 (hfrn (.inr (.inl e5)));have:=zCf hv hn.1 hn.2.1;simp only [List.length_append];omega
    ·rw [if_neg e5];by_cases e6:o.kind=6∨o.kind=7
     ·rw [if_pos e6];have hn:=zAj.1 (hfrn (by omega));have:=zBr hv hn.1 hn.2.1;simp only [List.length_append];omega
     ·rw [if_neg e6];simp
 unfold zCZ;simp only [List.length_append];omega
theorem zMr {b:Nat} (sep:List UInt8) (hs:sep.length≤1):∀{xs:List (List UInt8)},(∀x∈xs,x.length≤b)→(Lib.join xs sep).length≤xs.length*(b+1)
 | [],_=>by simp [Lib.join_nil]
 | x :: r,h=>by
  have hx:=h x (List.mem_cons_self ..);have hr:((r.map (sep++·)).flatten).length≤r.length*(b+1):=by
   have hh:∀y∈r,y.length≤b:=fun y hy=>h y (List.mem_cons_of_mem _ hy)
   clear h
   induction r with
   | nil=>simp
   | cons y r ih =>
    have:=ih fun z hz=>hh z (List.mem_cons_of_mem _ hz)
    have hy:=hh y (List.mem_cons_self ..);rw [List.map_cons,List.flatten_cons,List.length_append,List.length_append,List.length_cons,Nat.add_mul];omega
  rw [Lib.join_cons,Lib.joinTail,List.length_append,List.length_cons,Nat.add_mul];omega
theorem zMs {w:World} {base:Nat} {A:Option Addr} {n c:Nat} {Ss:List (List UInt8)} (h:Row w base 1 A n c (Ss.map zDo)) (hn:n≤1000000) (hl:(Lib.join Ss [32]).length≤140737488355328) :
  Calls Tryz.prog 69 #[.slice A n c,.string ⟨#[32]⟩] w fun e w'=>e=.returned (.string (bA (Lib.join Ss [32])))∧Below w.heap.size w w':=by
 have hlen:Ss.length=n:=by have:=h.len;simpa using this
 cases A with
 | none =>
  have h0:=h.nil rfl;have h1:=h.cap;obtain rfl:n=0:=by omega
  obtain rfl:Ss=[]:=List.length_eq_zero_iff.1 hlen;refine (Tryz.strings_Join_none none c ⟨#[32]⟩ w).mono ?_;rintro e w' ⟨rfl,rfl⟩;exact ⟨rfl,Below.refl _ _⟩
 | some ad =>
  obtain ⟨h1,_,h3,h4,_⟩:=h.at_ ad rfl;have hx:(Ss.map bA).length=n:=by rw [List.length_map];exact hlen
  have hm:(Ss.map bA).map (fun x:ByteArray=>x.data.toList)=Ss:=by
   rw [List.map_map]
   conv=>rhs;rw [←List.map_id Ss]
   apply List.map_congr_left;intro x _;exact zDq x
  have hj:=Tryz.strings_Join ad.block ad.off c (Ss.map bA) ⟨#[32]⟩ w (fun j x hxj=>h4 j _ (by
   rw [List.getElem?_map] at hxj ⊢
   cases e:Ss[j]? with
   | none=>rw [e] at hxj;cases hxj
   | some y=>rw [e] at hxj;simp only [Option.map_some,Option.some.injEq] at hxj ⊢;show Value.string (bA y)=_;rw [hxj])) h3 (by omega) (by rw [hx];exact h.cap) (by rw [hm];exact hl)
  rw [hx,hm] at hj;rw [zIx h1];exact hj
def zQM (L:List Fg) (re lo:Int) (O:List Og):Int:=if zAF L re lo O=0 then (if O.all (zDn L) then 0 else 8) else zAF L re lo O
def zTL (L:List Fg) (re lo:Int) (O:List Og):List UInt8:=if zQM L re lo O=0 then zGR L O else []
theorem zVA {A:Option Addr} {n c:Nat} {L:List Fg} {re lo:Int} {o:Og} {q:Bool} (h:zDn L o=q) (B:Option Addr) (m d:Nat) (w:World) (hA:Fgs w A n L) (hO:OpIn w o B m d) (hr:zAg n o=true) :
  Calls Tryz.prog 67 #[frV A n c re lo,opV o B m d] w fun e w'=>e=.returned (.bool q)∧Below w.heap.size w w':=by
 subst h;exact zJX A n c L re lo o B m d w hA hO hr
theorem zTM {A:Option Addr} {n c:Nat} {L:List Fg} {re lo:Int} {o:Og} {S:List UInt8} (h:zCZ L o=S) (B:Option Addr) (m d:Nat) (w:World) (hA:Fgs w A n L) (hv:frOk L re lo) (hO:OpIn w o B m d) (hr:zAg n o=true) (hm:m≤10000) :
  Calls Tryz.prog 68 #[frV A n c re lo,opV o B m d] w fun e w'=>e=.returned (.string (bA S))∧Below w.heap.size w w':=by
 subst h;exact zNu A n c L re lo o B m d w hA hv hO hr hm
theorem zTN {L:List Fg} {re lo:Int} {Es:List Oe} {i:Nat} (h0:zAF L re lo (Es.map (·.o))=0) (hi:i < Es.length) (h:zDn L (oa Es i).o=false):zQM L re lo (Es.map (·.o))=8:=by
 have:(Es.map (·.o)).all (zDn L)=false:=by
  cases e:(Es.map (·.o)).all (zDn L) with
  | false=>rfl
  | true=>rw [List.all_eq_true] at e;have:=e _ (List.mem_map_of_mem (List.mem_of_getElem? (zBn hi)));rw [h] at this;cases this
 unfold zQM;rw [if_pos h0,this];rfl
theorem zTO {L:List Fg} {re lo:Int} {Es:List Oe} (h0:zAF L re lo (Es.map (·.o))=0) (h:∀i,i < Es.length→zDn L (oa Es i).o=true):zQM L re lo (Es.map (·.o))=0:=by
 have:(Es.map (·.o)).all (zDn L)=true:=by
  rw [List.all_eq_true];intro x hx;obtain ⟨e,he,rfl⟩:=List.mem_map.1 hx;obtain ⟨i,hi⟩:=List.getElem?_of_mem he;have hlt:=(List.getElem?_eq_some_iff.1 hi).1;have h2:=h i hlt;have h3:=zBn hlt;rw [hi] at h3;injection h3 with h3
  rw [h3];exact h2
 unfold zQM;rw [if_pos h0,this];rfl
set_option maxHeartbeats 6400000 in
set_option maxRecDepth 100000 in
theorem zLm (A:Option Addr) (n c:Nat) (L:List Fg) (re lo:Int) (B:Option Addr) (m d:Nat) (Es:List Oe) (w:World) (hA:Fgs w A n L) (hc:n≤c) (hO:Oprs w B m Es) (hm:m≤10000) (hf:zTJ Es) :
  Calls Tryz.prog 28 #[frV A n c re lo,.slice B m d] w fun e w'=>e=.returned (.tuple #[.string (bA (zTL L re lo (Es.map (·.o)))),.int .i64 (zQM L re lo (Es.map (·.o)))])∧Below w.heap.size w w':=by
 have aM:=qH hO.len;have eQ:=qH hA.len;have ah:Below w.heap.size w (w.alloc (.cells #[.slice A n c,.int .i64 re,.int .i64 lo] 24)):=(Below.refl _ _).alloc (Nat.le_refl _) _;have hk0:Blk (w.alloc (.cells #[.slice A n c,.int .i64 re,.int .i64 lo] 24)) w.heap.size 24 #[.slice A n c,.int .i64 re,.int .i64 lo]:=Blk.new _ _ _;have hC:=zEj A n c L re lo B m d Es _ (hA.below ah) hc (hO.below ah);have hcase:=zCA L re lo (Es.map (·.o));obtain ⟨E,hE⟩:∃E,zAF L re lo (Es.map (·.o))=E:=⟨_,rfl⟩
 rw [hE] at hcase hC;have HC:=qH hC;have HE:=qH hE;have qx:=qH hf;clear hE hC hf;rcases hcase with ⟨rfl,hfr,hro⟩ | rfl
 ·have hri:∀i,i < m→zAg n (oa Es i).o=true:=fun i hi=>by
   have:=hro _ (List.mem_map_of_mem (List.mem_of_getElem? (zBn (L:=Es) (i:=i) (by rw [aM.out];exact hi))));rw [eQ.out] at this;exact this
  have vo:=qH hri;clear hro hri;go_enter Tryz.func28,Tryz.ntmps28;go_wp2_with fail
  refine HC.out.mono ?_;rintro e w2 ⟨rfl,ai⟩;have al:=zAa ah ai ah.size;have hk2:=hk0.below ai hk0.lt;have kD:=hA.below al;have gQ:=hO.below al;clear HC ah hk0 ai;go_wp2_with fail
  go_loopw [7,18] (fun v7 v wr=>∃(i:Nat) (A':Option Addr) (c':Nat) (Ss:List (List UInt8)),i≤m∧v=.int .i64 i∧v7=.slice A' i c'∧Row wr w2.heap.size 1 A' i c' (Ss.map zDo)∧Below w2.heap.size w2 wr∧Hid (Ss=(Es.take i).map fun e=>zCZ L e.o)∧Hid (∀j:Nat,j < i→zDn L (oa Es j).o=true)∧w2.heap.size≤wr.heap.size) (fun _ v _=>m-(intOf v).toNat)
  case atStart=>exact ⟨0,none,0,[],Nat.zero_le _,rfl,rfl,Row.none_ _ _ _,Below.refl _ _,qH (by simp),qH (fun j hj=>by omega),Nat.le_refl _⟩
  case round =>
   obtain ⟨i,A',c',Ss,hi,rfl,rfl,hR,hbr,HT,HS,hzr⟩:=hrel;have hkr:=hk2.below hbr hk2.lt;by_cases hlt:i < m
   ·obtain ⟨g,p,rfl,hg,⟨x0,x1,x2,x3,x4,x5,x6,x7⟩,hin⟩:=(gQ.below hbr).at_ hlt;have j0:(0:Int)≤(i:Int):=by omega
    have j1:(i:Int) < (m:Int):=by omega
    have qi:=zBn (L:=Es) (i:=i) (by rw [aM.out];exact hlt);have hpn:=qx.out _ (List.mem_of_getElem? qi);have hri:=vo.out i hlt;have hsn:((Es.take (i+1)).map fun e=>zCZ L e.o)=((Es.take i).map fun e=>zCZ L e.o)++[zCZ L (oa Es i).o]:=by
     rw [List.take_add_one,qi];simp
    obtain ⟨q,hq⟩:∃q,zDn L (oa Es i).o=q:=⟨_,rfl⟩
    have HQ:=qH hq;generalize oa Es i=x at x0 x1 x2 x3 x4 x5 x6 x7 hin hpn hri hsn qi hq;obtain ⟨⟨kind,f,⟨ff,fl,ffar,fpc⟩,path,over⟩,PA,pn,pc⟩:=x;simp only at x0 x1 x2 x3 x4 x5 x6 x7 hin hpn hri hsn hq;obtain ⟨IT,jH⟩:∃X,zCZ L ⟨kind,f,⟨ff,fl,ffar,fpc⟩,path,over⟩=X:=⟨_,rfl⟩
    rw [jH] at hsn;have HT1:=qH (show Ss++[IT]=(Es.take (i+1)).map fun e=>zCZ L e.o by rw [hsn,HT.out]);have aw:Below w2.heap.size w2 (wr.alloc (.cells #[.int .i64 kind,.int .i64 f,.int .i64 ff,.int .i64 fl,.bool ffar,.int .i64 fpc,.slice PA pn pc,.bool over] 32)):=hbr.alloc hbr.size _;have E8:=hR.alloc (.cells #[.int .i64 kind,.int .i64 f,.int .i64 ff,.int .i64 fl,.bool ffar,.int .i64 fpc,.slice PA pn pc,.bool over] 32);have jD:=hkr.alloc (.cells #[.int .i64 kind,.int .i64 f,.int .i64 ff,.int .i64 fl,.bool ffar,.int .i64 fpc,.slice PA pn pc,.bool over] 32);have xv:Blk (wr.alloc (.cells #[.int .i64 kind,.int .i64 f,.int .i64 ff,.int .i64 fl,.bool ffar,.int .i64 fpc,.slice PA pn pc,.bool over] 32)) wr.heap.size 32 #[.int .i64 kind,.int .i64 f,.int .i64 ff,.int .i64 fl,.bool ffar,.int .i64 fpc,.slice PA pn pc,.bool over]:=Blk.new _ _ _;have nc:=hin.below ((Below.refl wr.heap.size wr).alloc (Nat.le_refl _) (.cells #[.int .i64 kind,.int .i64 f,.int .i64 ff,.int .i64 fl,.bool ffar,.int .i64 fpc,.slice PA pn pc,.bool over] 32));have tt:=qH (zVA (c:=c) (re:=re) (lo:=lo) hq PA pn pc _ (kD.below aw) nc hri);have kW:=qH (fun wx (fI:Fgs wx A n L) hOx=>zTM (c:=c) jH PA pn pc wx fI hfr hOx hri hpn);have y0:=(jD.cell 0).trans rfl;have y1:=(jD.cell 1).trans rfl;have y2:=(jD.cell 2).trans rfl;clear jH hsn hin hpn hri qi hq HT
    cases q with
    | false =>
     have hr:=qH (zTN (L:=L) (re:=re) (lo:=lo) (Es:=Es) (i:=i) HE.out (by rw [aM.out];exact hlt) HQ.out);go_wp2_with fail
     refine tt.out.mono ?_;rintro e w6 ⟨rfl,aH⟩;have cI:=zAa aw aH aw.size;clear y0 y1 y2 x0 x1 x2 x3 x4 x5 x6 x7;go_wp2_with fail
     go_ret2;exact ⟨by unfold zTL;rw [hr.out];rfl,zAa al cI al.size⟩
    | true =>
     have cn:=qH (show ∀j:Nat,j < i+1→zDn L (oa Es j).o=true from fun j hj=>by
      rcases Nat.decEq j i with e | e
      ·exact HS.out j (by omega)
      ·subst e;exact HQ.out)
     clear HS HQ;go_wp2_with fail
     refine tt.out.mono ?_;rintro e w6 ⟨rfl,aH⟩;have cI:=zAa aw aH aw.size;have E7:=E8.below aH;have vJ:=jD.below aH jD.lt;have pS:=xv.below aH xv.lt;have xI:=nc.below aH;have z0:=(vJ.cell 0).trans rfl;have z1:=(vJ.cell 1).trans rfl;have z2:=(vJ.cell 2).trans rfl;have v0:=(pS.cell 0).trans rfl;have v1:=(pS.cell 1).trans rfl;have v2:=(pS.cell 2).trans rfl;have v3:=(pS.cell 3).trans rfl;have v4:=(pS.cell 4).trans rfl;have v5:=(pS.cell 5).trans rfl;have v6:=(pS.cell 6).trans rfl;have v7:=(pS.cell 7).trans rfl;clear y0 y1 y2 x0 x1 x2 x3 x4 x5 x6 x7 E8 jD xv nc hR hbr hkr tt;go_wp2_with fail
     refine (kW.out _ (kD.below cI) xI).mono ?_;rintro e w8 ⟨rfl,cm⟩;have E6:=E7.below cm;have aS:=zAa cI cm cI.size;have vE:w2.heap.size≤w8.heap.size:=aS.size;clear z0 z1 z2 v0 v1 v2 v3 v4 v5 v6 v7 E7 vJ pS xI aH cI aw kW;go_wp2_with (at_builtin;refine zLl rfl _ _ rfl E6 IT rfl rfl (i+1) rfl (by omega) vE ?_;intro A2 c2 w9 hR9 bX)
     have xU:=aS.trans bX;have zO:w2.heap.size≤w9.heap.size:=xU.size;clear E6 cm aS bX;go_wp2_with fail
     go_roundw
     case rel=>exact ⟨i+1,A2,c2,Ss++[IT],by omega,by go_num,rfl,hR9,xU,HT1,cn,zO⟩
     case measure=>simp [intOf];omega
   ·have j1:¬(i:Int) < (m:Int):=by omega
    have hin:i=m:=by omega
    have qd:Ss=(Es.map (·.o)).map (zCZ L):=by
     rw [HT.out,hin,←aM.out,List.take_length,List.map_map];rfl
    have hr:=qH (zTO (L:=L) (re:=re) (lo:=lo) (Es:=Es) HE.out (fun j hj=>HS.out j (by rw [aM.out] at hj;omega)));have hjl:(Lib.join Ss [32]).length≤140737488355328:=by
     have hb:∀x∈Ss,x.length≤600000:=by
      rw [qd];intro x hx;obtain ⟨o,ho,rfl⟩:=List.mem_map.1 hx;obtain ⟨e,he,rfl⟩:=List.mem_map.1 ho;obtain ⟨k,hk⟩:=List.getElem?_of_mem he;have hlk:=(List.getElem?_eq_some_iff.1 hk).1;have hkk:=zBn hlk;rw [hk] at hkk;injection hkk with hkk
      have hri:=vo.out k (by rw [←aM.out];exact hlk);rw [←hkk] at hri;have h1:=zOO hfr (o:=e.o) (by rw [eQ.out];exact hri);have h2:=qx.out e he;have h3:=(gQ.2 e he).path.len;omega
     have:=zMr [32] (by simp) hb;have hl:Ss.length=m:=by rw [qd];simp;exact aM.out
     rw [hl] at this;have:m*(600000+1)≤10000*600001:=Nat.mul_le_mul hm (by omega);omega
    have HJ:=qH (zMs hR (by omega) hjl);have HR:=qH (show Lib.join Ss [32]=zTL L re lo (Es.map (·.o)) by unfold zTL;rw [hr.out,if_pos rfl];unfold zGR;rw [qd]);clear hin HT HS qd hjl hkr;go_wp2_with fail
    refine HJ.out.mono ?_;rintro e w8 ⟨rfl,cm⟩;have aS:Below w.heap.size w w8:=zAa al (zAa hbr cm hzr) al.size;go_wp2_with fail
    go_ret2;exact ⟨by rw [HR.out,hr.out];rfl,aS⟩
 ·have hr:=qH (show zQM L re lo (Es.map (·.o))=2 by unfold zQM;rw [HE.out];rfl);go_enter Tryz.func28,Tryz.ntmps28;go_wp2_with fail
  refine HC.out.mono ?_;rintro e w2 ⟨rfl,ai⟩;have al:=zAa ah ai ah.size;go_wp2_with fail
  go_ret2;exact ⟨by unfold zTL;rw [hr.out];rfl,al⟩
end Go.Proofs.YtlmdfmnbcndhoaaGreatDoor
namespace Go.Proofs.YtlmdfmnbcndhoaaGreatDoor
theorem zOP {p:Nat→Bool} {n:Nat} (h:∀i j,i < n→j < n→p i=true→p j=true→i=j):zAe p n≤1:=by
 rcases Nat.eq_zero_or_pos (zAe p n) with h0 | h0
 ·omega
 ·obtain ⟨i,hi,hp⟩:=zTA h0;rw [zHU hi hp (fun m hm hpm=>h m i hm hi hpm hp)];omega
theorem zRg {p:Nat→Bool} {n:Nat} (h:0 < zAe p n):∃i,i < n∧p i=true∧∀j,j < i→p j=false:=by
 induction n with
 | zero=>simp [zAe] at h
 | succ n ih =>
  by_cases h0:0 < zAe p n
  ·obtain ⟨i,hi,r⟩:=ih h0;exact ⟨i,by omega,r⟩
  ·cases hp:p n with
   | false=>rw [zAE hp] at h;omega
   | true =>
    refine ⟨n,by omega,hp,fun j hj=>?_⟩
    cases hq:p j with
    | false=>rfl
    | true=>have:=zJL hj hq;omega
theorem zOQ (n:Nat):zGq (fun _=>1) n=n:=by
 induction n with
 | zero=>rfl
 | succ n ih=>simp only [zGq];rw [ih]
theorem zBm {L:List Lt} {i:Nat}:crB L i=true↔(isC (la L i)=true→(1≤(la L i).id∧(la L i).id≤((cN L L.length / 2:Nat):Int))∧∀j,j < i→isC (la L j)=true→(la L j).id=(la L i).id→(la L j).over≠(la L i).over∧(la L j).sign=(la L i).sign):=by
 unfold crB
 cases h:isC (la L i) with
 | false=>simp
 | true =>
  simp only [Bool.not_true,Bool.false_or,Bool.and_eq_true,decide_eq_true_eq,zAI,forall_const];refine and_congr_right fun _=>forall_congr' fun j=>forall_congr' fun _=>?_
  cases h2:isC (la L j)<;>simp
  by_cases h3:(la L j).id=(la L i).id<;>simp [h3]
theorem zBM {L:List Lt} {i:Nat}:rkB L i=true↔(isP (la L i)=true→(1≤(la L i).rank∧(la L i).rank≤(gN L (la L i).gate L.length:Int))∧∀j,j < i→isP (la L j)=true→(la L j).gate=(la L i).gate→(la L j).rank≠(la L i).rank):=by
 unfold rkB
 cases h:isP (la L i) with
 | false=>simp
 | true =>
  simp only [Bool.not_true,Bool.false_or,Bool.and_eq_true,decide_eq_true_eq,zAI,forall_const];refine and_congr_right fun _=>forall_congr' fun j=>forall_congr' fun _=>?_
  cases h2:isP (la L j)<;>simp [keyB]
  by_cases h3:(la L j).gate=(la L i).gate<;>simp [h3]
theorem zOR {L:List Lt} {n:Nat} (h:∀i,i < n→isC (la L i)=true→1≤(la L i).id∧(la L i).id≤((cN L L.length / 2:Nat):Int)) :
  cN L n=zGq (fun d=>tN L ((d+1:Nat):Int) n) (cN L L.length / 2):=by
 unfold cN
 rw [zDO (p:=fun i=>isC (la L i)) (c:=fun i=>((la L i).id-1).toNat) (n:=n) (k:=cN L L.length / 2) (by
  intro m hm hc
  have:=h m hm hc
  omega)]
 refine zDN fun d _=>zEx fun m hm=>?_
 cases hc:isC (la L m) with
 | false=>rfl
 | true =>
  have:=h m hm hc;simp only [Bool.true_and];rw [Bool.eq_iff_iff];simp;omega
theorem zDP {L:List Lt} (h:∀i,i < L.length→crB L i=true) {i j:Nat} (hi:i < L.length) (hj:j < L.length) (hci:isC (la L i)=true) (hcj:isC (la L j)=true) (hid:(la L i).id=(la L j).id) (hne:i≠j) :
  (la L i).over≠(la L j).over∧(la L i).sign=(la L j).sign:=by
 rcases Nat.lt_or_gt_of_ne hne with hlt | hlt
 ·exact (zBm.1 (h j hj) hcj).2 i hlt hci hid
 ·have:=(zBm.1 (h i hi) hci).2 j hlt hcj hid.symm;exact ⟨fun e=>this.1 e.symm,this.2.symm⟩
theorem zIG (L:List Lt) (d:Int) (b:Bool) (n:Nat):tN L d n=zAe (fun m=>isC (la L m)&&(la L m).id==d&&(la L m).over==b) n+zAe (fun m=>isC (la L m)&&(la L m).id==d&&(la L m).over != b) n:=by
 unfold tN;refine zOs (fun m _=>?_) (fun m _=>?_)
 ·cases (la L m).over<;>cases b<;>simp
 ·rintro ⟨h1,h2⟩;simp at h1 h2;exact h2.2 h1.2
theorem zIH {L:List Lt} (h:∀i,i < L.length→crB L i=true) (d:Int) (p:Bool→Bool) (hp:∀a b,p a=true→p b=true→a=b):zAe (fun m=>isC (la L m)&&(la L m).id==d&&p (la L m).over) L.length≤1:=by
 refine zOP fun i j hi hj h1 h2=>?_
 simp at h1 h2;rcases Nat.decEq i j with e | e
 ·exact absurd (hp _ _ h1.2 h2.2) (zDP h hi hj h1.1.1 h2.1.1 (by rw [h1.1.2,h2.1.2]) e).1
 ·exact e
theorem zXa {L:List Lt} (h:∀i,i < L.length→crB L i=true) (d:Int):tN L d L.length≤2:=by
 rw [zIG L d true];have h1:=zIH h d (fun o=>o==true) (by simp);have h2:=zIH h d (fun o=>o != true) (by simp);omega
theorem zOS {L:List Lt} (he:cN L L.length % 2=0) (h:∀i,i < L.length→crB L i=true) {d:Nat} (hd:d < cN L L.length / 2):tN L ((d+1:Nat):Int) L.length=2:=by
 have hs:=zOR (L:=L) (n:=L.length) (fun i hi hc=>(zBm.1 (h i hi) hc).1);exact zOu (f:=fun d=>tN L ((d+1:Nat):Int) L.length) (c:=2) (fun i _=>zXa h _) (by omega) d hd
theorem zVB {L:List Lt} (h:zBz L=true):dN L L.length=cN L L.length / 2:=by
 unfold zBz at h;simp only [Bool.and_eq_true,decide_eq_true_eq,zAI] at h;obtain ⟨he,h⟩:=h;unfold dN
 rw [zDO (p:=nwB L) (c:=fun i=>((la L i).id-1).toNat) (n:=L.length) (k:=cN L L.length / 2) (by
  intro m hm hc
  unfold nwB at hc
  simp at hc
  have:=(zBm.1 (h m hm) hc.1).1
  omega)]
 refine Eq.trans (zDN (g:=fun _=>1) fun d hd=>?_) (zOQ _);have ht:=zOS he h hd;obtain ⟨i,hi,hp,hno⟩:=zRg (p:=fun i=>isC (la L i)&&(la L i).id==((d+1:Nat):Int)) (n:=L.length) (by unfold tN at ht;omega);simp at hp;refine zHU hi ?_ (fun m hm hpm=>?_)
 ·simp only [Bool.and_eq_true,beq_iff_eq];refine ⟨?_,by omega⟩;unfold nwB;simp only [Bool.and_eq_true,zAI];refine ⟨hp.1,fun j hj=>?_⟩;have:=hno j hj;rw [hp.2];simp only [Bool.not_eq_true'];exact this
 ·simp only [Bool.and_eq_true,beq_iff_eq] at hpm;obtain ⟨hnw,hcl⟩:=hpm;unfold nwB at hnw;simp only [Bool.and_eq_true,zAI] at hnw;have hb:=(zBm.1 (h m hm) hnw.1).1;have hid:(la L m).id=((d+1:Nat):Int):=by omega
  rcases Nat.lt_trichotomy m i with hlt | rfl | hgt
  ·have:=hno m hlt;simp [hnw.1] at this;omega
  ·rfl
  ·have:=hnw.2 i hgt;simp [hp.1] at this;omega
theorem zDa (K:Int) (L:List Lt):(zAC K L&&zCi L&&zBz L)=zIv K L:=by
 rw [Bool.eq_iff_iff];unfold zAC zCi zBz zIv;simp only [Bool.and_eq_true,decide_eq_true_eq,zAI];constructor
 ·rintro ⟨⟨hl,hr⟩,he,hc⟩ i hi;have hli:=hl i hi;unfold lpB at hli;unfold rlB;by_cases h1:(la L i).kind=1
  ·rw [if_pos h1] at hli ⊢;have hpi:isP (la L i)=true:=by unfold isP;simp [h1]
   have hri:=zBM.1 (hr i hi) hpi;simp only [decide_eq_true_eq] at hli ⊢;refine ⟨hli.2.2.1,hli.2.2.2.1,hli.2.2.2.2,hli.1,hli.2.1,hri.1.1,hri.1.2,?_⟩;refine zHU hi (by simp [smB]) (fun m hm hs=>?_);simp [smB] at hs;have hpm:isP (la L m)=true:=by unfold isP;simp [hs.1.1,h1]
   rcases Nat.lt_trichotomy m i with hlt | rfl | hgt
   ·exact absurd hs.2 (hri.2 m hlt hpm hs.1.2)
   ·rfl
   ·exact absurd hs.2.symm ((zBM.1 (hr m hm) hpm).2 i hgt hpi hs.1.2.symm)
  ·rw [if_neg h1] at hli ⊢;by_cases h2:(la L i).kind=2
   ·rw [if_pos h2] at hli ⊢;have hci:isC (la L i)=true:=by unfold isC;simp [h2]
    have hcr:=zBm.1 (hc i hi) hci;simp only [decide_eq_true_eq] at hli ⊢;have ht:tN L (la L i).id L.length=2:=by
     have hd:((la L i).id-1).toNat < cN L L.length / 2:=by omega
     have:=zOS he hc hd
     rwa [show ((((la L i).id-1).toNat+1:Nat):Int)=(la L i).id by omega] at this
    refine ⟨hli.1,hli.2.1,hli.2.2,hcr.1.1,hcr.1.2,?_,ht⟩;have hs:=zIG L (la L i).id (la L i).over L.length;have o1:=zIH hc (la L i).id (fun o=>o==(la L i).over) (by simp);have o2:=zIH hc (la L i).id (fun o=>o != (la L i).over) (by intro a b;cases a<;>cases b<;>cases (la L i).over<;>simp);have he:prN L (la L i) L.length=zAe (fun m=>isC (la L m)&&(la L m).id==(la L i).id&&(la L m).over != (la L i).over) L.length:=by
     refine zEx fun m hm=>?_
     unfold prB;rw [Bool.eq_iff_iff];simp only [Bool.and_eq_true,beq_iff_eq,bne_iff_ne,isC];constructor
     ·rintro ⟨⟨⟨a,b⟩,c⟩,d⟩;exact ⟨⟨a.trans h2,b⟩,d⟩
     ·rintro ⟨⟨a,b⟩,d⟩;refine ⟨⟨⟨a.trans h2.symm,b⟩,?_⟩,d⟩;have hcm:isC (la L m)=true:=by unfold isC;simp [a]
      exact (zDP hc hm hi hcm hci b (fun e=>d (by rw [e]))).2
    omega
   ·rw [if_neg h2] at hli;cases hli
 ·intro h;have hl:∀i,i < L.length→lpB K (la L i)=true:=by
   intro i hi;have:=h i hi;unfold rlB at this;unfold lpB;by_cases h1:(la L i).kind=1
   ·rw [if_pos h1] at this ⊢;simp only [decide_eq_true_eq] at this ⊢;exact ⟨this.2.2.2.1,this.2.2.2.2.1,this.1,this.2.1,this.2.2.1⟩
   ·rw [if_neg h1] at this ⊢;by_cases h2:(la L i).kind=2
    ·rw [if_pos h2] at this ⊢;simp only [decide_eq_true_eq] at this ⊢;exact ⟨this.1,this.2.1,this.2.2.1⟩
    ·rw [if_neg h2] at this;cases this
  have hcx:∀i,i < L.length→isC (la L i)=true→(1≤(la L i).id∧(la L i).id≤((cN L L.length / 2:Nat):Int))∧prN L (la L i) L.length=1∧tN L (la L i).id L.length=2:=by
   intro i hi hc;have:=h i hi;unfold isC at hc;simp at hc;unfold rlB at this;rw [if_neg (by omega),if_pos hc] at this;simp only [decide_eq_true_eq] at this;exact ⟨⟨this.2.2.2.1,this.2.2.2.2.1⟩,this.2.2.2.2.2.1,this.2.2.2.2.2.2⟩
  refine ⟨⟨hl,fun i hi=>zBM.2 fun hp=>?_⟩,?_,fun i hi=>zBm.2 fun hci=>⟨(hcx i hi hci).1,fun j hj hcj hid=>?_⟩⟩
  ·have hk:(la L i).kind=1:=by unfold isP at hp;simpa using hp
   have:=h i hi;unfold rlB at this;rw [if_pos hk] at this;simp only [decide_eq_true_eq] at this;refine ⟨⟨this.2.2.2.2.2.1,this.2.2.2.2.2.2.1⟩,fun j hj hpj hg hr=>?_⟩;have hkj:(la L j).kind=1:=by unfold isP at hpj;simpa using hpj
   have:=zOt (p:=fun j=>smB (la L i) (la L j)) (Nat.le_of_eq this.2.2.2.2.2.2.2) (i:=i) (j:=j) hi (by omega) (by simp [smB]) (by simp [smB,hk,hkj,hg,hr]);omega
  ·rw [zOR (fun i hi hc=>(hcx i hi hc).1)];refine zOv fun d _=>?_
   rcases Nat.eq_zero_or_pos (tN L ((d+1:Nat):Int) L.length) with h0 | h0
   ·rw [h0]
   ·obtain ⟨m,hm,hp⟩:=zTA h0;simp at hp;have:=(hcx m hm hp.1).2.2;rw [hp.2] at this;rw [show ((d+1:Nat):Int)=(d:Int)+1 by omega,this]
  ·obtain ⟨_,hpr,ht⟩:=hcx i hi hci;have hs:=zIG L (la L i).id (la L i).over L.length;have hsub:∀m,m < L.length→prB (la L i) (la L m)=true→(isC (la L m)&&(la L m).id==(la L i).id&&(la L m).over != (la L i).over)=true:=by
    intro m _ hp;unfold isC at hci;simp [prB] at hp hci;simp [isC,hp.1.1.1,hci,hp.1.1.2,hp.2]
   have hle:=zSM hsub;have h1:=zJL (p:=fun m=>isC (la L m)&&(la L m).id==(la L i).id&&(la L m).over==(la L i).over) hi (by simp [hci]);unfold prN at hpr;have hov:(la L j).over≠(la L i).over:=by
    intro e;have:=zOt (p:=fun m=>isC (la L m)&&(la L m).id==(la L i).id&&(la L m).over==(la L i).over) (n:=L.length) (by omega) (i:=i) (j:=j) hi (by omega) (by simp [hci]) (by simp [hcj,hid,e]);omega
   refine ⟨hov,?_⟩;have:=zTB hsub (by omega) j (by omega) (by simp [hcj,hid,hov]);simp [prB] at this;exact this.1.2
theorem zIe (L:List Lt) (i:Nat) (q:Nat→Bool):∀X:List Nat,(zNi L i X).countP q=X.countP q+(if q i then 1 else 0)
 | []=>by simp [zNi,List.countP_cons]
 | x :: X=>by
  unfold zNi;split
  ·rw [List.countP_cons,List.countP_cons,zIe L i q X];omega
  ·rw [List.countP_cons,List.countP_cons]
theorem zNv (L:List Lt) (q:Nat→Bool) (m:Nat):(zNj L m).countP q=zAe (fun j=>isP (la L j)&&q j) m:=by
 induction m with
 | zero=>rfl
 | succ m ih =>
  unfold zNj zAe
  cases h:isP (la L m) with
  | true=>rw [if_pos rfl,zIe,ih];simp
  | false=>simp [ih]
theorem zMt (L:List Lt) (i:Nat):∀X:List Nat,(zNi L i X).length=X.length+1
 | []=>rfl
 | x :: X=>by unfold zNi;split<;>simp [zMt L i X]
theorem zRh (L:List Lt) (m:Nat):(zNj L m).length=pN L m:=by
 induction m with
 | zero=>rfl
 | succ m ih =>
  unfold zNj pN zAe
  cases h:isP (la L m) with
  | true=>rw [if_pos rfl,zMt,ih];simp [pN]
  | false=>simp [ih,pN]
theorem zFx (L:List Lt):(axL L).length=pN L L.length:=zRh L _
theorem zII (L:List Lt) (i x:Nat):∀X:List Nat,x∈zNi L i X↔x=i∨x∈X
 | []=>by simp [zNi]
 | y :: X=>by
  unfold zNi;split
  ·simp [zII L i x X];constructor<;>(rintro (h | h | h)<;>simp [h])
  ·simp
theorem zIJ (L:List Lt) (x m:Nat):x∈zNj L m↔x < m∧isP (la L x)=true:=by
 induction m with
 | zero=>simp [zNj]
 | succ m ih =>
  unfold zNj
  cases h:isP (la L m) with
  | true =>
   rw [if_pos rfl,zII,ih];constructor
   ·rintro (rfl | ⟨h1,h2⟩)
    ·exact ⟨by omega,h⟩
    ·exact ⟨by omega,h2⟩
   ·rintro ⟨h1,h2⟩;rcases Nat.decEq x m with e | e
    ·exact .inr ⟨by omega,h2⟩
    ·exact .inl e
  | false =>
   simp only [Bool.false_eq_true,if_false];rw [ih];constructor
   ·rintro ⟨h1,h2⟩;exact ⟨by omega,h2⟩
   ·rintro ⟨h1,h2⟩;refine ⟨?_,h2⟩;rcases Nat.decEq x m with e | e
    ·omega
    ·subst e;rw [h] at h2;cases h2
theorem zEC {a b:Lt}:zNh a b=true↔a.gate < b.gate∨(a.gate=b.gate∧a.rank < b.rank):=by unfold zNh;simp
theorem zOT {L:List Lt} {i:Nat}:∀{X:List Nat},X.Pairwise (fun a b=>zNh (la L a) (la L b)=true)→(∀x∈X,¬((la L x).gate=(la L i).gate∧(la L x).rank=(la L i).rank))→(zNi L i X).Pairwise (fun a b=>zNh (la L a) (la L b)=true)
 | [],_,_=>by simp [zNi]
 | x :: X,h,hne=>by
  rw [List.pairwise_cons] at h;unfold zNi;split
  ·rename_i hx;rw [List.pairwise_cons];refine ⟨fun y hy=>?_,zOT h.2 (fun y hy=>hne y (by simp [hy]))⟩;rcases (zII L i y X).1 hy with rfl | hy
   ·exact hx
   ·exact h.1 y hy
  ·rename_i hx;have hix:zNh (la L i) (la L x)=true:=by
    have hne':=hne x (by simp);rw [zEC] at hx ⊢;omega
   rw [List.pairwise_cons,List.pairwise_cons];refine ⟨fun y hy=>?_,h⟩;rcases List.mem_cons.1 hy with rfl | hy
   ·exact hix
   ·have:=h.1 y hy;rw [zEC] at this hix ⊢;omega
theorem zLn {L:List Lt} (h:∀i,i < L.length→rkB L i=true):∀m,m≤L.length→(zNj L m).Pairwise (fun a b=>zNh (la L a) (la L b)=true)
 | 0,_=>by simp [zNj]
 | m+1,hm=>by
  have ih:=zLn h m (by omega);unfold zNj
  cases hp:isP (la L m) with
  | false=>simpa using ih
  | true =>
   rw [if_pos rfl];refine zOT ih fun x hx hk=>?_
   rw [zIJ] at hx;exact (zBM.1 (h m (by omega)) hp).2 x hx.1 hx.2 hk.1 hk.2
theorem zKd {L:List Lt} {i:Nat}:∀{X:List Nat} {p:Nat},X.Pairwise (fun a b=>zNh (la L a) (la L b)=true)→X[p]? = some i→X.countP (fun j=>zNh (la L j) (la L i))=p
 | [],p,_,h=>by simp at h
 | x :: X,0,h,hx=>by
  simp at hx;subst hx
  rw [List.pairwise_cons] at h;rw [List.countP_cons,List.countP_eq_zero.2]
  ·have:zNh (la L x) (la L x)=false:=by
    cases hq:zNh (la L x) (la L x) with
    | false=>rfl
    | true=>rw [zEC] at hq;omega
   rw [this];rfl
  ·intro y hy hq;have:=h.1 y hy;rw [zEC] at this hq;omega
 | x :: X,p+1,h,hx=>by
  simp at hx;rw [List.pairwise_cons] at h;rw [List.countP_cons,zKd h.2 hx,h.1 i (List.mem_of_getElem? hx)];rfl
def fsN (L:List Lt) (g:Nat):Nat:=zGq (fun d=>gN L (d:Int) L.length) g
def atN (L:List Lt) (i:Nat):Nat:=fsN L (la L i).gate.toNat+((la L i).rank.toNat-1)
theorem zNw {L:List Lt} (hg:∀i,i < L.length→isP (la L i)=true→0≤(la L i).gate) (h:∀i,i < L.length→rkB L i=true) {i:Nat} (hi:i < L.length) (hp:isP (la L i)=true) :
  zAe (fun j=>isP (la L j)&&zNh (la L j) (la L i)) L.length=atN L i:=by
 rw [zOs (p:=fun j=>isP (la L j)&&decide ((la L j).gate < (la L i).gate)) (q:=fun j=>(isP (la L j)&&(la L j).gate==(la L i).gate)&&decide ((la L j).rank≤(((la L i).rank.toNat-1:Nat):Int)))]
 ·unfold atN;have hr:=(zBM.1 (h i hi) hp).1
  congr 1
  ·rw [zDO (c:=fun j=>(la L j).gate.toNat) (k:=(la L i).gate.toNat) (by
    intro m hm hq
    simp at hq
    have:=hg m hm hq.1
    omega)]
   refine zDN fun d hd=>zEx fun m hm=>?_
   cases hq:isP (la L m) with
   | false=>rfl
   | true =>
    have:=hg m hm hq;simp only [Bool.true_and];rw [Bool.eq_iff_iff];simp;omega
  ·refine zVs (p:=fun j=>isP (la L j)&&(la L j).gate==(la L i).gate) (f:=fun j=>(la L j).rank) ?_ ?_ _ ?_
   ·intro m hm hq;simp at hq;have:=(zBM.1 (h m hm) hq.1).1;rw [hq.2] at this;exact this
   ·intro a b ha hb hqa hqb e;simp at hqa hqb;rcases Nat.lt_trichotomy a b with hlt | rfl | hgt
    ·exact absurd e ((zBM.1 (h b hb) hqb.1).2 a hlt hqa.1 (by rw [hqa.2,hqb.2]))
    ·rfl
    ·exact absurd e.symm ((zBM.1 (h a ha) hqa.1).2 b hgt hqb.1 (by rw [hqa.2,hqb.2]))
   ·have:(la L i).rank≤((zAe (fun j=>isP (la L j)&&(la L j).gate==(la L i).gate) L.length:Nat):Int):=hr.2;omega
 ·intro m hm;have hr:=(zBM.1 (h i hi) hp).1
  cases hq:isP (la L m) with
  | false=>rfl
  | true =>
   simp only [Bool.true_and];rw [Bool.eq_iff_iff];simp [zNh];omega
 ·rintro m _ ⟨h1,h2⟩;simp at h1 h2;omega
theorem zVC {L:List Lt} (hg:∀i,i < L.length→isP (la L i)=true→0≤(la L i).gate) (h:∀i,i < L.length→rkB L i=true) {i:Nat} (hi:i < L.length) (hp:isP (la L i)=true):(axL L)[atN L i]? = some i:=by
 have hm:i∈axL L:=(zIJ L i _).2 ⟨hi,hp⟩;obtain ⟨p,hlt,he⟩:=List.getElem_of_mem hm;have pw:(axL L)[p]? = some i:=by rw [List.getElem?_eq_getElem hlt,he]
 have:=zKd (zLn h _ (Nat.le_refl _)) pw;rw [zNv,zNw hg h hi hp] at this;rw [this];exact pw
theorem zIK {L:List Lt} (h:∀i,i < L.length→rkB L i=true):(axL L).Nodup:=by
 refine (zLn h _ (Nat.le_refl _)).imp fun hab e=>?_
 subst e;rw [zEC] at hab;omega
theorem zLo {X:List Nat} (hn:X.Nodup) {p v:Nat} (h:X[p]? = some v):zVt X v=p:=by
 unfold zVt
 induction X generalizing p with
 | nil=>simp at h
 | cons x X ih =>
  rw [List.nodup_cons] at hn;rw [List.findIdx_cons]
  cases p with
  | zero=>simp at h;subst h;simp
  | succ p =>
   simp at h;have:(x==v)=false:=by simpa using (fun e=>hn.1 (by rw [e];exact List.mem_of_getElem? h):¬x=v)
   rw [this,ih hn.2 h];rfl
end Go.Proofs.YtlmdfmnbcndhoaaGreatDoor
namespace Go.Proofs.YtlmdfmnbcndhoaaGreatDoor
theorem zTP {s:List Bool} {x y:Nat}:sat (s.set x true) y=(sat s y||decide (x=y)):=by
 unfold sat;rw [List.getElem?_set];by_cases h:x=y
 ·subst h;by_cases hl:x < s.length
  ·simp [hl]
  ·simp [hl]
 ·simp [h]
def unN (s:List Bool):Nat:=s.countP (fun b=>!b)
theorem zLp:∀{s:List Bool} {x:Nat},sat s x=false→unN (s.set x true)+1=unN s
 | [],x,h=>by simp [sat] at h
 | b :: s,0,h=>by simp [sat] at h;subst h;simp [unN]
 | b :: s,x+1,h=>by
  have:=zLp (s:=s) (x:=x) (by simpa [sat] using h);unfold unN at this ⊢;simp only [List.set_cons_succ,List.countP_cons];omega
theorem zTQ {s:List Bool} {x:Nat} (h:sat s x=false):0 < unN s:=by have:=zLp h;omega
theorem zVD (s:List Bool):unN s≤s.length:=List.countP_le_length
end Go.Proofs.YtlmdfmnbcndhoaaGreatDoor
