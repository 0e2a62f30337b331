/-
  Lemmas, part 9. Conditions: each theorem's own.
-/
import Derived.Test.YtlmdfmnbcndhoaaGreatDoorRi08
import Derived.Test.YtlmdfmnbcndhoaaGreatDoorRi01
namespace Go.Proofs.YtlmdfmnbcndhoaaGreatDoor
open Go.RowKit
abbrev zKu (S:List UInt8):Value:=.string (bA S)
theorem zIt:(Tryz.prog.info? 9).map (fun i=>(i.zero,i.size,i.bytes))=some (some (.string ⟨#[]⟩),1,16):=by kernel_rfl
theorem zQF {w:World} {ops:Array Oper} {rest:List Oper} {o:Oper} {a:Act} {Q:Exit→Act→World→Prop} (hgd:o.guard=none) (s x:Operand)
  (ho:o.op=.call { callee:=.builtin .append,args:=#[s,x],argTypes:=#[112,112] })
  {base:Nat} {A:Option Addr} {n c:Nat} {Ss:List (List UInt8)} (hst:Row w base 1 A n c (Ss.map zKu)) (S:List UInt8)
  (hs:a.eval s=.slice A n c) (hx:a.eval x=.slice (some ⟨w.heap.size,0,none⟩) 1 1) (N:Nat) (hN:n+1=N) (hn:N≤1000000) (hbase:base≤w.heap.size)
  (h:∀A' c' w',Row w' base 1 A' N c' ((Ss++[S]).map zKu)→Below base w w'→wpList Tryz.prog ops Q rest (a.put o.dst (.slice A' N c')) w') :
  wpList Tryz.prog ops Q (o :: rest) a (w.alloc (.cells #[.string (bA S)] 9)):=by
 obtain ⟨i0,hi,hz0,hz1,hz2⟩:=info_parts zIt;have hbl:=(Below.refl w.heap.size w).alloc (Nat.le_refl _) (.cells #[.string (bA S)] 9);have hst1:=hst.below hbl
 refine zQk hgd s x 112 ho 9 i0 _ 1 16 Tryz.underlying112 hi hz0 hz1 hz2 rfl (by decide) hst1 (Src.new (m:=1) (cs:=[.string (bA S)]) rfl)
  (by intro u hu;simp at hu;subst hu;rfl) hs hx N hN (by unfold maxLen;omega) (by omega) (by simp;omega) ?_
 intro A' c' w' h1 h2 _ _;refine h A' c' w' (by rw [List.map_append];exact h1) ?_;exact ((Below.refl _ _).alloc hbase _).trans (hst1.belowOf h2 (by simp;omega))
def zGD (L:List Fg) (O:List Og):List UInt8:=Lib.join (O.map (zBc L)) [32]
theorem zHQ {L:List Fg} {re lo:Int} (hv:frOk L re lo) {P:List Sp} (h:∀x∈P,zAq L.length x.s=true):∀i,i≤P.length→(zBt L P i).length≤i*50
 | 0,_=>by simp [zBt]
 | i+1,hi=>by
  have ih:=zHQ hv h i (by omega);have hn:=zAj.1 (h _ (List.mem_of_getElem? (zBS (L:=P) (i:=i) (by omega))));have a:=zCb hv hn.1 hn.2.1;have b:=zCm (pa P i).over;have c:(if 0 < i then [44] else []:List UInt8).length≤1:=by split<;>simp
  rw [zBt,zFO];simp only [List.length_append];omega
theorem zOi {L:List Fg} {re lo:Int} (hv:frOk L re lo) {o:Og} (hr:zAh L.length o=true):(zBc L o).length≤200+o.path.length*50:=by
 obtain ⟨h1,h8,hf1,hf2,hpn,hfrn⟩:=zAS hr;have a:=zBq hv hf1 hf2;have b:=zJH o.kind;have c:=zCm o.over;have p:=zHQ hv hpn o.path.length (Nat.le_refl _);have t:(zBm L o).length≤100+o.path.length*50:=by
  unfold zBm;by_cases e4:o.kind=4
  ·rw [if_pos e4];omega
  ·rw [if_neg e4];by_cases e3:o.kind=3
   ·rw [if_pos e3];have hn:=zAj.1 (hfrn (.inl e3));have:=zCb hv hn.1 hn.2.1;have q:(if o.path=[] then [] else [60]:List UInt8).length≤1:=by split<;>simp
    simp only [List.length_append];omega
   ·rw [if_neg e3];by_cases e5:o.kind=5
    ·rw [if_pos e5];have hn:=zAj.1 (hfrn (.inr (.inl e5)));have:=zCb hv hn.1 hn.2.1;simp only [List.length_append];omega
    ·rw [if_neg e5];by_cases e6:o.kind=6∨o.kind=7
     ·rw [if_pos e6];have hn:=zAj.1 (hfrn (by omega));have:=zBq hv hn.1 hn.2.1;simp only [List.length_append];omega
     ·rw [if_neg e6];simp
 unfold zBc;simp only [List.length_append];omega
theorem zLM {b:Nat} (sep:List UInt8) (hs:sep.length≤1):∀{xs:List (List UInt8)},(∀x∈xs,x.length≤b)→(Lib.join xs sep).length≤xs.length*(b+1)
 | [],_=>by simp [Lib.join_nil]
 | x :: r,h=>by
  have hx:=h x (List.mem_cons_self ..);have hr:((r.map (sep++·)).flatten).length≤r.length*(b+1):=by
   have hh:∀y∈r,y.length≤b:=fun y hy=>h y (List.mem_cons_of_mem _ hy)
   clear h
   induction r with
   | nil=>simp
   | cons y r ih =>
    have:=ih fun z hz=>hh z (List.mem_cons_of_mem _ hz)
    have hy:=hh y (List.mem_cons_self ..);rw [List.map_cons,List.flatten_cons,List.length_append,List.length_append,List.length_cons,Nat.add_mul];omega
  rw [Lib.join_cons,Lib.joinTail,List.length_append,List.length_cons,Nat.add_mul];omega
theorem zLN {w:World} {base:Nat} {A:Option Addr} {n c:Nat} {Ss:List (List UInt8)} (h:Row w base 1 A n c (Ss.map zKu)) (hn:n≤1000000) (hl:(Lib.join Ss [32]).length≤140737488355328) :
  Calls Tryz.prog 69 #[.slice A n c,.string ⟨#[32]⟩] w fun e w'=>e=.returned (.string (bA (Lib.join Ss [32])))∧Below w.heap.size w w':=by
 have hlen:Ss.length=n:=by have:=h.len;simpa using this
 cases A with
 | none =>
  have h0:=h.nil rfl;have h1:=h.cap;obtain rfl:n=0:=by omega
  obtain rfl:Ss=[]:=List.length_eq_zero_iff.1 hlen;refine (Tryz.strings_Join_none none c ⟨#[32]⟩ w).mono ?_;rintro e w' ⟨rfl,rfl⟩;exact ⟨rfl,Below.refl _ _⟩
 | some ad =>
  obtain ⟨h1,_,h3,h4,_⟩:=h.at_ ad rfl;have hx:(Ss.map bA).length=n:=by rw [List.length_map];exact hlen
  have hm:(Ss.map bA).map (fun x:ByteArray=>x.data.toList)=Ss:=by
   rw [List.map_map]
   conv=>rhs;rw [←List.map_id Ss]
   apply List.map_congr_left;intro x _;exact zDm x
  have hj:=Tryz.strings_Join ad.block ad.off c (Ss.map bA) ⟨#[32]⟩ w (fun j x hxj=>h4 j _ (by
   rw [List.getElem?_map] at hxj ⊢
   cases e:Ss[j]? with
   | none=>rw [e] at hxj;cases hxj
   | some y=>rw [e] at hxj;simp only [Option.map_some,Option.some.injEq] at hxj ⊢;show Value.string (bA y)=_;rw [hxj])) h3 (by omega) (by rw [hx];exact h.cap) (by rw [hm];exact hl)
  rw [hx,hm] at hj;rw [zIl h1];exact hj
def zQl (L:List Fg) (re lo:Int) (O:List Og):Int:=if zAP L re lo O=0 then (if O.all (zCl L) then 0 else 8) else zAP L re lo O
def zTc (L:List Fg) (re lo:Int) (O:List Og):List UInt8:=if zQl L re lo O=0 then zGD L O else []
theorem zUP {A:Option Addr} {n c:Nat} {L:List Fg} {re lo:Int} {o:Og} {q:Bool} (h:zCl L o=q) (B:Option Addr) (m d:Nat) (w:World) (hA:Fgs w A n L) (hO:OpIn w o B m d) (hr:zAh n o=true) :
  Calls Tryz.prog 67 #[frV A n c re lo,opV o B m d] w fun e w'=>e=.returned (.bool q)∧Below w.heap.size w w':=by
 subst h;exact zJF A n c L re lo o B m d w hA hO hr
theorem zTd {A:Option Addr} {n c:Nat} {L:List Fg} {re lo:Int} {o:Og} {S:List UInt8} (h:zBc L o=S) (B:Option Addr) (m d:Nat) (w:World) (hA:Fgs w A n L) (hv:frOk L re lo) (hO:OpIn w o B m d) (hr:zAh n o=true) (hm:m≤10000) :
  Calls Tryz.prog 68 #[frV A n c re lo,opV o B m d] w fun e w'=>e=.returned (.string (bA S))∧Below w.heap.size w w':=by
 subst h;exact zMS A n c L re lo o B m d w hA hv hO hr hm
theorem zTe {L:List Fg} {re lo:Int} {Es:List Oe} {i:Nat} (h0:zAP L re lo (Es.map (·.o))=0) (hi:i < Es.length) (h:zCl L (oa Es i).o=false):zQl L re lo (Es.map (·.o))=8:=by
 have:(Es.map (·.o)).all (zCl L)=false:=by
  cases e:(Es.map (·.o)).all (zCl L) with
  | false=>rfl
  | true=>rw [List.all_eq_true] at e;have:=e _ (List.mem_map_of_mem (List.mem_of_getElem? (zBT hi)));rw [h] at this;cases this
 unfold zQl;rw [if_pos h0,this];rfl
theorem zTf {L:List Fg} {re lo:Int} {Es:List Oe} (h0:zAP L re lo (Es.map (·.o))=0) (h:∀i,i < Es.length→zCl L (oa Es i).o=true):zQl L re lo (Es.map (·.o))=0:=by
 have:(Es.map (·.o)).all (zCl L)=true:=by
  rw [List.all_eq_true];intro x hx;obtain ⟨e,he,rfl⟩:=List.mem_map.1 hx;obtain ⟨i,hi⟩:=List.getElem?_of_mem he;have hlt:=(List.getElem?_eq_some_iff.1 hi).1;have h2:=h i hlt;have h3:=zBT hlt;rw [hi] at h3;injection h3 with h3
  rw [h3];exact h2
 unfold zQl;rw [if_pos h0,this];rfl
set_option maxHeartbeats 6400000 in
set_option maxRecDepth 100000 in
theorem zKO (A:Option Addr) (n c:Nat) (L:List Fg) (re lo:Int) (B:Option Addr) (m d:Nat) (Es:List Oe) (w:World) (hA:Fgs w A n L) (hc:n≤c) (hO:Oprs w B m Es) (hm:m≤10000) (hf:zUO Es) :
  Calls Tryz.prog 28 #[frV A n c re lo,.slice B m d] w fun e w'=>e=.returned (.tuple #[.string (bA (zTc L re lo (Es.map (·.o)))),.int .i64 (zQl L re lo (Es.map (·.o)))])∧Below w.heap.size w w':=by
 have HLEN:=qH hO.len;have HNL:=qH hA.len;have hb0:Below w.heap.size w (w.alloc (.cells #[.slice A n c,.int .i64 re,.int .i64 lo] 24)):=(Below.refl _ _).alloc (Nat.le_refl _) _;have hk0:Blk (w.alloc (.cells #[.slice A n c,.int .i64 re,.int .i64 lo] 24)) w.heap.size 24 #[.slice A n c,.int .i64 re,.int .i64 lo]:=Blk.new _ _ _;have hC:=zEg A n c L re lo B m d Es _ (hA.below hb0) hc (hO.below hb0);have hcase:=zDo L re lo (Es.map (·.o));obtain ⟨E,hE⟩:∃E,zAP L re lo (Es.map (·.o))=E:=⟨_,rfl⟩
 rw [hE] at hcase hC;have HC:=qH hC;have HE:=qH hE;have HFIT:=qH hf;clear hE hC hf;rcases hcase with ⟨rfl,hfr,hro⟩ | rfl
 ·have hri:∀i,i < m→zAh n (oa Es i).o=true:=fun i hi=>by
   have:=hro _ (List.mem_map_of_mem (List.mem_of_getElem? (zBT (L:=Es) (i:=i) (by rw [HLEN.out];exact hi))));rw [HNL.out] at this;exact this
  have HRI:=qH hri;clear hro hri;go_enter Tryz.func28,Tryz.ntmps28;go_wp2_with fail
  refine HC.out.mono ?_;rintro e w2 ⟨rfl,hb2⟩;have hb3:=zAa hb0 hb2 hb0.size;have hk2:=hk0.below hb2 hk0.lt;have hA2:=hA.below hb3;have hO2:=hO.below hb3;clear HC hb0 hk0 hb2;go_wp2_with fail
  go_loopw [7,18] (fun v7 v wr=>∃(i:Nat) (A':Option Addr) (c':Nat) (Ss:List (List UInt8)),i≤m∧v=.int .i64 i∧v7=.slice A' i c'∧Row wr w2.heap.size 1 A' i c' (Ss.map zKu)∧Below w2.heap.size w2 wr∧Hid (Ss=(Es.take i).map fun e=>zBc L e.o)∧Hid (∀j:Nat,j < i→zCl L (oa Es j).o=true)∧w2.heap.size≤wr.heap.size) (fun _ v _=>m-(intOf v).toNat)
  case atStart=>exact ⟨0,none,0,[],Nat.zero_le _,rfl,rfl,Row.none_ _ _ _,Below.refl _ _,qH (by simp),qH (fun j hj=>by omega),Nat.le_refl _⟩
  case round =>
   obtain ⟨i,A',c',Ss,hi,rfl,rfl,hR,hbr,HT,HS,hzr⟩:=hrel;have hkr:=hk2.below hbr hk2.lt;by_cases hlt:i < m
   ·obtain ⟨g,p,rfl,hg,⟨x0,x1,x2,x3,x4,x5,x6,x7⟩,hin⟩:=(hO2.below hbr).at_ hlt;have j0:(0:Int)≤(i:Int):=by omega
    have j1:(i:Int) < (m:Int):=by omega
    have hEi:=zBT (L:=Es) (i:=i) (by rw [HLEN.out];exact hlt);have hpn:=HFIT.out _ (List.mem_of_getElem? hEi);have hri:=HRI.out i hlt;have hsn:((Es.take (i+1)).map fun e=>zBc L e.o)=((Es.take i).map fun e=>zBc L e.o)++[zBc L (oa Es i).o]:=by
     rw [List.take_add_one,hEi];simp
    obtain ⟨q,hq⟩:∃q,zCl L (oa Es i).o=q:=⟨_,rfl⟩
    have HQ:=qH hq;generalize oa Es i=x at x0 x1 x2 x3 x4 x5 x6 x7 hin hpn hri hsn hEi hq;obtain ⟨⟨kind,f,⟨ff,fl,ffar,fpc⟩,path,over⟩,PA,pn,pc⟩:=x;simp only at x0 x1 x2 x3 x4 x5 x6 x7 hin hpn hri hsn hq;obtain ⟨IT,hIT⟩:∃X,zBc L ⟨kind,f,⟨ff,fl,ffar,fpc⟩,path,over⟩=X:=⟨_,rfl⟩
    rw [hIT] at hsn;have HT1:=qH (show Ss++[IT]=(Es.take (i+1)).map fun e=>zBc L e.o by rw [hsn,HT.out]);have hb5:Below w2.heap.size w2 (wr.alloc (.cells #[.int .i64 kind,.int .i64 f,.int .i64 ff,.int .i64 fl,.bool ffar,.int .i64 fpc,.slice PA pn pc,.bool over] 32)):=hbr.alloc hbr.size _;have hR5:=hR.alloc (.cells #[.int .i64 kind,.int .i64 f,.int .i64 ff,.int .i64 fl,.bool ffar,.int .i64 fpc,.slice PA pn pc,.bool over] 32);have hk5:=hkr.alloc (.cells #[.int .i64 kind,.int .i64 f,.int .i64 ff,.int .i64 fl,.bool ffar,.int .i64 fpc,.slice PA pn pc,.bool over] 32);have ho5:Blk (wr.alloc (.cells #[.int .i64 kind,.int .i64 f,.int .i64 ff,.int .i64 fl,.bool ffar,.int .i64 fpc,.slice PA pn pc,.bool over] 32)) wr.heap.size 32 #[.int .i64 kind,.int .i64 f,.int .i64 ff,.int .i64 fl,.bool ffar,.int .i64 fpc,.slice PA pn pc,.bool over]:=Blk.new _ _ _;have hin5:=hin.below ((Below.refl wr.heap.size wr).alloc (Nat.le_refl _) (.cells #[.int .i64 kind,.int .i64 f,.int .i64 ff,.int .i64 fl,.bool ffar,.int .i64 fpc,.slice PA pn pc,.bool over] 32));have HCN:=qH (zUP (c:=c) (re:=re) (lo:=lo) hq PA pn pc _ (hA2.below hb5) hin5 hri);have HIT:=qH (fun wx (hAx:Fgs wx A n L) hOx=>zTd (c:=c) hIT PA pn pc wx hAx hfr hOx hri hpn);have y0:=(hk5.cell 0).trans rfl;have y1:=(hk5.cell 1).trans rfl;have y2:=(hk5.cell 2).trans rfl;clear hIT hsn hin hpn hri hEi hq HT
    cases q with
    | false =>
     have hr:=qH (zTe (L:=L) (re:=re) (lo:=lo) (Es:=Es) (i:=i) HE.out (by rw [HLEN.out];exact hlt) HQ.out);go_wp2_with fail
     refine HCN.out.mono ?_;rintro e w6 ⟨rfl,hb6⟩;have hb7:=zAa hb5 hb6 hb5.size;clear y0 y1 y2 x0 x1 x2 x3 x4 x5 x6 x7;go_wp2_with fail
     go_ret2;exact ⟨by unfold zTc;rw [hr.out];rfl,zAa hb3 hb7 hb3.size⟩
    | true =>
     have HS1:=qH (show ∀j:Nat,j < i+1→zCl L (oa Es j).o=true from fun j hj=>by
      rcases Nat.decEq j i with e | e
      ·exact HS.out j (by omega)
      ·subst e;exact HQ.out)
     clear HS HQ;go_wp2_with fail
     refine HCN.out.mono ?_;rintro e w6 ⟨rfl,hb6⟩;have hb7:=zAa hb5 hb6 hb5.size;have hR6:=hR5.below hb6;have hk6:=hk5.below hb6 hk5.lt;have ho6:=ho5.below hb6 ho5.lt;have hin6:=hin5.below hb6;have z0:=(hk6.cell 0).trans rfl;have z1:=(hk6.cell 1).trans rfl;have z2:=(hk6.cell 2).trans rfl;have v0:=(ho6.cell 0).trans rfl;have v1:=(ho6.cell 1).trans rfl;have v2:=(ho6.cell 2).trans rfl;have v3:=(ho6.cell 3).trans rfl;have v4:=(ho6.cell 4).trans rfl;have v5:=(ho6.cell 5).trans rfl;have v6:=(ho6.cell 6).trans rfl;have v7:=(ho6.cell 7).trans rfl;clear y0 y1 y2 x0 x1 x2 x3 x4 x5 x6 x7 hR5 hk5 ho5 hin5 hR hbr hkr HCN;go_wp2_with fail
     refine (HIT.out _ (hA2.below hb7) hin6).mono ?_;rintro e w8 ⟨rfl,hb8⟩;have hR8:=hR6.below hb8;have hb9:=zAa hb7 hb8 hb7.size;have hz8:w2.heap.size≤w8.heap.size:=hb9.size;clear z0 z1 z2 v0 v1 v2 v3 v4 v5 v6 v7 hR6 hk6 ho6 hin6 hb6 hb7 hb5 HIT;go_wp2_with (at_builtin;refine zQF rfl _ _ rfl hR8 IT rfl rfl (i+1) rfl (by omega) hz8 ?_;intro A2 c2 w9 hR9 hb10)
     have hb11:=hb9.trans hb10;have hz9:w2.heap.size≤w9.heap.size:=hb11.size;clear hR8 hb8 hb9 hb10;go_wp2_with fail
     go_roundw
     case rel=>exact ⟨i+1,A2,c2,Ss++[IT],by omega,by go_num,rfl,hR9,hb11,HT1,HS1,hz9⟩
     case measure=>simp [intOf];omega
   ·have j1:¬(i:Int) < (m:Int):=by omega
    have hin:i=m:=by omega
    have hSs:Ss=(Es.map (·.o)).map (zBc L):=by
     rw [HT.out,hin,←HLEN.out,List.take_length,List.map_map];rfl
    have hr:=qH (zTf (L:=L) (re:=re) (lo:=lo) (Es:=Es) HE.out (fun j hj=>HS.out j (by rw [HLEN.out] at hj;omega)));have hjl:(Lib.join Ss [32]).length≤140737488355328:=by
     have hb:∀x∈Ss,x.length≤600000:=by
      rw [hSs];intro x hx;obtain ⟨o,ho,rfl⟩:=List.mem_map.1 hx;obtain ⟨e,he,rfl⟩:=List.mem_map.1 ho;obtain ⟨k,hk⟩:=List.getElem?_of_mem he;have hlk:=(List.getElem?_eq_some_iff.1 hk).1;have hkk:=zBT hlk;rw [hk] at hkk;injection hkk with hkk
      have hri:=HRI.out k (by rw [←HLEN.out];exact hlk);rw [←hkk] at hri;have h1:=zOi hfr (o:=e.o) (by rw [HNL.out];exact hri);have h2:=HFIT.out e he;have h3:=(hO2.2 e he).path.len;omega
     have:=zLM [32] (by simp) hb;have hl:Ss.length=m:=by rw [hSs];simp;exact HLEN.out
     rw [hl] at this;have:m*(600000+1)≤10000*600001:=Nat.mul_le_mul hm (by omega);omega
    have HJ:=qH (zLN hR (by omega) hjl);have HR:=qH (show Lib.join Ss [32]=zTc L re lo (Es.map (·.o)) by unfold zTc;rw [hr.out,if_pos rfl];unfold zGD;rw [hSs]);clear hin HT HS hSs hjl hkr;go_wp2_with fail
    refine HJ.out.mono ?_;rintro e w8 ⟨rfl,hb8⟩;have hb9:Below w.heap.size w w8:=zAa hb3 (zAa hbr hb8 hzr) hb3.size;go_wp2_with fail
    go_ret2;exact ⟨by rw [HR.out,hr.out];rfl,hb9⟩
 ·have hr:=qH (show zQl L re lo (Es.map (·.o))=2 by unfold zQl;rw [HE.out];rfl);go_enter Tryz.func28,Tryz.ntmps28;go_wp2_with fail
  refine HC.out.mono ?_;rintro e w2 ⟨rfl,hb2⟩;have hb3:=zAa hb0 hb2 hb0.size;go_wp2_with fail
  go_ret2;exact ⟨by unfold zTc;rw [hr.out];rfl,hb3⟩
end Go.Proofs.YtlmdfmnbcndhoaaGreatDoor
namespace Go.Proofs.YtlmdfmnbcndhoaaGreatDoor
theorem zOj {p:Nat→Bool} {n:Nat} (h:∀i j,i < n→j < n→p i=true→p j=true→i=j):zAe p n≤1:=by
 rcases Nat.eq_zero_or_pos (zAe p n) with h0 | h0
 ·omega
 ·obtain ⟨i,hi,hp⟩:=zSQ h0;rw [zHJ hi hp (fun m hm hpm=>h m i hm hi hpm hp)];omega
theorem zQG {p:Nat→Bool} {n:Nat} (h:0 < zAe p n):∃i,i < n∧p i=true∧∀j,j < i→p j=false:=by
 induction n with
 | zero=>simp [zAe] at h
 | succ n ih =>
  by_cases h0:0 < zAe p n
  ·obtain ⟨i,hi,r⟩:=ih h0;exact ⟨i,by omega,r⟩
  ·cases hp:p n with
   | false=>rw [zAB hp] at h;omega
   | true =>
    refine ⟨n,by omega,hp,fun j hj=>?_⟩
    cases hq:p j with
    | false=>rfl
    | true=>have:=zJr hj hq;omega
theorem zOk (n:Nat):zGa (fun _=>1) n=n:=by
 induction n with
 | zero=>rfl
 | succ n ih=>simp only [zGa];rw [ih]
theorem zBl {L:List Lt} {i:Nat}:crB L i=true↔(isC (la L i)=true→(1≤(la L i).id∧(la L i).id≤((cN L L.length / 2:Nat):Int))∧∀j,j < i→isC (la L j)=true→(la L j).id=(la L i).id→(la L j).over≠(la L i).over∧(la L j).sign=(la L i).sign):=by
 unfold crB
 cases h:isC (la L i) with
 | false=>simp
 | true =>
  simp only [Bool.not_true,Bool.false_or,Bool.and_eq_true,decide_eq_true_eq,zAE,forall_const];refine and_congr_right fun _=>forall_congr' fun j=>forall_congr' fun _=>?_
  cases h2:isC (la L j)<;>simp
  by_cases h3:(la L j).id=(la L i).id<;>simp [h3]
theorem zBN {L:List Lt} {i:Nat}:rkB L i=true↔(isP (la L i)=true→(1≤(la L i).rank∧(la L i).rank≤(gN L (la L i).gate L.length:Int))∧∀j,j < i→isP (la L j)=true→(la L j).gate=(la L i).gate→(la L j).rank≠(la L i).rank):=by
 unfold rkB
 cases h:isP (la L i) with
 | false=>simp
 | true =>
  simp only [Bool.not_true,Bool.false_or,Bool.and_eq_true,decide_eq_true_eq,zAE,forall_const];refine and_congr_right fun _=>forall_congr' fun j=>forall_congr' fun _=>?_
  cases h2:isP (la L j)<;>simp [keyB]
  by_cases h3:(la L j).gate=(la L i).gate<;>simp [h3]
theorem zOl {L:List Lt} {n:Nat} (h:∀i,i < n→isC (la L i)=true→1≤(la L i).id∧(la L i).id≤((cN L L.length / 2:Nat):Int)) :
  cN L n=zGa (fun d=>tN L ((d+1:Nat):Int) n) (cN L L.length / 2):=by
 unfold cN
 rw [zDH (p:=fun i=>isC (la L i)) (c:=fun i=>((la L i).id-1).toNat) (n:=n) (k:=cN L L.length / 2) (by
  intro m hm hc
  have:=h m hm hc
  omega)]
 refine zDG fun d _=>zEt fun m hm=>?_
 cases hc:isC (la L m) with
 | false=>rfl
 | true =>
  have:=h m hm hc;simp only [Bool.true_and];rw [Bool.eq_iff_iff];simp;omega
theorem zDI {L:List Lt} (h:∀i,i < L.length→crB L i=true) {i j:Nat} (hi:i < L.length) (hj:j < L.length) (hci:isC (la L i)=true) (hcj:isC (la L j)=true) (hid:(la L i).id=(la L j).id) (hne:i≠j) :
  (la L i).over≠(la L j).over∧(la L i).sign=(la L j).sign:=by
 rcases Nat.lt_or_gt_of_ne hne with hlt | hlt
 ·exact (zBl.1 (h j hj) hcj).2 i hlt hci hid
 ·have:=(zBl.1 (h i hi) hci).2 j hlt hcj hid.symm;exact ⟨fun e=>this.1 e.symm,this.2.symm⟩
theorem zIu (L:List Lt) (d:Int) (b:Bool) (n:Nat):tN L d n=zAe (fun m=>isC (la L m)&&(la L m).id==d&&(la L m).over==b) n+zAe (fun m=>isC (la L m)&&(la L m).id==d&&(la L m).over != b) n:=by
 unfold tN;refine zNL (fun m _=>?_) (fun m _=>?_)
 ·cases (la L m).over<;>cases b<;>simp
 ·rintro ⟨h1,h2⟩;simp at h1 h2;exact h2.2 h1.2
theorem zIv {L:List Lt} (h:∀i,i < L.length→crB L i=true) (d:Int) (p:Bool→Bool) (hp:∀a b,p a=true→p b=true→a=b):zAe (fun m=>isC (la L m)&&(la L m).id==d&&p (la L m).over) L.length≤1:=by
 refine zOj fun i j hi hj h1 h2=>?_
 simp at h1 h2;rcases Nat.decEq i j with e | e
 ·exact absurd (hp _ _ h1.2 h2.2) (zDI h hi hj h1.1.1 h2.1.1 (by rw [h1.1.2,h2.1.2]) e).1
 ·exact e
theorem zWj {L:List Lt} (h:∀i,i < L.length→crB L i=true) (d:Int):tN L d L.length≤2:=by
 rw [zIu L d true];have h1:=zIv h d (fun o=>o==true) (by simp);have h2:=zIv h d (fun o=>o != true) (by simp);omega
theorem zOm {L:List Lt} (he:cN L L.length % 2=0) (h:∀i,i < L.length→crB L i=true) {d:Nat} (hd:d < cN L L.length / 2):tN L ((d+1:Nat):Int) L.length=2:=by
 have hs:=zOl (L:=L) (n:=L.length) (fun i hi hc=>(zBl.1 (h i hi) hc).1);exact zNN (f:=fun d=>tN L ((d+1:Nat):Int) L.length) (c:=2) (fun i _=>zWj h _) (by omega) d hd
theorem zUQ {L:List Lt} (h:zBA L=true):dN L L.length=cN L L.length / 2:=by
 unfold zBA at h;simp only [Bool.and_eq_true,decide_eq_true_eq,zAE] at h;obtain ⟨he,h⟩:=h;unfold dN
 rw [zDH (p:=nwB L) (c:=fun i=>((la L i).id-1).toNat) (n:=L.length) (k:=cN L L.length / 2) (by
  intro m hm hc
  unfold nwB at hc
  simp at hc
  have:=(zBl.1 (h m hm) hc.1).1
  omega)]
 refine Eq.trans (zDG (g:=fun _=>1) fun d hd=>?_) (zOk _);have ht:=zOm he h hd;obtain ⟨i,hi,hp,hno⟩:=zQG (p:=fun i=>isC (la L i)&&(la L i).id==((d+1:Nat):Int)) (n:=L.length) (by unfold tN at ht;omega);simp at hp;refine zHJ hi ?_ (fun m hm hpm=>?_)
 ·simp only [Bool.and_eq_true,beq_iff_eq];refine ⟨?_,by omega⟩;unfold nwB;simp only [Bool.and_eq_true,zAE];refine ⟨hp.1,fun j hj=>?_⟩;have:=hno j hj;rw [hp.2];simp only [Bool.not_eq_true'];exact this
 ·simp only [Bool.and_eq_true,beq_iff_eq] at hpm;obtain ⟨hnw,hcl⟩:=hpm;unfold nwB at hnw;simp only [Bool.and_eq_true,zAE] at hnw;have hb:=(zBl.1 (h m hm) hnw.1).1;have hid:(la L m).id=((d+1:Nat):Int):=by omega
  rcases Nat.lt_trichotomy m i with hlt | rfl | hgt
  ·have:=hno m hlt;simp [hnw.1] at this;omega
  ·rfl
  ·have:=hnw.2 i hgt;simp [hp.1] at this;omega
theorem zCW (K:Int) (L:List Lt):(zAz K L&&zCg L&&zBA L)=zIj K L:=by
 rw [Bool.eq_iff_iff];unfold zAz zCg zBA zIj;simp only [Bool.and_eq_true,decide_eq_true_eq,zAE];constructor
 ·rintro ⟨⟨hl,hr⟩,he,hc⟩ i hi;have hli:=hl i hi;unfold lpB at hli;unfold rlB;by_cases h1:(la L i).kind=1
  ·rw [if_pos h1] at hli ⊢;have hpi:isP (la L i)=true:=by unfold isP;simp [h1]
   have hri:=zBN.1 (hr i hi) hpi;simp only [decide_eq_true_eq] at hli ⊢;refine ⟨hli.2.2.1,hli.2.2.2.1,hli.2.2.2.2,hli.1,hli.2.1,hri.1.1,hri.1.2,?_⟩;refine zHJ hi (by simp [smB]) (fun m hm hs=>?_);simp [smB] at hs;have hpm:isP (la L m)=true:=by unfold isP;simp [hs.1.1,h1]
   rcases Nat.lt_trichotomy m i with hlt | rfl | hgt
   ·exact absurd hs.2 (hri.2 m hlt hpm hs.1.2)
   ·rfl
   ·exact absurd hs.2.symm ((zBN.1 (hr m hm) hpm).2 i hgt hpi hs.1.2.symm)
  ·rw [if_neg h1] at hli ⊢;by_cases h2:(la L i).kind=2
   ·rw [if_pos h2] at hli ⊢;have hci:isC (la L i)=true:=by unfold isC;simp [h2]
    have hcr:=zBl.1 (hc i hi) hci;simp only [decide_eq_true_eq] at hli ⊢;have ht:tN L (la L i).id L.length=2:=by
     have hd:((la L i).id-1).toNat < cN L L.length / 2:=by omega
     have:=zOm he hc hd
     rwa [show ((((la L i).id-1).toNat+1:Nat):Int)=(la L i).id by omega] at this
    refine ⟨hli.1,hli.2.1,hli.2.2,hcr.1.1,hcr.1.2,?_,ht⟩;have hs:=zIu L (la L i).id (la L i).over L.length;have o1:=zIv hc (la L i).id (fun o=>o==(la L i).over) (by simp);have o2:=zIv hc (la L i).id (fun o=>o != (la L i).over) (by intro a b;cases a<;>cases b<;>cases (la L i).over<;>simp);have he:prN L (la L i) L.length=zAe (fun m=>isC (la L m)&&(la L m).id==(la L i).id&&(la L m).over != (la L i).over) L.length:=by
     refine zEt fun m hm=>?_
     unfold prB;rw [Bool.eq_iff_iff];simp only [Bool.and_eq_true,beq_iff_eq,bne_iff_ne,isC];constructor
     ·rintro ⟨⟨⟨a,b⟩,c⟩,d⟩;exact ⟨⟨a.trans h2,b⟩,d⟩
     ·rintro ⟨⟨a,b⟩,d⟩;refine ⟨⟨⟨a.trans h2.symm,b⟩,?_⟩,d⟩;have hcm:isC (la L m)=true:=by unfold isC;simp [a]
      exact (zDI hc hm hi hcm hci b (fun e=>d (by rw [e]))).2
    omega
   ·rw [if_neg h2] at hli;cases hli
 ·intro h;have hl:∀i,i < L.length→lpB K (la L i)=true:=by
   intro i hi;have:=h i hi;unfold rlB at this;unfold lpB;by_cases h1:(la L i).kind=1
   ·rw [if_pos h1] at this ⊢;simp only [decide_eq_true_eq] at this ⊢;exact ⟨this.2.2.2.1,this.2.2.2.2.1,this.1,this.2.1,this.2.2.1⟩
   ·rw [if_neg h1] at this ⊢;by_cases h2:(la L i).kind=2
    ·rw [if_pos h2] at this ⊢;simp only [decide_eq_true_eq] at this ⊢;exact ⟨this.1,this.2.1,this.2.2.1⟩
    ·rw [if_neg h2] at this;cases this
  have hcx:∀i,i < L.length→isC (la L i)=true→(1≤(la L i).id∧(la L i).id≤((cN L L.length / 2:Nat):Int))∧prN L (la L i) L.length=1∧tN L (la L i).id L.length=2:=by
   intro i hi hc;have:=h i hi;unfold isC at hc;simp at hc;unfold rlB at this;rw [if_neg (by omega),if_pos hc] at this;simp only [decide_eq_true_eq] at this;exact ⟨⟨this.2.2.2.1,this.2.2.2.2.1⟩,this.2.2.2.2.2.1,this.2.2.2.2.2.2⟩
  refine ⟨⟨hl,fun i hi=>zBN.2 fun hp=>?_⟩,?_,fun i hi=>zBl.2 fun hci=>⟨(hcx i hi hci).1,fun j hj hcj hid=>?_⟩⟩
  ·have hk:(la L i).kind=1:=by unfold isP at hp;simpa using hp
   have:=h i hi;unfold rlB at this;rw [if_pos hk] at this;simp only [decide_eq_true_eq] at this;refine ⟨⟨this.2.2.2.2.2.1,this.2.2.2.2.2.2.1⟩,fun j hj hpj hg hr=>?_⟩;have hkj:(la L j).kind=1:=by unfold isP at hpj;simpa using hpj
   have:=zNM (p:=fun j=>smB (la L i) (la L j)) (Nat.le_of_eq this.2.2.2.2.2.2.2) (i:=i) (j:=j) hi (by omega) (by simp [smB]) (by simp [smB,hk,hkj,hg,hr]);omega
  ·rw [zOl (fun i hi hc=>(hcx i hi hc).1)];refine zNO fun d _=>?_
   rcases Nat.eq_zero_or_pos (tN L ((d+1:Nat):Int) L.length) with h0 | h0
   ·rw [h0]
   ·obtain ⟨m,hm,hp⟩:=zSQ h0;simp at hp;have:=(hcx m hm hp.1).2.2;rw [hp.2] at this;rw [show ((d+1:Nat):Int)=(d:Int)+1 by omega,this]
  ·obtain ⟨_,hpr,ht⟩:=hcx i hi hci;have hs:=zIu L (la L i).id (la L i).over L.length;have hsub:∀m,m < L.length→prB (la L i) (la L m)=true→(isC (la L m)&&(la L m).id==(la L i).id&&(la L m).over != (la L i).over)=true:=by
    intro m _ hp;unfold isC at hci;simp [prB] at hp hci;simp [isC,hp.1.1.1,hci,hp.1.1.2,hp.2]
   have hle:=zSg hsub;have h1:=zJr (p:=fun m=>isC (la L m)&&(la L m).id==(la L i).id&&(la L m).over==(la L i).over) hi (by simp [hci]);unfold prN at hpr;have hov:(la L j).over≠(la L i).over:=by
    intro e;have:=zNM (p:=fun m=>isC (la L m)&&(la L m).id==(la L i).id&&(la L m).over==(la L i).over) (n:=L.length) (by omega) (i:=i) (j:=j) hi (by omega) (by simp [hci]) (by simp [hcj,hid,e]);omega
   refine ⟨hov,?_⟩;have:=zSR hsub (by omega) j (by omega) (by simp [hcj,hid,hov]);simp [prB] at this;exact this.1.2
theorem zHR (L:List Lt) (i:Nat) (q:Nat→Bool):∀X:List Nat,(zME L i X).countP q=X.countP q+(if q i then 1 else 0)
 | []=>by simp [zME,List.countP_cons]
 | x :: X=>by
  unfold zME;split
  ·rw [List.countP_cons,List.countP_cons,zHR L i q X];omega
  ·rw [List.countP_cons,List.countP_cons]
theorem zMT (L:List Lt) (q:Nat→Bool) (m:Nat):(zMF L m).countP q=zAe (fun j=>isP (la L j)&&q j) m:=by
 induction m with
 | zero=>rfl
 | succ m ih =>
  unfold zMF zAe
  cases h:isP (la L m) with
  | true=>rw [if_pos rfl,zHR,ih];simp
  | false=>simp [ih]
theorem zLO (L:List Lt) (i:Nat):∀X:List Nat,(zME L i X).length=X.length+1
 | []=>rfl
 | x :: X=>by unfold zME;split<;>simp [zLO L i X]
theorem zQH (L:List Lt) (m:Nat):(zMF L m).length=pN L m:=by
 induction m with
 | zero=>rfl
 | succ m ih =>
  unfold zMF pN zAe
  cases h:isP (la L m) with
  | true=>rw [if_pos rfl,zLO,ih];simp [pN]
  | false=>simp [ih,pN]
theorem zFo (L:List Lt):(axL L).length=pN L L.length:=zQH L _
theorem zIw (L:List Lt) (i x:Nat):∀X:List Nat,x∈zME L i X↔x=i∨x∈X
 | []=>by simp [zME]
 | y :: X=>by
  unfold zME;split
  ·simp [zIw L i x X];constructor<;>(rintro (h | h | h)<;>simp [h])
  ·simp
theorem zIx (L:List Lt) (x m:Nat):x∈zMF L m↔x < m∧isP (la L x)=true:=by
 induction m with
 | zero=>simp [zMF]
 | succ m ih =>
  unfold zMF
  cases h:isP (la L m) with
  | true =>
   rw [if_pos rfl,zIw,ih];constructor
   ·rintro (rfl | ⟨h1,h2⟩)
    ·exact ⟨by omega,h⟩
    ·exact ⟨by omega,h2⟩
   ·rintro ⟨h1,h2⟩;rcases Nat.decEq x m with e | e
    ·exact .inr ⟨by omega,h2⟩
    ·exact .inl e
  | false =>
   simp only [Bool.false_eq_true,if_false];rw [ih];constructor
   ·rintro ⟨h1,h2⟩;exact ⟨by omega,h2⟩
   ·rintro ⟨h1,h2⟩;refine ⟨?_,h2⟩;rcases Nat.decEq x m with e | e
    ·omega
    ·subst e;rw [h] at h2;cases h2
theorem zEy {a b:Lt}:zMD a b=true↔a.gate < b.gate∨(a.gate=b.gate∧a.rank < b.rank):=by unfold zMD;simp
theorem zOn {L:List Lt} {i:Nat}:∀{X:List Nat},X.Pairwise (fun a b=>zMD (la L a) (la L b)=true)→(∀x∈X,¬((la L x).gate=(la L i).gate∧(la L x).rank=(la L i).rank))→(zME L i X).Pairwise (fun a b=>zMD (la L a) (la L b)=true)
 | [],_,_=>by simp [zME]
 | x :: X,h,hne=>by
  rw [List.pairwise_cons] at h;unfold zME;split
  ·rename_i hx;rw [List.pairwise_cons];refine ⟨fun y hy=>?_,zOn h.2 (fun y hy=>hne y (by simp [hy]))⟩;rcases (zIw L i y X).1 hy with rfl | hy
   ·exact hx
   ·exact h.1 y hy
  ·rename_i hx;have hix:zMD (la L i) (la L x)=true:=by
    have hne':=hne x (by simp);rw [zEy] at hx ⊢;omega
   rw [List.pairwise_cons,List.pairwise_cons];refine ⟨fun y hy=>?_,h⟩;rcases List.mem_cons.1 hy with rfl | hy
   ·exact hix
   ·have:=h.1 y hy;rw [zEy] at this hix ⊢;omega
theorem zKP {L:List Lt} (h:∀i,i < L.length→rkB L i=true):∀m,m≤L.length→(zMF L m).Pairwise (fun a b=>zMD (la L a) (la L b)=true)
 | 0,_=>by simp [zMF]
 | m+1,hm=>by
  have ih:=zKP h m (by omega);unfold zMF
  cases hp:isP (la L m) with
  | false=>simpa using ih
  | true =>
   rw [if_pos rfl];refine zOn ih fun x hx hk=>?_
   rw [zIx] at hx;exact (zBN.1 (h m (by omega)) hp).2 x hx.1 hx.2 hk.1 hk.2
theorem zJK {L:List Lt} {i:Nat}:∀{X:List Nat} {p:Nat},X.Pairwise (fun a b=>zMD (la L a) (la L b)=true)→X[p]? = some i→X.countP (fun j=>zMD (la L j) (la L i))=p
 | [],p,_,h=>by simp at h
 | x :: X,0,h,hx=>by
  simp at hx;subst hx
  rw [List.pairwise_cons] at h;rw [List.countP_cons,List.countP_eq_zero.2]
  ·have:zMD (la L x) (la L x)=false:=by
    cases hq:zMD (la L x) (la L x) with
    | false=>rfl
    | true=>rw [zEy] at hq;omega
   rw [this];rfl
  ·intro y hy hq;have:=h.1 y hy;rw [zEy] at this hq;omega
 | x :: X,p+1,h,hx=>by
  simp at hx;rw [List.pairwise_cons] at h;rw [List.countP_cons,zJK h.2 hx,h.1 i (List.mem_of_getElem? hx)];rfl
def fsN (L:List Lt) (g:Nat):Nat:=zGa (fun d=>gN L (d:Int) L.length) g
def atN (L:List Lt) (i:Nat):Nat:=fsN L (la L i).gate.toNat+((la L i).rank.toNat-1)
theorem zMU {L:List Lt} (hg:∀i,i < L.length→isP (la L i)=true→0≤(la L i).gate) (h:∀i,i < L.length→rkB L i=true) {i:Nat} (hi:i < L.length) (hp:isP (la L i)=true) :
  zAe (fun j=>isP (la L j)&&zMD (la L j) (la L i)) L.length=atN L i:=by
 rw [zNL (p:=fun j=>isP (la L j)&&decide ((la L j).gate < (la L i).gate)) (q:=fun j=>(isP (la L j)&&(la L j).gate==(la L i).gate)&&decide ((la L j).rank≤(((la L i).rank.toNat-1:Nat):Int)))]
 ·unfold atN;have hr:=(zBN.1 (h i hi) hp).1
  congr 1
  ·rw [zDH (c:=fun j=>(la L j).gate.toNat) (k:=(la L i).gate.toNat) (by
    intro m hm hq
    simp at hq
    have:=hg m hm hq.1
    omega)]
   refine zDG fun d hd=>zEt fun m hm=>?_
   cases hq:isP (la L m) with
   | false=>rfl
   | true =>
    have:=hg m hm hq;simp only [Bool.true_and];rw [Bool.eq_iff_iff];simp;omega
  ·refine zUG (p:=fun j=>isP (la L j)&&(la L j).gate==(la L i).gate) (f:=fun j=>(la L j).rank) ?_ ?_ _ ?_
   ·intro m hm hq;simp at hq;have:=(zBN.1 (h m hm) hq.1).1;rw [hq.2] at this;exact this
   ·intro a b ha hb hqa hqb e;simp at hqa hqb;rcases Nat.lt_trichotomy a b with hlt | rfl | hgt
    ·exact absurd e ((zBN.1 (h b hb) hqb.1).2 a hlt hqa.1 (by rw [hqa.2,hqb.2]))
    ·rfl
    ·exact absurd e.symm ((zBN.1 (h a ha) hqa.1).2 b hgt hqb.1 (by rw [hqa.2,hqb.2]))
   ·have:(la L i).rank≤((zAe (fun j=>isP (la L j)&&(la L j).gate==(la L i).gate) L.length:Nat):Int):=hr.2;omega
 ·intro m hm;have hr:=(zBN.1 (h i hi) hp).1
  cases hq:isP (la L m) with
  | false=>rfl
  | true =>
   simp only [Bool.true_and];rw [Bool.eq_iff_iff];simp [zMD];omega
 ·rintro m _ ⟨h1,h2⟩;simp at h1 h2;omega
theorem zUR {L:List Lt} (hg:∀i,i < L.length→isP (la L i)=true→0≤(la L i).gate) (h:∀i,i < L.length→rkB L i=true) {i:Nat} (hi:i < L.length) (hp:isP (la L i)=true):(axL L)[atN L i]? = some i:=by
 have hm:i∈axL L:=(zIx L i _).2 ⟨hi,hp⟩;obtain ⟨p,hlt,he⟩:=List.getElem_of_mem hm;have hp':(axL L)[p]? = some i:=by rw [List.getElem?_eq_getElem hlt,he]
 have:=zJK (zKP h _ (Nat.le_refl _)) hp';rw [zMT,zMU hg h hi hp] at this;rw [this];exact hp'
theorem zIy {L:List Lt} (h:∀i,i < L.length→rkB L i=true):(axL L).Nodup:=by
 refine (zKP h _ (Nat.le_refl _)).imp fun hab e=>?_
 subst e;rw [zEy] at hab;omega
theorem zKQ {X:List Nat} (hn:X.Nodup) {p v:Nat} (h:X[p]? = some v):zUH X v=p:=by
 unfold zUH
 induction X generalizing p with
 | nil=>simp at h
 | cons x X ih =>
  rw [List.nodup_cons] at hn;rw [List.findIdx_cons]
  cases p with
  | zero=>simp at h;subst h;simp
  | succ p =>
   simp at h;have:(x==v)=false:=by simpa using (fun e=>hn.1 (by rw [e];exact List.mem_of_getElem? h):¬x=v)
   rw [this,ih hn.2 h];rfl
end Go.Proofs.YtlmdfmnbcndhoaaGreatDoor
namespace Go.Proofs.YtlmdfmnbcndhoaaGreatDoor
theorem zTg {s:List Bool} {x y:Nat}:sat (s.set x true) y=(sat s y||decide (x=y)):=by
 unfold sat;rw [List.getElem?_set];by_cases h:x=y
 ·subst h;by_cases hl:x < s.length
  ·simp [hl]
  ·simp [hl]
 ·simp [h]
def unN (s:List Bool):Nat:=s.countP (fun b=>!b)
theorem zKR:∀{s:List Bool} {x:Nat},sat s x=false→unN (s.set x true)+1=unN s
 | [],x,h=>by simp [sat] at h
 | b :: s,0,h=>by simp [sat] at h;subst h;simp [unN]
 | b :: s,x+1,h=>by
  have:=zKR (s:=s) (x:=x) (by simpa [sat] using h);unfold unN at this ⊢;simp only [List.set_cons_succ,List.countP_cons];omega
theorem zTh {s:List Bool} {x:Nat} (h:sat s x=false):0 < unN s:=by have:=zKR h;omega
theorem zUS (s:List Bool):unN s≤s.length:=List.countP_le_length
end Go.Proofs.YtlmdfmnbcndhoaaGreatDoor
