/-
  Lemmas, part 24. Conditions: each theorem's own.
-/
import Derived.Test.YtlmdfmnbcndhoaaGreatDoorRi23
namespace Go.Proofs.YtlmdfmnbcndhoaaGreatDoor
open Go.RowKit
theorem zVZ (w:World):(Instr.build 183 #[]).run Tryz.prog w=.ok (.agg #[]) w:=run_build w _ _ _ (by kernel_rfl)
theorem zWa (w:World):(Instr.build 184 #[]).run Tryz.prog w=.ok (.agg #[]) w:=run_build w _ _ _ (by kernel_rfl)
def zJm (k:Int):Value:=if k=1 then .iface 183 (.agg #[]) else if k=2 then .iface 184 (.agg #[]) else .nilIface
theorem zKb (k:Int) (w:World):Calls Tryz.prog 89 #[.int .i64 k] w fun e w'=>e=.returned (zJm k)∧w'=w:=by
 by_cases h1:k=1
 ·subst h1;go_enter Tryz.func89,Tryz.ntmps89;go_wp2_with fail
  go_ret;exact ⟨rfl,rfl⟩
 ·by_cases h2:k=2
  ·subst h2;go_enter Tryz.func89,Tryz.ntmps89;go_wp2_with fail
   go_ret;exact ⟨rfl,rfl⟩
  ·have HV:=qH (show zJm k=.nilIface by unfold zJm;rw [if_neg h1,if_neg h2]);have m1:(k==1)=false:=by simpa using h1
   have m2:(k==2)=false:=by simpa using h2
   rw [HV.out];clear h1 h2;go_enter Tryz.func89,Tryz.ntmps89;go_wp2_with fail
   go_ret;exact ⟨rfl,rfl⟩
set_option maxHeartbeats 800000 in
theorem zNg (A:Option Addr) (n c:Nat) (L:List Fg) (re lo:Int) (o:Og) (B:Option Addr) (m d:Nat) (b:Nat) (w:World) (hA:Fgs w A n L) (hk:Blk w b 24 #[.slice A n c,.int .i64 re,.int .i64 lo]) (hO:OpIn w o B m d) (hr:zAh n o=true) :
  Calls Tryz.prog 141 #[opV o B m d,.pointer (some ⟨b,0,none⟩)] w fun e w'=>e=.returned (.bool (!zCl L o))∧Below w.heap.size w w':=by
 have hb0:Below w.heap.size w (w.alloc (.cells #[.int .i64 o.kind,.int .i64 o.f,.int .i64 o.fr.f,.int .i64 o.fr.l,.bool o.fr.far,.int .i64 o.fr.pc,.slice B m d,.bool o.over] 32)):=(Below.refl _ _).alloc (Nat.le_refl _) _;have hk2:=hk.alloc (.cells #[.int .i64 o.kind,.int .i64 o.f,.int .i64 o.fr.f,.int .i64 o.fr.l,.bool o.fr.far,.int .i64 o.fr.pc,.slice B m d,.bool o.over] 32);have y0:=(hk2.cell 0).trans rfl;have y1:=(hk2.cell 1).trans rfl;have y2:=(hk2.cell 2).trans rfl;have HC:=qH (zJF A n c L re lo o B m d _ (hA.below hb0) (hO.below hb0) hr);go_enter Tryz.func141,Tryz.ntmps141;go_wp2_with fail
 refine HC.out.mono ?_;rintro e w2 ⟨rfl,hb2⟩;have hb3:=zAa hb0 hb2 hb0.size;clear y0 y1 y2;go_wp2_with fail
 go_ret;exact ⟨rfl,hb3⟩
theorem zTD {L:List Fg} {o:Og} {q:Bool} (h:zCl L o=q) (A:Option Addr) (n c:Nat) (re lo:Int) (B:Option Addr) (m d:Nat) (b:Nat) (w:World) (hA:Fgs w A n L) (hk:Blk w b 24 #[.slice A n c,.int .i64 re,.int .i64 lo]) (hO:OpIn w o B m d) (hr:zAh n o=true) :
  Calls Tryz.prog 141 #[opV o B m d,.pointer (some ⟨b,0,none⟩)] w fun e w'=>e=.returned (.bool (!q))∧Below w.heap.size w w':=by
 subst h;exact zNg A n c L re lo o B m d b w hA hk hO hr
theorem zTE {L:List Fg} {Es:List Oe} (h:∀j,j < Es.length→zCl L (oa Es j).o=true):(Es.all fun x=>zCl L x.o)=true:=by
 rw [List.all_eq_true];intro x hx;obtain ⟨i,hi⟩:=List.getElem?_of_mem hx;have hlt:=(List.getElem?_eq_some_iff.1 hi).1;have h3:=zBT hlt;rw [hi] at h3;injection h3 with h3
 rw [h3];exact h i hlt
theorem zNh {L:List Fg} {Es:List Oe} {i:Nat} (hi:i < Es.length) (h:zCl L (oa Es i).o=false):(Es.all fun x=>zCl L x.o)=false:=by
 cases e:(Es.all fun x=>zCl L x.o) with
 | false=>rfl
 | true=>rw [List.all_eq_true] at e;have:=e _ (List.mem_of_getElem? (zBT hi));rw [h] at this;cases this
set_option maxHeartbeats 3200000 in
theorem zFA (A:Option Addr) (n c:Nat) (L:List Fg) (re lo:Int) (b:Nat) (B:Option Addr) (m d:Nat) (Es:List Oe) (w:World) (hA:Fgs w A n L) (hk:Blk w b 24 #[.slice A n c,.int .i64 re,.int .i64 lo]) (hP:Oprs w B m Es) (hf:∀i,i < Es.length→zAh n (oa Es i).o=true) :
  Calls Tryz.prog 174 #[.slice B m d,.func (.func 141) #[] #[.pointer (some ⟨b,0,none⟩)]] w
   fun e w'=>∃k:Int,e=.returned (.int .i64 k)∧zNJ (Es.all fun x=>zCl L x.o) k∧Below w.heap.size w w':=by
 have hle:=hP.le;have HLEN:=qH hP.len;have HF:=qH hf;clear hf;go_enter Tryz.func174,Tryz.ntmps174;go_wp2_with fail
 go_loopw [8] (fun v wr=>∃i:Nat,i≤m∧v=.int .i64 i∧Below w.heap.size w wr∧Hid (∀j:Nat,j < i→zCl L (oa Es j).o=true)) (fun v _=>m-(intOf v).toNat)
 case atStart=>exact ⟨0,Nat.zero_le _,rfl,Below.refl _ _,qH (fun j hj=>by omega)⟩
 case round =>
  obtain ⟨i,hi,rfl,hbr,HS⟩:=hrel;by_cases hlt:i < m
  ·obtain ⟨g,p,rfl,hg,⟨x0,x1,x2,x3,x4,x5,x6,x7⟩,hin⟩:=(hP.below hbr).at_ hlt;have j0:(0:Int)≤(i:Int):=by omega
   have j1:(i:Int) < (m:Int):=by omega
   have hil:i < Es.length:=by rw [HLEN.out];exact hlt
   obtain ⟨q,hq⟩:∃q,zCl L (oa Es i).o=q:=⟨_,rfl⟩
   have HQ:=qH hq;have HC:=qH (zTD hq A n c re lo _ _ _ b wr (hA.below hbr) (hk.below hbr hk.lt) hin (HF.out i hil));have HIL:=qH hil;clear hq hil hin;generalize oa Es i=x at x0 x1 x2 x3 x4 x5 x6 x7 HC;obtain ⟨⟨kk,ff,⟨gf,gl,gfar,gpc⟩,path,vov⟩,B2,m2,d2⟩:=x;simp only at x0 x1 x2 x3 x4 x5 x6 x7
   cases q with
   | true =>
    have HS1:=qH (show ∀j:Nat,j < i+1→zCl L (oa Es j).o=true from fun j hj=>by
     rcases Nat.decEq j i with e | e
     ·exact HS.out j (by omega)
     ·subst e;exact HQ.out)
    clear HS HQ HIL;go_wp2_with fail
    refine HC.out.mono ?_;rintro e w5 ⟨rfl,hb5⟩;have hb6:=zAa hbr hb5 hbr.size;clear x0 x1 x2 x3 x4 x5 x6 x7;go_wp2_with fail
    go_roundw
    case rel=>exact ⟨i+1,by omega,by go_num,hb6,HS1⟩
    case measure=>simp [intOf];omega
   | false =>
    have hr:=qH (show zNJ (Es.all fun x=>zCl L x.o) (i:Int) by rw [zNh HIL.out HQ.out];unfold zNJ;rw [if_neg (by decide)];omega);clear HS HQ HIL;go_wp2_with fail
    refine HC.out.mono ?_;rintro e w5 ⟨rfl,hb5⟩;have hb6:=zAa hbr hb5 hbr.size;clear x0 x1 x2 x3 x4 x5 x6 x7;go_wp2_with fail
    go_ret;exact ⟨_,rfl,hr.out,hb6⟩
  ·have j1:¬(i:Int) < (m:Int):=by omega
   have hr:=qH (show zNJ (Es.all fun x=>zCl L x.o) (-1) by rw [zTE (fun j hj=>HS.out j (by rw [HLEN.out] at hj;omega))];unfold zNJ;rw [if_pos rfl]);clear HS;go_wp2_with fail
   go_ret;exact ⟨_,rfl,hr.out,hbr⟩
theorem zDV (A:Option Addr) (n c:Nat) (L:List Fg) (re lo:Int) (b:Nat) (B:Option Addr) (m d:Nat) (Es:List Oe) (w:World) (hA:Fgs w A n L) (hk:Blk w b 24 #[.slice A n c,.int .i64 re,.int .i64 lo]) (hP:Oprs w B m Es) (hf:∀i,i < Es.length→zAh n (oa Es i).o=true) :
  Calls Tryz.prog 140 #[.slice B m d,.func (.func 141) #[] #[.pointer (some ⟨b,0,none⟩)]] w
   fun e w'=>e=.returned (.bool (!(Es.all fun x=>zCl L x.o)))∧Below w.heap.size w w':=by
 have HC:=qH (zFA A n c L re lo b B m d Es w hA hk hP hf);go_enter Tryz.func140,Tryz.ntmps140;go_wp2_with fail
 refine HC.out.mono ?_;rintro e w2 ⟨k,rfl,hk2,hb2⟩;have HK:=qH hk2;clear hk2;go_wp2_with fail
 go_ret;refine ⟨zBz ?_,hb2⟩;have h:=HK.out;unfold zNJ at h
 cases hq:(Es.all fun x=>zCl L x.o) with
 | true=>rw [hq,if_pos rfl] at h;simp [h]
 | false=>rw [hq] at h;simp at h;simp [h]
theorem zVm (w:World):(Instr.typeAssert (.iface 184 (.agg #[])) 138 184 true).run Tryz.prog w=.ok (.tuple #[.agg #[],.bool true]) w:=by kernel_rfl
theorem zWq (w:World):(Instr.typeAssert (.iface 183 (.agg #[])) 138 184 true).run Tryz.prog w=.ok (.tuple #[.agg #[],.bool false]) w:=by kernel_rfl
def zSs (L:List Fg) (k:Int) (Es:List Oe):Bool:=if k=2 then Es.all (fun x=>zCl L x.o) else true
set_option maxHeartbeats 1600000 in
set_option maxRecDepth 100000 in
theorem zES (A:Option Addr) (n c:Nat) (L:List Fg) (re lo:Int) (k:Int) (hk:k=1∨k=2) (B:Option Addr) (m d:Nat) (Es:List Oe) (w:World) (hA:Fgs w A n L) (hP:Oprs w B m Es) (hf:∀i,i < Es.length→zAh n (oa Es i).o=true) :
  Calls Tryz.prog 90 #[zJm k,frV A n c re lo,.slice B m d] w fun e w'=>e=.returned (.bool (zSs L k Es))∧Below w.heap.size w w':=by
 have hb0:Below w.heap.size w (w.alloc (.cells #[.slice A n c,.int .i64 re,.int .i64 lo] 24)):=(Below.refl _ _).alloc (Nat.le_refl _) _;have hk0:Blk (w.alloc (.cells #[.slice A n c,.int .i64 re,.int .i64 lo] 24)) w.heap.size 24 #[.slice A n c,.int .i64 re,.int .i64 lo]:=Blk.new _ _ _;have HC:=qH (zDV A n c L re lo w.heap.size B m d Es _ (hA.below hb0) hk0 (hP.below hb0) hf);have ty:=zVm;have tn:=zWq;rcases hk with rfl | rfl
 ·rw [show zJm 1=.iface 183 (.agg #[]) from rfl];go_enter Tryz.func90,Tryz.ntmps90;go_wp2_with fail
  go_ret;exact ⟨rfl,hb0⟩
 ·rw [show zJm 2=.iface 184 (.agg #[]) from rfl];have HR:=qH (show zSs L 2 Es=(Es.all fun x=>zCl L x.o) from rfl);go_enter Tryz.func90,Tryz.ntmps90;go_wp2_with fail
  refine HC.out.mono ?_;rintro e w2 ⟨rfl,hb2⟩;have hb3:=zAa hb0 hb2 hb0.size;go_wp2_with fail
  go_ret;exact ⟨zBz (by rw [HR.out]),hb3⟩
def zKc (L:List Fg) (o:Og):Prop:=zAh L.length o=true∧o.path.length≤10000
theorem zPc (Q:List (Nst×Bool)):4*Q.length≤(Q.flatMap stT).length:=by
 induction Q with
 | nil=>simp
 | cons x Q ih =>
  have:4≤(stT x).length:=by simp [stT,plT];omega
  rw [List.flatMap_cons,List.length_append,List.length_cons];omega
theorem zRe {n:Nop} (h:okN n):4*n.path.length≤(zID n).length:=by
 by_cases hp:n.path=[]
 ·simp [hp]
 ·have hk:n.kind=3:=by
   rcases h.2 with ⟨_,_,h,_⟩ | ⟨_,_,h⟩ | ⟨h,_⟩ | ⟨_,_,h⟩ | ⟨_,_,h⟩
   ·exact absurd h hp
   ·exact absurd h hp
   ·exact h
   ·exact absurd h hp
   ·exact absurd h hp
  have:=zPc n.path;unfold zID tlT;rw [if_neg (by omega),if_pos hk];simp only [List.length_cons,List.length_append];omega
theorem zRf {L:List Fg} {S:List UInt8} (h:zEl L S=0) (hS:S.length≤8000):zKc L (zGX L S):=by
 by_cases hx:∃n,okN n∧S=zDi n
 ·obtain ⟨n,h1,rfl⟩:=hx;obtain ⟨h2,h3⟩:=zGj L h1;rw [h2] at h;have hl:zAx L n=false:=by cases e:zAx L n<;>simp [e] at h ⊢
  rw [hl] at h3;rw [h3];refine ⟨(zWp h1 hl).1,?_⟩;show (n.path.map (pOf L)).length≤_;rw [List.length_map];have h4:=zRe h1;have h5:=zFv (zDi n);rw [zDK] at h5;omega
 ·rw [(zLZ L fun n h1 h2=>hx ⟨n,h1,h2⟩).1] at h;omega
theorem zHY (L:List Fg):∀(ws:List (List UInt8)) (O:List Og),(∀p∈ws,p.length≤8000)→(∀o∈O,zKc L o)→∀o∈(zBG L ws O).1,zKc L o
 | [],O,_,hO=>hO
 | [p],O,_,hO=>by
  unfold zBG;split
  ·exact hO
  ·simp
 | p :: q :: r,O,hw,hO=>by
  unfold zBG;split
  ·rename_i h;refine zHY L (q :: r) _ (fun x hx=>hw x (List.mem_cons_of_mem _ hx)) fun o ho=>?_
   rcases List.mem_append.1 ho with h1 | h1
   ·exact hO o h1
   ·rw [List.mem_singleton.1 h1];exact zRf h (hw p (List.mem_cons_self ..))
  ·simp
theorem zHe (L:List Fg):∀(ws:List (List UInt8)) (O:List Og),(zBG L ws O).1.length≤O.length+ws.length
 | [],O=>by unfold zBG;simp
 | [p],O=>by unfold zBG;split<;>simp
 | p :: q :: r,O=>by
  unfold zBG;split
  ·have:=zHe L (q :: r) (O++[zGX L p]);simp at this ⊢;omega
  ·simp
theorem zTF {L:List Fg} {re lo:Int} {S:List UInt8}:(∀o∈(rlR L re lo S).1,zKc L o)∧(rlR L re lo S).1.length≤8001:=by
 unfold rlR;by_cases h:zAA L re lo S=0
 ·rw [if_pos h];have hS:=(zBO h).1;refine ⟨zHY L _ [] (fun p hp=>Nat.le_trans (zAX 10 S p hp) hS) (by simp),?_⟩;have h1:=zHe L (zAH 10 S) [];have h2:(zAH 10 S).length≤S.length+1:=by
   rw [zEF];have:=List.count_le_length (a:=(10:UInt8)) (l:=S);omega
  simp at h1;omega
 ·rw [if_neg h];simp
theorem zKd:∀{ws:List (List UInt8)} {ns:List Nop},zBy ws=some ns→ns.length=ws.length∧∀n∈ns,∃p∈ws,zAy p=some n
 | [],ns,h=>by
  simp [zBy] at h;subst h;simp
 | p :: ws,ns,h=>by
  rw [zBy] at h
  cases h1:zAy p with
  | none=>rw [h1] at h;simp at h
  | some n =>
   cases h2:zBy ws with
   | none=>rw [h1,h2] at h;simp at h
   | some ms =>
    rw [h1,h2] at h;simp only [Option.some.injEq] at h;subst h;obtain ⟨h3,h4⟩:=zKd h2;refine ⟨by simp [h3],fun m hm=>?_⟩;rcases List.mem_cons.1 hm with rfl | hm
    ·exact ⟨p,List.mem_cons_self ..,h1⟩
    ·obtain ⟨q,hq,he⟩:=h4 m hm;exact ⟨q,List.mem_cons_of_mem _ hq,he⟩
theorem zTG {L:List Fg} {re lo:Int} {S:List UInt8}:(∀o∈rsO L re lo S,zKc L o)∧(rsO L re lo S).length≤8001:=by
 unfold rsO;by_cases h:zAA L re lo S=0
 ·rw [if_pos h];have hS:=(zBO h).1;unfold itO;by_cases h0:S=[]
  ·rw [if_pos h0];simp
  ·rw [if_neg h0]
   cases hs:zBy (zAH 32 S) with
   | none=>simp
   | some ns =>
    simp only;by_cases hl:ns.any (zAx L)=true
    ·rw [if_pos hl];simp
    ·rw [if_neg hl];obtain ⟨h1,h2⟩:=zKd hs;refine ⟨fun o ho=>?_,?_⟩
     ·obtain ⟨n,hn,rfl⟩:=List.mem_map.1 ho;obtain ⟨p,hp,hpn⟩:=h2 n hn;have h3:=zCL hpn;have h4:zAx L n=false:=by
       cases e:zAx L n with
       | false=>rfl
       | true=>exact absurd (List.any_eq_true.2 ⟨n,hn,e⟩) hl
      refine ⟨(zWp h3.1 h4).1,?_⟩;show (n.path.map (pOf L)).length≤_;rw [List.length_map];have h5:=zIT h3.1;rw [←h3.2.2] at h5;have h6:=zAX 32 S p hp;omega
     ·rw [List.length_map,h1];have:=zCe S;omega
 ·rw [if_neg h];simp
theorem zET {L:List Fg} {w:World} {base:Nat} {B:Option Addr} {m d:Nat} {Es:List Oe} (h:OpsOwn w base B m d Es) (hm:m≤1000000) {O:List Og} (hE:List.map (fun x:Oe=>x.o) Es=O) (hg:∀o∈O,zKc L o) (hl:O.length≤8001) :
  Oprs w B m Es∧m≤10000∧zUO Es∧(∀i,i < Es.length→zAh L.length (oa Es i).o=true)∧O.all (zAh L.length)=true:=by
 have hO:=h.oprs hm;have hlen:Es.length=m:=hO.len;have h1:Es.length=O.length:=by rw [←hE,List.length_map]
 have hmem:∀e∈Es,zKc L e.o:=fun e he=>hg _ (by rw [←hE];exact List.mem_map_of_mem he)
 refine ⟨hO,by omega,fun e he=>?_,fun i hi=>?_,?_⟩
 ·have h2:=(h.ok e he).2.1.len;have h3:=(hmem e he).2;omega
 ·exact (hmem _ (List.mem_of_getElem? (zBT hi))).1
 ·rw [List.all_eq_true];intro o ho;exact (hg o ho).1
set_option maxHeartbeats 1600000 in
theorem zNi (F:Fm) (S:List UInt8) (w:World) (hA:Fgs w F.A F.n F.L) (hc:F.n≤F.c) (ht:Tabs w) :
  Calls Tryz.prog 238 #[.agg #[],frV F.A F.n F.c F.re F.lo,.string (bA S)] w (zDj w (rlR F.L F.re F.lo S).1 (rlR F.L F.re F.lo S).2.2):=by
 have hb0:Below w.heap.size w ((w.alloc (.cells #[] 183)).alloc (.cells #[.slice F.A F.n F.c,.int .i64 F.re,.int .i64 F.lo] 24)):=((Below.refl _ _).alloc (Nat.le_refl _) _).alloc (by simp) _;have HC:=qH (zHb F S _ (hA.below hb0) hc (ht.below hb0));have HB:=qH hb0;clear hA ht hb0;go_enter Tryz.func238,Tryz.ntmps238;go_wp2_with fail
 refine HC.out.mono ?_;rintro e Y ⟨B,m,d,Es,rfl,h1,h2,h3,h4⟩;have HF:=qH (show zDj w (rlR F.L F.re F.lo S).1 (rlR F.L F.re F.lo S).2.2 (.returned (.tuple #[.slice B m d,.int .i64 (rlR F.L F.re F.lo S).2.2])) Y from ⟨B,m,d,Es,rfl,h1,h2,h3.mono HB.out.size,zAa HB.out h4 HB.out.size⟩);clear h1 h2 h3 h4;go_wp2_with fail
 go_ret2;exact HF.out
set_option maxHeartbeats 1600000 in
theorem zNj (F:Fm) (S:List UInt8) (w:World) (hA:Fgs w F.A F.n F.L) (hc:F.n≤F.c) (ht:Tabs w) :
  Calls Tryz.prog 240 #[.agg #[],frV F.A F.n F.c F.re F.lo,.string (bA S)] w (zDj w (rsO F.L F.re F.lo S) (rsE F.L F.re F.lo S)):=by
 have hb0:Below w.heap.size w ((w.alloc (.cells #[] 184)).alloc (.cells #[.slice F.A F.n F.c,.int .i64 F.re,.int .i64 F.lo] 24)):=((Below.refl _ _).alloc (Nat.le_refl _) _).alloc (by simp) _;have HC:=qH (zDD F S _ (hA.below hb0) hc (ht.below hb0));have HB:=qH hb0;clear hA ht hb0;go_enter Tryz.func240,Tryz.ntmps240;go_wp2_with fail
 refine HC.out.mono ?_;rintro e Y ⟨B,m,d,Es,rfl,h1,h2,h3,h4⟩;have HF:=qH (show zDj w (rsO F.L F.re F.lo S) (rsE F.L F.re F.lo S) (.returned (.tuple #[.slice B m d,.int .i64 (rsE F.L F.re F.lo S)])) Y from ⟨B,m,d,Es,rfl,h1,h2,h3.mono HB.out.size,zAa HB.out h4 HB.out.size⟩);clear h1 h2 h3 h4;go_wp2_with fail
 go_ret2;exact HF.out
set_option maxHeartbeats 1600000 in
theorem zHf (F:Fm) (B:Option Addr) (m d:Nat) (Es:List Oe) (w:World) (hA:Fgs w F.A F.n F.L) (hc:F.n≤F.c) (ht:Tabs w) (hv:frB F.L F.re F.lo=true) (hO:Oprs w B m Es) (hm:m≤10000) (hf:zUO Es) {O:List Og} (hE:List.map (fun x:Oe=>x.o) Es=O) (hr:O.all (zAh F.L.length)=true) :
  Calls Tryz.prog 239 #[.agg #[],frV F.A F.n F.c F.re F.lo,.slice B m d] w fun e w'=>e=.returned (.tuple #[.string (bA (zDf F.L O)),.int .i64 0])∧Below w.heap.size w w':=by
 have hb0:Below w.heap.size w ((w.alloc (.cells #[] 183)).alloc (.cells #[.slice F.A F.n F.c,.int .i64 F.re,.int .i64 F.lo] 24)):=((Below.refl _ _).alloc (Nat.le_refl _) _).alloc (by simp) _;have h1:=zKN F.A F.n F.c F.L F.re F.lo B m d Es _ (hA.below hb0) hc (hO.below hb0) hm hf (ht.below hb0);have h2:zAP F.L F.re F.lo (Es.map (·.o))=0:=by unfold zAP;rw [hE,hv,hr];rfl
 rw [h2,if_pos rfl,hE] at h1;have HC:=qH h1;have HB:=qH hb0;clear hA ht hb0 h1 h2 hO;go_enter Tryz.func239,Tryz.ntmps239;go_wp2_with fail
 refine HC.out.mono ?_;rintro e Y ⟨rfl,h4⟩;have HF:=qH (zAa HB.out h4 HB.out.size);clear h4;go_wp2_with fail
 go_ret2;exact ⟨rfl,HF.out⟩
set_option maxHeartbeats 1600000 in
theorem zHg (F:Fm) (B:Option Addr) (m d:Nat) (Es:List Oe) (w:World) (hA:Fgs w F.A F.n F.L) (hc:F.n≤F.c) (hv:frB F.L F.re F.lo=true) (hO:Oprs w B m Es) (hm:m≤10000) (hf:zUO Es) {O:List Og} (hE:List.map (fun x:Oe=>x.o) Es=O) (hr:O.all (zAh F.L.length)=true) (hcn:O.all (zCl F.L)=true) :
  Calls Tryz.prog 241 #[.agg #[],frV F.A F.n F.c F.re F.lo,.slice B m d] w fun e w'=>e=.returned (.tuple #[.string (bA (zGD F.L O)),.int .i64 0])∧Below w.heap.size w w':=by
 have hb0:Below w.heap.size w ((w.alloc (.cells #[] 184)).alloc (.cells #[.slice F.A F.n F.c,.int .i64 F.re,.int .i64 F.lo] 24)):=((Below.refl _ _).alloc (Nat.le_refl _) _).alloc (by simp) _;have h1:=zKO F.A F.n F.c F.L F.re F.lo B m d Es _ (hA.below hb0) hc (hO.below hb0) hm hf;have h2:zAP F.L F.re F.lo O=0:=by unfold zAP;rw [hv,hr];rfl
 have h3:zQl F.L F.re F.lo O=0:=by unfold zQl;rw [h2,if_pos rfl,hcn,if_pos rfl]
 have h5:zTc F.L F.re F.lo O=zGD F.L O:=by unfold zTc;rw [h3,if_pos rfl]
 rw [hE,h3,h5] at h1;have HC:=qH h1;have HB:=qH hb0;clear hA hb0 h1 h2 h3 h5 hO;go_enter Tryz.func241,Tryz.ntmps241;go_wp2_with fail
 refine HC.out.mono ?_;rintro e Y ⟨rfl,h4⟩;have HF:=qH (zAa HB.out h4 HB.out.size);clear h4;go_wp2_with fail
 go_ret2;exact ⟨rfl,HF.out⟩
noncomputable def ntO (L:List Fg) (re lo:Int) (k:Int) (S:List UInt8):List Og:=if k=1 then (rlR L re lo S).1 else rsO L re lo S
noncomputable def ntE (L:List Fg) (re lo:Int) (k:Int) (S:List UInt8):Int:=if k=1 then (rlR L re lo S).2.2 else rsE L re lo S
def ntW (L:List Fg) (k:Int) (O:List Og):List UInt8:=if k=1 then zDf L O else zGD L O
noncomputable def trE (L:List Fg) (re lo:Int) (S:List UInt8) (from_ to_:Int):Int :=
 if frB L re lo=true∧(from_=1∨from_=2)∧(to_=1∨to_=2) then
  if ntE L re lo from_ S=0 then (if to_=2∧(ntO L re lo from_ S).all (zCl L)=false then 8 else 0) else ntE L re lo from_ S
 else 2
noncomputable def trS (L:List Fg) (re lo:Int) (S:List UInt8) (from_ to_:Int):List UInt8:=if trE L re lo S from_ to_=0 then ntW L to_ (ntO L re lo from_ S) else []
theorem zTH {L:List Fg} {re lo k:Int} {S:List UInt8}:(∀o∈ntO L re lo k S,zKc L o)∧(ntO L re lo k S).length≤8001:=by
 unfold ntO;split
 ·exact zTF
 ·exact zTG
theorem zTI (F:Fm) (S:List UInt8) (k:Int) (hk:k=1∨k=2) (w:World) (hA:Fgs w F.A F.n F.L) (hc:F.n≤F.c) (ht:Tabs w) :
  Calls Tryz.prog (if k=1 then 238 else 240) #[.agg #[],frV F.A F.n F.c F.re F.lo,.string (bA S)] w (zDj w (ntO F.L F.re F.lo k S) (ntE F.L F.re F.lo k S)):=by
 rcases hk with rfl | rfl
 ·exact zNi F S w hA hc ht
 ·exact zNj F S w hA hc ht
theorem zTJ (w : World) : (method 365 183 (.agg #[]) "catscradle/notes.read").run Tryz.prog w = .ok (238, .agg #[]) w := by kernel_rfl
theorem zTK (w : World) : (method 365 184 (.agg #[]) "catscradle/notes.read").run Tryz.prog w = .ok (240, .agg #[]) w := by kernel_rfl
theorem zTL (w : World) : (method 365 183 (.agg #[]) "catscradle/notes.write").run Tryz.prog w = .ok (239, .agg #[]) w := by kernel_rfl
theorem zTM (w : World) : (method 365 184 (.agg #[]) "catscradle/notes.write").run Tryz.prog w = .ok (241, .agg #[]) w := by kernel_rfl
set_option maxHeartbeats 12800000 in
set_option maxRecDepth 100000 in
theorem zHh (F:Fm) (S:List UInt8) (p q:Int) (w:World) (hA:Fgs w F.A F.n F.L) (hc:F.n≤F.c) (ht:Tabs w) :
  Calls Tryz.prog 40 #[frV F.A F.n F.c F.re F.lo,.string (bA S),.int .i64 p,.int .i64 q] w fun e w'=>e=.returned (.tuple #[.string (bA (trS F.L F.re F.lo S p q)),.int .i64 (trE F.L F.re F.lo S p q)])∧Below w.heap.size w w':=by
 have hb0:Below w.heap.size w (w.alloc (.cells #[.slice F.A F.n F.c,.int .i64 F.re,.int .i64 F.lo] 24)):=(Below.refl _ _).alloc (Nat.le_refl _) _;have hk0:Blk (w.alloc (.cells #[.slice F.A F.n F.c,.int .i64 F.re,.int .i64 F.lo] 24)) w.heap.size 24 #[.slice F.A F.n F.c,.int .i64 F.re,.int .i64 F.lo]:=Blk.new _ _ _;obtain ⟨b,hb⟩:∃b,frB F.L F.re F.lo=b:=⟨_,rfl⟩
 obtain ⟨E,hE⟩:∃x,trE F.L F.re F.lo S p q=x:=⟨_,rfl⟩
 obtain ⟨T,hT⟩:∃x,trS F.L F.re F.lo S p q=x:=⟨_,rfl⟩
 rw [hE,hT];have HE:=qH hE;have HTT:=qH hT;have HB:=qH hb;have HA:=qH hA;have HT:=qH ht;have HV:=qH (zEx hb F.A F.n F.c _ (hA.below hb0) hc);have HCH:=qH (fun k wx=>zKb k wx)
 have BAD:=qH (fun (h:¬(frB F.L F.re F.lo=true∧(p=1∨p=2)∧(q=1∨q=2)))=>(show E=2∧T=[] by
  have h1:E=2:=by rw [←hE];unfold trE;rw [if_neg h]
  refine ⟨h1,?_⟩
  rw [←hT];unfold trS;rw [hE,h1];rfl))
 clear hE hT hb hA ht;go_enter Tryz.func40,Tryz.ntmps40;go_wp2_with fail
 generalize w.alloc (.cells #[.slice F.A F.n F.c,.int .i64 F.re,.int .i64 F.lo] 24)=Y at hb0 hk0 HV ⊢;refine HV.out.mono ?_;rintro e Y2 ⟨rfl,hb2⟩;have hf2:=hk0.below hb2 hk0.lt;have hb3:=zAa hb0 hb2 hb0.size;clear hk0 hb0 hb2 HV
 cases b with
 | false =>
  have HF:=qH (BAD.out (fun h=>by rw [HB.out] at h;cases h.1));clear BAD hf2;go_wp2_with fail
  go_ret2;exact ⟨by rw [HF.out.1,HF.out.2];rfl,hb3⟩
 | true =>
  go_wp2_with fail
  refine (HCH.out p _).mono ?_;rintro e Y3 ⟨rfl,rfl⟩;go_wp2_with fail
  refine (HCH.out q _).mono ?_;rintro e Y4 ⟨rfl,rfl⟩;by_cases hp:p=1∨p=2
  ·by_cases hq:q=1∨q=2
   ·have v0:Y4.cell? ⟨w.heap.size,0,none⟩=some (.slice F.A F.n F.c):=(hf2.cell 0).trans rfl;obtain ⟨-,v1,v2⟩:=cQ3 hf2;have hNG:=zTH (L:=F.L) (re:=F.re) (lo:=F.lo) (k:=p) (S:=S);have hRD:=zTI F S p hp Y4 (HA.out.below hb3) hc (HT.out.below hb3);have hTE:E=if ntE F.L F.re F.lo p S=0 then (if q=2∧(ntO F.L F.re F.lo p S).all (zCl F.L)=false then 8 else 0) else ntE F.L F.re F.lo p S:=by rw [←HE.out];unfold trE;rw [if_pos ⟨HB.out,hp,hq⟩]
    have hTT:T=if E=0 then ntW F.L q (ntO F.L F.re F.lo p S) else []:=by rw [←HTT.out];unfold trS;rw [HE.out]
    obtain ⟨O,hOO⟩:∃x,ntO F.L F.re F.lo p S=x:=⟨_,rfl⟩
    obtain ⟨er,her⟩:∃x,ntE F.L F.re F.lo p S=x:=⟨_,rfl⟩
    rw [hOO,her] at hRD hTE;rw [hOO] at hTT hNG;have HNG:=qH hNG;have HRD:=qH hRD;have HTE:=qH hTE;have HTS:=qH hTT;have mwr:=zTJ;have msr:=zTK;have mww:=zTL;have msw:=zTM;clear BAD hNG hRD hTE hTT hOO her;rcases hp with rfl | rfl
    ·rcases hq with rfl | rfl
     ·skip;rw [if_pos rfl] at HRD;rw [show zJm 1=.iface 183 (.agg #[]) from rfl];go_wp2_with fail
      refine HRD.out.mono ?_;rintro e Y5 ⟨B,m,d,Es,rfl,hEs,hm,hO,hb5⟩;have HEs:=qH hEs;have hb6:=zAa hb3 hb5 hb3.size;have hf5:=hf2.below hb5 hf2.lt;obtain ⟨u0,u1,u2⟩:=cQ3 hf5;by_cases h0:er=0
      ·subst h0;obtain ⟨hOP,hm2,hfi,hri,hal⟩:=zET hO hm hEs HNG.out.1 HNG.out.2;have hnl:F.n=F.L.length:=HA.out.len.symm;have HAL:=qH (zES F.A F.n F.c F.L F.re F.lo 1 (by omega) B m d Es Y5 (HA.out.below hb6) hOP (by rw [hnl];exact hri));obtain ⟨av,hav⟩:∃x,zSs F.L 1 Es=x:=⟨_,rfl⟩
       rw [hav] at HAL;have HT2:=qH (HTE.out.trans (if_pos rfl));have HK:=qH (And.intro hOP (And.intro hm2 (And.intro hfi hal)));have HAV:=qH hav;clear hO hm hEs hOP hm2 hfi hri hal hav hnl HRD v0 v1 v2;go_wp2_with fail
       refine HAL.out.mono ?_;rintro e Y6 ⟨rfl,hb7⟩;have hb8:=zAa hb6 hb7 hb6.size;have hf6:=hf5.below hb7 hf5.lt;obtain ⟨t0,t1,t2⟩:=cQ3 hf6;clear u0 u1 u2
       cases av with
       | true =>
        have HEZ:Hid (E=0):=qH (by rw [HT2.out,if_neg (by omega)]);have HWR:=qH (zHf F B m d Es Y6 (HA.out.below hb8) hc (HT.out.below hb8) HB.out (HK.out.1.below hb7) HK.out.2.1 HK.out.2.2.1 HEs.out HK.out.2.2.2);have HTZ:=qH (show T=zDf F.L O by rw [HTS.out,HEZ.out];rfl);go_wp2_with fail
        refine HWR.out.mono ?_;rintro e Y7 ⟨rfl,hb9⟩;have hb10:=zAa hb8 hb9 hb8.size;clear t0 t1 t2;go_wp2_with fail
        go_ret2;exact ⟨by rw [HEZ.out,HTZ.out];rfl,hb10⟩
       | false =>
        exact absurd HAV.out (by rw [show zSs F.L 1 Es=true from rfl];simp)
      ·have HEZ:Hid (E=er):=qH (by rw [HTE.out,if_neg h0]);have HTZ:Hid (T=[]):=qH (by rw [HTS.out,HEZ.out,if_neg h0]);have k0:(er != 0)=true:=by simpa using h0
       clear h0 hO hm hEs u0 u1 u2 v0 v1 v2;go_wp2_with fail
       go_ret2;exact ⟨by rw [HEZ.out,HTZ.out];rfl,hb6⟩
     ·skip;rw [if_pos rfl] at HRD;rw [show zJm 1=.iface 183 (.agg #[]) from rfl,show zJm 2=.iface 184 (.agg #[]) from rfl];go_wp2_with fail
      refine HRD.out.mono ?_;rintro e Y5 ⟨B,m,d,Es,rfl,hEs,hm,hO,hb5⟩;have HEs:=qH hEs;have hb6:=zAa hb3 hb5 hb3.size;have hf5:=hf2.below hb5 hf2.lt;obtain ⟨u0,u1,u2⟩:=cQ3 hf5;by_cases h0:er=0
      ·subst h0;obtain ⟨hOP,hm2,hfi,hri,hal⟩:=zET hO hm hEs HNG.out.1 HNG.out.2;have hnl:F.n=F.L.length:=HA.out.len.symm;have HAL:=qH (zES F.A F.n F.c F.L F.re F.lo 2 (by omega) B m d Es Y5 (HA.out.below hb6) hOP (by rw [hnl];exact hri));obtain ⟨av,hav⟩:∃x,zSs F.L 2 Es=x:=⟨_,rfl⟩
       rw [hav] at HAL;have HT2:=qH (HTE.out.trans (if_pos rfl));have HK:=qH (And.intro hOP (And.intro hm2 (And.intro hfi hal)));have HAV:=qH hav;clear hO hm hEs hOP hm2 hfi hri hal hav hnl HRD v0 v1 v2;go_wp2_with fail
       refine HAL.out.mono ?_;rintro e Y6 ⟨rfl,hb7⟩;have hb8:=zAa hb6 hb7 hb6.size;have hf6:=hf5.below hb7 hf5.lt;obtain ⟨t0,t1,t2⟩:=cQ3 hf6;clear u0 u1 u2
       cases av with
       | true =>
        have hcn:O.all (zCl F.L)=true:=by rw [←HEs.out,List.all_map];exact HAV.out
        have HEZ:Hid (E=0):=qH (by rw [HT2.out,if_neg (by rw [hcn];simp)]);have HWR:=qH (zHg F B m d Es Y6 (HA.out.below hb8) hc HB.out (HK.out.1.below hb7) HK.out.2.1 HK.out.2.2.1 HEs.out HK.out.2.2.2 hcn);have HTZ:=qH (show T=zGD F.L O by rw [HTS.out,HEZ.out];rfl);clear hcn;go_wp2_with fail
        refine HWR.out.mono ?_;rintro e Y7 ⟨rfl,hb9⟩;have hb10:=zAa hb8 hb9 hb8.size;clear t0 t1 t2;go_wp2_with fail
        go_ret2;exact ⟨by rw [HEZ.out,HTZ.out];rfl,hb10⟩
       | false =>
        have hcn:O.all (zCl F.L)=false:=by rw [←HEs.out,List.all_map];exact HAV.out
        have HEZ:Hid (E=8):=qH (by rw [HT2.out,if_pos (by first | exact ⟨rfl,hcn⟩ | exact ⟨trivial,hcn⟩)]);have HTZ:=qH (show T=[] by rw [HTS.out,HEZ.out];rfl);clear hcn;go_wp2_with fail
        go_ret2;exact ⟨by rw [HEZ.out,HTZ.out];rfl,hb8⟩
      ·have HEZ:Hid (E=er):=qH (by rw [HTE.out,if_neg h0]);have HTZ:Hid (T=[]):=qH (by rw [HTS.out,HEZ.out,if_neg h0]);have k0:(er != 0)=true:=by simpa using h0
       clear h0 hO hm hEs u0 u1 u2 v0 v1 v2;go_wp2_with fail
       go_ret2;exact ⟨by rw [HEZ.out,HTZ.out];rfl,hb6⟩
    ·rcases hq with rfl | rfl
     ·skip;rw [if_neg (by omega)] at HRD;rw [show zJm 2=.iface 184 (.agg #[]) from rfl,show zJm 1=.iface 183 (.agg #[]) from rfl];go_wp2_with fail
      refine HRD.out.mono ?_;rintro e Y5 ⟨B,m,d,Es,rfl,hEs,hm,hO,hb5⟩;have HEs:=qH hEs;have hb6:=zAa hb3 hb5 hb3.size;have hf5:=hf2.below hb5 hf2.lt;obtain ⟨u0,u1,u2⟩:=cQ3 hf5;by_cases h0:er=0
      ·subst h0;obtain ⟨hOP,hm2,hfi,hri,hal⟩:=zET hO hm hEs HNG.out.1 HNG.out.2;have hnl:F.n=F.L.length:=HA.out.len.symm;have HAL:=qH (zES F.A F.n F.c F.L F.re F.lo 1 (by omega) B m d Es Y5 (HA.out.below hb6) hOP (by rw [hnl];exact hri));obtain ⟨av,hav⟩:∃x,zSs F.L 1 Es=x:=⟨_,rfl⟩
       rw [hav] at HAL;have HT2:=qH (HTE.out.trans (if_pos rfl));have HK:=qH (And.intro hOP (And.intro hm2 (And.intro hfi hal)));have HAV:=qH hav;clear hO hm hEs hOP hm2 hfi hri hal hav hnl HRD v0 v1 v2;go_wp2_with fail
       refine HAL.out.mono ?_;rintro e Y6 ⟨rfl,hb7⟩;have hb8:=zAa hb6 hb7 hb6.size;have hf6:=hf5.below hb7 hf5.lt;obtain ⟨t0,t1,t2⟩:=cQ3 hf6;clear u0 u1 u2
       cases av with
       | true =>
        have HEZ:Hid (E=0):=qH (by rw [HT2.out,if_neg (by omega)]);have HWR:=qH (zHf F B m d Es Y6 (HA.out.below hb8) hc (HT.out.below hb8) HB.out (HK.out.1.below hb7) HK.out.2.1 HK.out.2.2.1 HEs.out HK.out.2.2.2);have HTZ:=qH (show T=zDf F.L O by rw [HTS.out,HEZ.out];rfl);go_wp2_with fail
        refine HWR.out.mono ?_;rintro e Y7 ⟨rfl,hb9⟩;have hb10:=zAa hb8 hb9 hb8.size;clear t0 t1 t2;go_wp2_with fail
        go_ret2;exact ⟨by rw [HEZ.out,HTZ.out];rfl,hb10⟩
       | false =>
        exact absurd HAV.out (by rw [show zSs F.L 1 Es=true from rfl];simp)
      ·have HEZ:Hid (E=er):=qH (by rw [HTE.out,if_neg h0]);have HTZ:Hid (T=[]):=qH (by rw [HTS.out,HEZ.out,if_neg h0]);have k0:(er != 0)=true:=by simpa using h0
       clear h0 hO hm hEs u0 u1 u2 v0 v1 v2;go_wp2_with fail
       go_ret2;exact ⟨by rw [HEZ.out,HTZ.out];rfl,hb6⟩
     ·skip;rw [if_neg (by omega)] at HRD;rw [show zJm 2=.iface 184 (.agg #[]) from rfl];go_wp2_with fail
      refine HRD.out.mono ?_;rintro e Y5 ⟨B,m,d,Es,rfl,hEs,hm,hO,hb5⟩;have HEs:=qH hEs;have hb6:=zAa hb3 hb5 hb3.size;have hf5:=hf2.below hb5 hf2.lt;obtain ⟨u0,u1,u2⟩:=cQ3 hf5;by_cases h0:er=0
      ·subst h0;obtain ⟨hOP,hm2,hfi,hri,hal⟩:=zET hO hm hEs HNG.out.1 HNG.out.2;have hnl:F.n=F.L.length:=HA.out.len.symm;have HAL:=qH (zES F.A F.n F.c F.L F.re F.lo 2 (by omega) B m d Es Y5 (HA.out.below hb6) hOP (by rw [hnl];exact hri));obtain ⟨av,hav⟩:∃x,zSs F.L 2 Es=x:=⟨_,rfl⟩
       rw [hav] at HAL;have HT2:=qH (HTE.out.trans (if_pos rfl));have HK:=qH (And.intro hOP (And.intro hm2 (And.intro hfi hal)));have HAV:=qH hav;clear hO hm hEs hOP hm2 hfi hri hal hav hnl HRD v0 v1 v2;go_wp2_with fail
       refine HAL.out.mono ?_;rintro e Y6 ⟨rfl,hb7⟩;have hb8:=zAa hb6 hb7 hb6.size;have hf6:=hf5.below hb7 hf5.lt;obtain ⟨t0,t1,t2⟩:=cQ3 hf6;clear u0 u1 u2
       cases av with
       | true =>
        have hcn:O.all (zCl F.L)=true:=by rw [←HEs.out,List.all_map];exact HAV.out
        have HEZ:Hid (E=0):=qH (by rw [HT2.out,if_neg (by rw [hcn];simp)]);have HWR:=qH (zHg F B m d Es Y6 (HA.out.below hb8) hc HB.out (HK.out.1.below hb7) HK.out.2.1 HK.out.2.2.1 HEs.out HK.out.2.2.2 hcn);have HTZ:=qH (show T=zGD F.L O by rw [HTS.out,HEZ.out];rfl);clear hcn;go_wp2_with fail
        refine HWR.out.mono ?_;rintro e Y7 ⟨rfl,hb9⟩;have hb10:=zAa hb8 hb9 hb8.size;clear t0 t1 t2;go_wp2_with fail
        go_ret2;exact ⟨by rw [HEZ.out,HTZ.out];rfl,hb10⟩
       | false =>
        have hcn:O.all (zCl F.L)=false:=by rw [←HEs.out,List.all_map];exact HAV.out
        have HEZ:Hid (E=8):=qH (by rw [HT2.out,if_pos (by first | exact ⟨rfl,hcn⟩ | exact ⟨trivial,hcn⟩)]);have HTZ:=qH (show T=[] by rw [HTS.out,HEZ.out];rfl);clear hcn;go_wp2_with fail
        go_ret2;exact ⟨by rw [HEZ.out,HTZ.out];rfl,hb8⟩
      ·have HEZ:Hid (E=er):=qH (by rw [HTE.out,if_neg h0]);have HTZ:Hid (T=[]):=qH (by rw [HTS.out,HEZ.out,if_neg h0]);have k0:(er != 0)=true:=by simpa using h0
       clear h0 hO hm hEs u0 u1 u2 v0 v1 v2;go_wp2_with fail
       go_ret2;exact ⟨by rw [HEZ.out,HTZ.out];rfl,hb6⟩
   ·have HF:=qH (BAD.out (fun h=>hq h.2.2));have hqn:zJm q=.nilIface:=by unfold zJm;rw [if_neg (fun e=>hq (.inl e)),if_neg (fun e=>hq (.inr e))]
    rw [hqn];clear hq hqn BAD hf2;rcases hp with rfl | rfl
    ·rw [show zJm 1=.iface 183 (.agg #[]) from rfl];go_wp2_with fail
     go_ret2;exact ⟨by rw [HF.out.1,HF.out.2];rfl,hb3⟩
    ·rw [show zJm 2=.iface 184 (.agg #[]) from rfl];go_wp2_with fail
     go_ret2;exact ⟨by rw [HF.out.1,HF.out.2];rfl,hb3⟩
  ·have HF:=qH (BAD.out (fun h=>hp h.2.1));have hpn:zJm p=.nilIface:=by unfold zJm;rw [if_neg (fun e=>hp (.inl e)),if_neg (fun e=>hp (.inr e))]
   rw [hpn];clear hp hpn BAD hf2;go_wp2_with fail
   go_ret2;exact ⟨by rw [HF.out.1,HF.out.2];rfl,hb3⟩
end Go.Proofs.YtlmdfmnbcndhoaaGreatDoor
