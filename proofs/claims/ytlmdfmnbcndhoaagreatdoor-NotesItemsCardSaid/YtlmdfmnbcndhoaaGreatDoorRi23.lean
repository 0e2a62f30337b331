/-
  Lemmas, part 23. Conditions: each theorem's own.
-/
import Derived.Test.YtlmdfmnbcndhoaaGreatDoorRi22
import Derived.Test.YtlmdfmnbcndhoaaGreatDoorRi18
namespace Go.Proofs.YtlmdfmnbcndhoaaGreatDoor
open Go.RowKit
noncomputable def zBy:List (List UInt8)→Option (List Nop)
 | []=>some []
 | S :: T=>match zAy S,zBy T with
  | some n,some ns=>some (n :: ns)
  | _,_=>none
theorem zDN:∀(T:List (List UInt8)) (S:List UInt8),zBy (T++[S])=match zBy T,zAy S with
  | some ns,some n=>some (ns++[n])
  | _,_=>none
 | [],S=>by
  cases h:zAy S<;>simp [zBy,h]
 | X :: T,S=>by
  rw [List.cons_append,zBy,zDN T S,zBy]
  cases zAy X<;>cases zBy T<;>cases zAy S<;>rfl
theorem zHX:∀{A:List (List UInt8)} (B:List (List UInt8)),zBy A=none→zBy (A++B)=none
 | [],B,h=>by simp [zBy] at h
 | X :: A,B,h=>by
  rw [List.cons_append,zBy];rw [zBy] at h
  cases hX:zAy X with
  | none=>rfl
  | some n =>
   rw [hX] at h
   cases hA:zBy A with
   | none=>rw [zHX B hA]
   | some ns=>rw [hA] at h;cases h
noncomputable def itE (L:List Fg) (S:List UInt8):Int:=if S=[] then 0 else match zBy (zAH 32 S) with | none=>6 | some ns=>if ns.any (zAx L) then 8 else 0
noncomputable def itO (L:List Fg) (S:List UInt8):List Og:=if S=[] then [] else match zBy (zAH 32 S) with | none=>[] | some ns=>if ns.any (zAx L) then [] else ns.map (oOf L)
theorem zIT {n:Nop} (h:okN n):n.path.length≤(zDU n).length:=by
 by_cases hp:n.path=[]
 ·simp [hp]
 ·have hk:n.kind=3∧∃x,n.fr=some x:=by
   rcases h.2 with ⟨_,_,h,_⟩ | ⟨_,_,h⟩ | ⟨h,⟨x,hx,_⟩,_⟩ | ⟨_,_,h⟩ | ⟨_,_,h⟩
   ·exact absurd h hp
   ·exact absurd h hp
   ·exact ⟨h,x,hx⟩
   ·exact absurd h hp
   ·exact absurd h hp
  obtain ⟨hk,x,hx⟩:=hk;have:=zOH (P:=n.path) x;unfold zDU zOG frI;rw [if_neg (by omega),if_pos hk,hx];unfold zHr at this;simp only [List.length_append] at this ⊢;omega
def zDj (w0:World) (O:List Og) (er:Int) (e:Ending) (w':World):Prop :=
 ∃B m d Es,e=.returned (.tuple #[.slice B m d,.int .i64 er])∧List.map (fun x:Oe=>x.o) Es=O∧m≤1000000∧OpsOwn w' w0.heap.size B m d Es∧Below w0.heap.size w0 w'
theorem OpsOwn.overR {w w':World} {base rb:Nat} {A:Option Addr} {n c:Nat} {Es:List Oe} (h:OpsOwn w base A n c Es) (hg:w.grownBy w' (some rb)) (hb:rb < base) (hr:∀e∈Es,∀k,blk e.A=some k→rb < k):OpsOwn w' base A n c Es :=
 ⟨h.row.overO hg hb,fun e he=>by
  obtain ⟨h1,h2,h3,h4⟩:=h.ok e he
  exact ⟨h1,h2.kept hg (fun k hk e2=>by injection e2 with e2;have:=hr e he k hk;omega),h3,fun k hk=>⟨Nat.lt_of_lt_of_le (h4 k hk).1 hg.size,(h4 k hk).2⟩⟩⟩
theorem zVk (A:Option Addr) (n c:Nat) (re lo:Int) (w:World):(Instr.build 123 #[(0,.agg #[.slice A n c,.int .i64 re,.int .i64 lo])]).run Tryz.prog w=.ok (.agg (rdC A n c re lo none 0 0 false false)) w:=run_build w _ _ _ (by kernel_rfl)
def zQm (L:List Fg) (ws:List (List UInt8)) (i:Nat) (bad lost:Bool) (Es:List Oe):Prop :=
 Es.length=i∧((bad=false∧∃ns,zBy (ws.take i)=some ns∧lost=ns.any (zAx L)∧List.map (fun x:Oe=>x.o) Es=ns.map (oOf L))∨(bad=true∧zBy (ws.take i)=none))
theorem zJZ {L:List Fg} {ws:List (List UInt8)} {i:Nat} {bad lost:Bool} {Es:List Oe} (h:zQm L ws i bad lost Es) {S:List UInt8} (hS:ws[i]? = some S) {n:Nop} (hn:zAy S=some n) (e:Oe) (he:e.o=oOf L n):zQm L ws (i+1) bad (lost||zAx L n) (Es++[e]):=by
 obtain ⟨h1,h2⟩:=h;refine ⟨by simp [h1],?_⟩;rw [List.take_add_one,hS];simp only [Option.toList_some];rw [zDN,hn];rcases h2 with ⟨rfl,ns,h3,h4,h5⟩ | ⟨rfl,h3⟩
 ·refine .inl ⟨rfl,ns++[n],by rw [h3],by rw [h4];simp,by rw [List.map_append,h5];simp [he]⟩
 ·exact .inr ⟨rfl,by rw [h3]⟩
theorem zOX {L:List Fg} {ws:List (List UInt8)} {i:Nat} {bad lost:Bool} {Es:List Oe} (h:zQm L ws i bad lost Es) {S:List UInt8} (hS:ws[i]? = some S) (hn:zAy S=none) (e:Oe) (l:Bool):zQm L ws (i+1) true l (Es++[e]):=by
 obtain ⟨h1,h2⟩:=h;refine ⟨by simp [h1],.inr ⟨rfl,?_⟩⟩;rw [List.take_add_one,hS];simp only [Option.toList_some];rw [zDN,hn]
 cases zBy (ws.take i)<;>rfl
theorem zMb {L:List Fg} {S:List UInt8} {i:Nat} {bad lost:Bool} {Es:List Oe} (h:zQm L (zAH 32 S) i bad lost Es) (hi:i=(zAH 32 S).length) (h0:S≠[]) :
  itE L S=(if bad then 6 else if lost then 8 else 0)∧(itE L S=0→List.map (fun x:Oe=>x.o) Es=itO L S)∧(itE L S≠0→itO L S=[]):=by
 obtain ⟨_,h2⟩:=h;rw [hi,List.take_length] at h2;unfold itE itO;rw [if_neg h0,if_neg h0];rcases h2 with ⟨rfl,ns,h3,h4,h5⟩ | ⟨rfl,h3⟩
 ·simp only [h3,←h4]
  cases lost with
  | true=>simp
  | false=>simpa using h5
 ·simp only [h3];simp
set_option maxHeartbeats 12800000 in
set_option maxRecDepth 100000 in
theorem zHc (F:Fm) (S:List UInt8) (w:World) (hA:Fgs w F.A F.n F.L) (hS:S.length≤20000) (ht:Tabs w) :
  Calls Tryz.prog 72 #[frV F.A F.n F.c F.re F.lo,.string (bA S)] w (zDj w (itO F.L S) (itE F.L S)):=by
 have hFL:F.L.length≤17592186043904:=by rw [hA.len];exact hA.le
 have hb0:Below w.heap.size w (w.alloc (.cells #[.slice F.A F.n F.c,.int .i64 F.re,.int .i64 F.lo] 24)):=(Below.refl _ _).alloc (Nat.le_refl _) _;have hk0:Blk (w.alloc (.cells #[.slice F.A F.n F.c,.int .i64 F.re,.int .i64 F.lo] 24)) w.heap.size 24 #[.slice F.A F.n F.c,.int .i64 F.re,.int .i64 F.lo]:=Blk.new _ _ _;have n0:=zAF S [];by_cases h0:S=[]
 ·have n1:(S==([]:List UInt8))=true:=by rw [h0];rfl
  rw [n1] at n0
  have HF:=qH (show zDj w (itO F.L S) (itE F.L S) (.returned (.tuple #[.slice none 0 0,.int .i64 0])) (w.alloc (.cells #[.slice F.A F.n F.c,.int .i64 F.re,.int .i64 F.lo] 24)) by
   have h1:itE F.L S=0∧itO F.L S=[]:=by unfold itE itO;rw [if_pos h0,if_pos h0];exact ⟨rfl,rfl⟩
   rw [h1.1,h1.2]
   exact ⟨none,0,0,[],rfl,rfl,by omega,OpsOwn.none_ _ _,hb0⟩)
  clear h0 n1 hb0 hk0 hA ht hFL hS;go_enter Tryz.func72,Tryz.ntmps72;go_wp2_with fail
  go_ret2;exact HF.out
 have n1:(S==([]:List UInt8))=false:=by simpa using h0
 rw [n1] at n0;obtain ⟨ws,hws⟩:∃W,zAH 32 S=W:=⟨_,rfl⟩
 obtain ⟨n,hn⟩:∃n,ws.length=n:=⟨_,rfl⟩
 have hnl:n≤20001:=by rw [←hn,←hws];have:=zCe S;omega
 have hpl:∀p∈ws,p.length≤100000:=fun p hp=>by rw [←hws] at hp;have:=zAX 32 S p hp;omega
 have HPL:=qH hpl;have HN:=qH hn;have HW:=qH hws;have H0:=qH h0;have FL:=qH hFL;have HSP:=qH (fun wx (hx:Tabs wx)=>zGW S (by omega) wx hx);rw [hws,hn] at HSP;obtain ⟨v0,v1,v2⟩:=cQ3 hk0;have HA:=qH hA;have HT:=qH ht;clear h0 n1 hws hn hpl hFL hS hA ht hk0;go_enter Tryz.func72,Tryz.ntmps72;go_upto_region 3 with fail
 generalize w.alloc (.cells #[.slice F.A F.n F.c,.int .i64 F.re,.int .i64 F.lo] 24)=Y at hb0 v0 v1 v2 ⊢;have hbl:=(Below.refl Y.heap.size Y).alloc (Nat.le_refl _) (.cells (rdC F.A F.n F.c F.re F.lo none 0 0 false false) 123);have hb1:=zAa hb0 hbl hb0.size
 have hrx:RX (Y.alloc (.cells (rdC F.A F.n F.c F.re F.lo none 0 0 false false) 123)) Y.heap.size F ⟨[],false,false⟩ :=
  ⟨⟨none,0,0,Blk.new _ _ _,Els.nil _ _,Nat.le_refl _,fun k hk=>by cases hk⟩,HA.out.below hb1,fun h0 k hk=>by
   obtain ⟨g,o,e,hg,_⟩:=HA.out.1.2.2 h0
   rw [e] at hk
   injection hk with hk
   have hk':g=k:=hk
   have h1:=hb0.size
   omega⟩
 have hge:w.heap.size≤Y.heap.size:=hb0.size;clear hbl;go_upto_region 5 with fail
 clear v0 v1 v2 hb0;have HSP2:=qH (HSP.out (Y.alloc (.cells (rdC F.A F.n F.c F.re F.lo none 0 0 false false) 123)) (HT.out.below hb1));generalize Y.alloc (.cells (rdC F.A F.n F.c F.re F.lo none 0 0 false false) 123)=Z at hb1 hrx HSP2 ⊢;generalize Y.heap.size=rb at hrx hge ⊢;go_wp2_with fail
 refine HSP2.out.mono ?_;rintro e X ⟨rfl,hX⟩;have hbX:Below Z.heap.size Z X:=by rw [hX];exact (Below.refl _ _).alloc (Nat.le_refl _) _
 have hcX:∀(j:Nat) (p:List UInt8),ws[j]? = some p→X.cell? ⟨Z.heap.size,j,none⟩=some (.string (bA p)):=fun j p hp=>by
  rw [hX,World.cell?_alloc_at _ _ _ _ rfl];simp [hp]
 have hlX:Z.heap.size < X.heap.size:=by rw [hX];simp
 have HCX:=qH hcX;have hrX:=hrx.below hbX;have hbw:=zAa hb1 hbX hb1.size;have hrlt:rb < X.heap.size:=hrX.lt;have hzz:rb < Z.heap.size:=hrx.lt;clear hX hcX HSP HSP2 hrx hb1 hbX;go_wp2_with fail
 go_loopw [7,18] (fun v7 v18 wv=>∃(i:Nat) (V:World) (A':Option Addr) (c':Nat) (Es:List Oe) (bad lost:Bool),V=wv∧i≤n∧v18=.int .i64 i∧v7=.slice A' i c'∧RX V rb F ⟨[],bad,lost⟩∧OpsOwn V X.heap.size A' i c' Es∧X.grownBy V (some rb)∧Hid (∀e∈Es,∀k,blk e.A=some k→rb < k)∧Hid (zQm F.L ws i bad lost Es)) (fun _ v18 _=>n-(intOf v18).toNat)
 case atStart=>exact ⟨0,_,none,0,[],false,false,rfl,by omega,rfl,rfl,hrX,OpsOwn.none_ _ _,zBi _ _,qH (by simp),qH ⟨rfl,.inl ⟨rfl,[],rfl,rfl,rfl⟩⟩⟩
 case round =>
  clear hrX;obtain ⟨i,V,A',c',Es,bad,lost,hV,hi,rfl,rfl,hr,hO,hg,HK,HI⟩:=hrel;subst hV;by_cases hlt:i < n
  ·have j0:(0:Int)≤(i:Int):=by omega
   have j1:(i:Int) < (n:Int):=by omega
   obtain ⟨p,hp⟩:∃p,ws[i]? = some p:=⟨ws[i]'(by rw [HN.out];exact hlt),List.getElem?_eq_getElem _⟩
   have hc:V.cell? ⟨Z.heap.size,i,none⟩=some (.string (bA p)):=by
    rw [World.cell?_of_block (w:=X) (w':=V) (a:=⟨Z.heap.size,i,none⟩) (hg.block _ hlX (fun e=>by injection e with e;simp only at e;omega))];exact HCX.out i p hp
   have HSC:=qH (zLj rb F ⟨[],bad,lost⟩ p V hr (HPL.out p (List.mem_of_getElem? hp)));have HP:=qH hp;have hrV:=hr.lt;clear hp hr;go_upto_region 8 with fail
   clear hc;go_wp2_with fail
   refine HSC.out.mono ?_;intro e V2 hsc;have key:∃(o:Og) (B:Option Addr) (m d:Nat) (bad2 lost2:Bool),e=.returned (opV o B m d)∧V.grownBy V2 (some rb)∧RX V2 rb F ⟨[],bad2,lost2⟩∧Hid ((OgOk o∧Stps V2 B m o.path∧m≤d∧∀k,blk B=some k→k < V2.heap.size∧V.heap.size≤k)∧zQm F.L ws (i+1) bad2 lost2 (Es++[(⟨o,B,m,d⟩:Oe)])):=by
    rcases hsc with ⟨nn,h1,B,m,d,h2,h3,h4,h5,h6⟩ | ⟨h1,h2,⟨l,h3⟩,h4⟩
    ·have hok:=zOO FL.out (zCL h1).1;have hpn:m≤1000000:=by
      have h7:=zCL h1;have h8:=HPL.out p (List.mem_of_getElem? HP.out);rw [h7.2.2] at h8;rw [h4];show (nn.path.map (pOf F.L)).length≤_;rw [List.length_map];have h9:=zIT h7.1;omega
     exact ⟨_,B,m,d,bad,_,h2,h6,h5,qH ⟨⟨hok.1,zHa h3 hpn hok.2,h3.cap,fun k hk=>⟨(h3.lt k hk).2,(h3.lt k hk).1⟩⟩,zJZ HI.out HP.out h1 _ rfl⟩⟩
    ·exact ⟨zop,none,0,0,true,l,h2,h4,h3,qH ⟨⟨zOP.1,Stps.nil _ _,Nat.le_refl _,fun k hk=>by cases hk⟩,zOX HI.out HP.out h1 _ l⟩⟩
   obtain ⟨o,B,m,d,bad2,lost2,rfl,hg2,hr2,HE⟩:=key;have hO2:=hO.overR hg2 (by omega) HK.out;have hO2L:=hO.row.lt;have HAL:=qH (fun k (hk:blk A'=some k)=>(hO2L k hk).2);have hgg:=zAb hg hg2;have hsz:X.heap.size≤V2.heap.size:=hgg.size;obtain ⟨kk,ff,⟨gf,gl,gfar,gpc⟩,path,vov⟩:=o;clear hsc hO hg2 hg HSC hO2L;go_upto_region 9 with (at_builtin;refine zEP ?_)
   refine qH ?_;refine zTy (y:=⟨⟨kk,ff,⟨gf,gl,gfar,gpc⟩,path,vov⟩,B,m,d⟩) (N:=i+1) (base:=X.heap.size) (A:=A') (n:=i) (c:=c') (Es:=Es) rfl (.tmp 22) (.tmp 26) ?_ ?_ ?_ ?_ ?_ ?_ ?_ ?_
   ·rfl
   ·exact hO2.row
   ·rfl
   ·rfl
   ·rfl
   ·omega
   ·exact hsz
   intro A2 c2 w9 hR9 hg9 hl9;have hb9:=hO2.row.belowOf hg9 hsz;have hO9:=hO2.push ⟨⟨kk,ff,⟨gf,gl,gfar,gpc⟩,path,vov⟩,B,m,d⟩ ⟨HE.out.1.1,HE.out.1.2.1,HE.out.1.2.2.1,fun k hk=>⟨(HE.out.1.2.2.2 k hk).1,fun e2=>by have h1:=HAL.out k e2;have h2:=(HE.out.1.2.2.2 k hk).2;omega⟩⟩ hR9 hg9 hl9;have hr9:=hr2.over (hb9.mono (by omega));have hg10:=zAc hgg hb9
   have HK2:=qH (show ∀e∈Es++[(⟨⟨kk,ff,⟨gf,gl,gfar,gpc⟩,path,vov⟩,B,m,d⟩:Oe)],∀k,blk e.A=some k→rb < k from fun e he k hk=>by
    rcases List.mem_append.1 he with h1 | h1
    ·exact HK.out e h1 k hk
    ·rw [List.mem_singleton.1 h1] at hk
     have h2:=(HE.out.1.2.2.2 k hk).2
     omega)
   have HI2:=qH HE.out.2;clear hR9 hg9 hl9 hb9 hO2 hr2 hgg hsz HE HAL HI;go_wp2_with fail
   go_roundw
   case rel=>exact ⟨i+1,_,A2,c2,_,bad2,lost2,rfl,by omega,by go_num,rfl,hr9,hO9,hg10,HK2,HI2⟩
   case measure=>simp [intOf];omega
  ·have j1:¬(i:Int) < (n:Int):=by omega
   have hin:i=n:=by omega
   have hend:=zMb (L:=F.L) (S:=S) (i:=i) (bad:=bad) (lost:=lost) (Es:=Es) (by rw [HW.out];exact HI.out) (by rw [HW.out,HN.out];exact hin) H0.out;have HEND:=qH hend;have hbV:Below w.heap.size w V:=zAa hbw (zBC hg (show w.heap.size≤rb from hge) hbw.size) (Nat.le_refl _);have hzX:w.heap.size≤X.heap.size:=hbw.size;have hil:i≤1000000:=by omega
   have HO:=qH hO;have HBV:=qH hbV;have c4:V.cell? ⟨rb,4,none⟩=some (.bool bad):=hr.bad4.1;have c5:V.cell? ⟨rb,5,none⟩=some (.bool lost):=hr.lost5;clear hend hin hlt hg hr HCX HI HK hO hbV
   cases bad with
   | true =>
    have HE:=qH (show itE F.L S=6∧itO F.L S=[] from ⟨HEND.out.1,HEND.out.2.2 (by rw [HEND.out.1];simp)⟩);clear c5;go_wp2_with fail
    go_ret2;exact (show zDj w _ _ _ _ by rw [HE.out.1,HE.out.2];exact ⟨none,0,0,[],rfl,rfl,by omega,OpsOwn.none_ _ _,HBV.out⟩)
   | false =>
    cases lost with
    | true =>
     have HE:=qH (show itE F.L S=8∧itO F.L S=[] from ⟨HEND.out.1,HEND.out.2.2 (by rw [HEND.out.1];simp)⟩);go_wp2_with fail
     go_ret2;exact (show zDj w _ _ _ _ by rw [HE.out.1,HE.out.2];exact ⟨none,0,0,[],rfl,rfl,by omega,OpsOwn.none_ _ _,HBV.out⟩)
    | false =>
     have HE:=qH (show itE F.L S=0∧List.map (fun x:Oe=>x.o) Es=itO F.L S from ⟨HEND.out.1,HEND.out.2.1 HEND.out.1⟩);go_wp2_with fail
     go_ret2;exact (show zDj w _ _ _ _ by rw [HE.out.1];exact ⟨A',i,c',Es,rfl,HE.out.2,hil,HO.out.mono hzX,HBV.out⟩)
noncomputable def rbF (S:List UInt8):Sg:=if S=[] then s0 else ⟨fnA S.dropLast,0,decide (S.getLast? = some 102),0⟩
def nmC (b:UInt8):Bool:=zKX b||b==76||b==82
def nmL:List UInt8→Nat
 | []=>0
 | b :: r=>if nmC b then nmL r+1 else 0
noncomputable def zHu:List (List UInt8)→List Sp→Option (List Sp)
 | [],P=>some P
 | S :: r,P=>if S=[] then none else zHu r (P++[⟨rbF S.dropLast,decide (S.getLast? = some 111)⟩])
def ovL (R:List UInt8):Bool:=decide (R.getLast? = some 111)
noncomputable def zOY (f:Int) (T:List (List UInt8)):Og :=
 if T.length=2 then (match zHu (zAH 44 (xa T 0)) [] with | some P=>⟨3,f,rbF (xa T (T.length-1)),P,false⟩ | none=>o0)
 else ⟨3,f,rbF (xa T (T.length-1)),[],false⟩
noncomputable def zHd (b:UInt8) (f:Int) (R:List UInt8):Og :=
 if b=45 then ⟨1,f,s0,[],false⟩
 else if b=94 then ⟨2,f,s0,[],false⟩
 else if b=33 then ⟨8,f,s0,[],false⟩
 else if b=126 then ⟨4,f,s0,[],ovL R⟩
 else if b=61 then ⟨5,f,if R=[] then s0 else rbF R.dropLast,[],ovL R⟩
 else if b=42 then ⟨6,f,⟨if R=[] then 0 else fnA R.dropLast,0,false,0⟩,[],ovL R⟩
 else if b=37 then ⟨7,f,⟨if R=[] then 0 else fnA R.dropLast,0,false,0⟩,[],ovL R⟩
 else if b=60 then zOY f (zAH 60 R)
 else ⟨0,f,s0,[],false⟩
noncomputable def zIU (S:List UInt8):Og :=
 if nmL S=S.length then o0 else zHd ((S[nmL S]?).getD 0) (fnA (S.take (nmL S))) (S.drop (nmL S+1))
theorem zKa {f:Fg} (hf:zAm f=true) (h1:f.p=1):∀b∈zAk f,nmC b=true∧b≠60∧b≠44:=by
 rw [zIN hf h1];obtain ⟨_,_,h3,h4⟩:=zAp.1 hf;have hd:f.d.toNat=0∨f.d.toNat=1∨f.d.toNat=2∨f.d.toNat=3∨f.d.toNat=4∨f.d.toNat=5∨f.d.toNat=6:=by omega
 intro b hb;simp only [List.mem_cons,List.not_mem_nil,or_false] at hb;rcases hb with rfl | rfl
 ·cases f.r<;>decide
 ·rcases hd with e | e | e | e | e | e | e<;>rw [e]<;>decide
theorem zOZ:∀(A:List UInt8) (b:UInt8) (R:List UInt8),(∀x∈A,nmC x=true)→nmC b=false→nmL (A++b :: R)=A.length
 | [],b,R,_,hb=>by rw [List.nil_append,nmL,if_neg (by rw [hb];simp)];rfl
 | x :: A,b,R,hA,hb=>by
  rw [List.cons_append,nmL,if_pos (hA x (List.mem_cons_self ..)),zOZ A b R (fun y hy=>hA y (List.mem_cons_of_mem _ hy)) hb,List.length_cons]
theorem zTA {x:Nst} (h:simN x):rbF (brN x)=sOf AL x:=by
 have hn:=zLh h.1;have hne:brN x≠[]:=by unfold brN nfN;cases x.far<;>simp
 have hd:(brN x).dropLast=zAk x.f:=by unfold brN nfN;cases x.far<;>simp
 have hl:decide ((brN x).getLast? = some 102)=x.far:=by unfold brN nfN;cases x.far<;>simp
 unfold rbF;rw [if_neg hne,hd,hl,hn];have:=h.is;rw [this];rfl
theorem zPa {x:Nst} (h:simN x):(60:UInt8) ∉ brN x∧(44:UInt8) ∉ brN x:=by
 have hf:=zKa h.1 h.2.1;unfold brN nfN;constructor
 ·intro e;rcases List.mem_append.1 e with e | e
  ·exact (hf _ e).2.1 rfl
  ·split at e<;>simp at e
 ·intro e;rcases List.mem_append.1 e with e | e
  ·exact (hf _ e).2.2 rfl
  ·split at e<;>simp at e
theorem zMc {y:Nst×Bool} (h:simN y.1):(60:UInt8) ∉ zDT y∧(44:UInt8) ∉ zDT y:=by
 have hf:=zPa h;unfold zDT zAo;constructor
 ·intro e;rcases List.mem_append.1 e with e | e
  ·exact hf.1 e
  ·split at e<;>simp at e
 ·intro e;rcases List.mem_append.1 e with e | e
  ·exact hf.2 e
  ·split at e<;>simp at e
theorem zSr:∀(Q:List (Nst×Bool)) (P:List Sp),(∀y∈Q,simN y.1)→zHu (Q.map zDT) P=some (P++Q.map (pOf AL))
 | [],P,_=>by simp [zHu]
 | y :: Q,P,h=>by
  have hy:=h y (List.mem_cons_self ..);have hne:zDT y≠[]:=by unfold zDT zAo;cases y.2<;>simp
  have hd:(zDT y).dropLast=brN y.1:=by unfold zDT zAo;cases y.2<;>simp
  have hl:decide ((zDT y).getLast? = some 111)=y.2:=by unfold zDT zAo;cases y.2<;>simp
  rw [List.map_cons,zHu,if_neg hne,hd,hl,zTA hy,zSr Q _ (fun z hz=>h z (List.mem_cons_of_mem _ hz))];simp [pOf]
theorem zPb {c s:UInt8} (hcs:c≠s):∀{ps:List (List UInt8)},(∀p∈ps,c ∉ p)→c ∉ Lib.join ps [s]
 | [],_=>by simp [Lib.join_nil]
 | [x],h=>by rw [Lib.join_one];exact h x (List.mem_cons_self ..)
 | x :: y :: r,h=>by
  have ih:=zPb hcs (ps:=y :: r) fun p hp=>h p (List.mem_cons_of_mem _ hp)
  rw [zGe];intro e;rcases List.mem_append.1 e with e | e
  ·rcases List.mem_append.1 e with e | e
   ·exact h x (List.mem_cons_self ..) e
   ·simp at e;exact hcs e
  ·exact ih e
theorem zTB {x:Nst} (hx:simN x) {Q:List (Nst×Bool)} (hQ:∀y∈Q,simN y.1) (f:Int):zOY f (zAH 60 (zHr Q x))=⟨3,f,sOf AL x,Q.map (pOf AL),false⟩:=by
 have hb:=zPa hx;have hr:=zTA hx;unfold zHr zOY
 cases Q with
 | nil =>
  rw [if_pos rfl,List.nil_append,zCX hb.1];simp [xa,hr]
 | cons y Q =>
  have hj:(60:UInt8) ∉ Lib.join ((y :: Q).map zDT) [44]:=zPb (by decide) fun p hp=>by
   obtain ⟨z,hz,rfl⟩:=List.mem_map.1 hp;exact (zMc (hQ z hz)).1
  have hs:zAH 44 (Lib.join ((y :: Q).map zDT) [44])=(y :: Q).map zDT:=zEE (by simp) fun p hp=>by
   obtain ⟨z,hz,rfl⟩:=List.mem_map.1 hp;exact (zMc (hQ z hz)).2
  have hi:(if y :: Q=[] then [] else Lib.join ((y :: Q).map zDT) [44]++[60])=Lib.join ((y :: Q).map zDT) [44]++[60]:=if_neg (by simp);rw [hi,List.append_assoc,List.singleton_append,zCd hj,zCX hb.1]
  simp only [List.length_cons,List.length_nil,if_true,show xa [Lib.join ((y :: Q).map zDT) [44],brN x] 0=Lib.join ((y :: Q).map zDT) [44] from rfl,
   show xa [Lib.join ((y :: Q).map zDT) [44],brN x] (0+1+1-1)=brN x from rfl,hs,zSr _ _ hQ,List.nil_append,hr]
theorem zEn (A:List UInt8) (b:Bool):(A++zAo b).dropLast=A∧ovL (A++zAo b)=b∧A++zAo b≠[]:=by
 unfold ovL zAo
 cases b<;>simp
theorem zVl {n:Nop} (h:okN n) (hc:zUE n):zIU (zDU n)=oOf AL n:=by
 obtain ⟨hf,hk⟩:=h;obtain ⟨c1,c2,c3⟩:=hc;obtain ⟨k,f,fr,path,over⟩:=n;unfold zGJ at hk;simp only at hf hk c1 c2 c3;have hn:=zLh hf;have hnf:=zKa hf c1;have hl:=zIN hf c1;have hlen:(zAk f).length=2:=by rw [hl];rfl
 have key:∀(b:UInt8) (R:List UInt8),nmC b=false→zIU (zAk f++b :: R)=zHd b (zAG AL f) R:=fun b R hb=>by
  unfold zIU;rw [zOZ _ b R (fun x hx=>(hnf x hx).1) hb,if_neg (by simp)];rw [List.take_left,hn]
  congr 1
  ·simp
  ·rw [List.drop_append];simp
 have hi:zDU ⟨k,f,fr,path,over⟩=zAk f++(zCE k++zOG ⟨k,f,fr,path,over⟩):=by unfold zDU;simp
 rw [hi];unfold zOG;simp only;rcases hk with ⟨e,h1,h2,h3⟩ | ⟨e,h1,h2⟩ | ⟨e,⟨x,hx,hxo⟩,hp,h3⟩ | ⟨e,⟨x,hx,hxo⟩,hp⟩ | ⟨e,⟨g,hx,hg⟩,hp⟩
 ·subst h1;subst h2;subst h3
  rcases e with rfl | rfl | rfl
  ·exact (key 45 _ (by decide)).trans rfl
  ·exact (key 94 _ (by decide)).trans rfl
  ·exact (key 33 _ (by decide)).trans rfl
 ·subst e;subst h1;subst h2
  refine (key 126 (zAo over) (by decide)).trans ?_;have:=(zEn [] over).2.1;rw [List.nil_append] at this;unfold zHd;rw [if_neg (by decide),if_neg (by decide),if_neg (by decide),if_pos rfl,this];rfl
 ·subst e;subst h3;subst hx
  have hxs:simN x:=⟨hxo.1,c2 x rfl⟩;have hps:∀y∈path,simN y.1:=fun y hy=>⟨(hp y hy).1,c3 y hy⟩
  refine (key 60 (zHr path x) (by decide)).trans ?_;unfold zHd;rw [if_neg (by decide),if_neg (by decide),if_neg (by decide),if_neg (by decide),if_neg (by decide),if_neg (by decide),if_neg (by decide),if_pos rfl];exact zTB hxs hps _
 ·subst e;subst hp;subst hx
  have hxs:simN x:=⟨hxo.1,c2 x rfl⟩;refine (key 61 (brN x++zAo over) (by decide)).trans ?_;obtain ⟨l1,l2,l3⟩:=zEn (brN x) over;unfold zHd;rw [if_neg (by decide),if_neg (by decide),if_neg (by decide),if_neg (by decide),if_pos rfl];rw [l1,l2,if_neg l3,zTA hxs];rfl
 ·subst hp;subst hx
  have hgn:=zLh hg;obtain ⟨l1,l2,l3⟩:=zEn (zAk g) over;rcases e with rfl | rfl
  ·refine (key 42 (zAk g++zAo over) (by decide)).trans ?_;unfold zHd;rw [if_neg (by decide),if_neg (by decide),if_neg (by decide),if_neg (by decide),if_neg (by decide),if_pos rfl];rw [l1,l2,if_neg l3,hgn];rfl
  ·refine (key 37 (zAk g++zAo over) (by decide)).trans ?_;unfold zHd;rw [if_neg (by decide),if_neg (by decide),if_neg (by decide),if_neg (by decide),if_neg (by decide),if_neg (by decide),if_pos rfl];rw [l1,l2,if_neg l3,hgn];rfl
noncomputable def okJ (S:List UInt8):Bool:=zAh 126 (zIU S)&&zCl AL (zIU S)&&decide (zBc AL (zIU S)=S)
theorem zMd {S:List UInt8} {n:Nop} (L:List Fg) (h:zAy S=some n):okJ S=true∧zSo L (zIU S)=oOf L n∧zSp L (zIU S) = !zAx L n:=by
 obtain ⟨h1,h2,rfl⟩:=zCL h;have hl:=zTz h1;obtain ⟨k1,k2⟩:=zWp (L:=AL) h1 hl;have hs:=zVl h1 h2;rw [hs];refine ⟨?_,(zSq L h1).1,(zSq L h1).2⟩;unfold okJ;rw [hs,(zLY k1).2 (by rw [k2];exact h2),←zJR k1,k2];rw [zJV] at k1;rw [k1];simp
theorem zRb {S:List UInt8} (h:zAy S=none):okJ S=false:=by
 cases e:okJ S with
 | false=>rfl
 | true =>
  unfold okJ at e;simp only [Bool.and_eq_true,decide_eq_true_eq] at e;have h1:zAh AL.length (zIU S)=true:=by rw [zJV];exact e.1.1
  have:=zOI (zWo zOT h1).1 ((zLY h1).1 e.1.2);rw [zJR h1,e.2,h] at this
  cases this
theorem zER {S:List UInt8} {i:Nat} {b:UInt8} (h:S[i]? = some b) (w:World):(Instr.index 9 (.string (bA S)) (.int .i64 (i:Int))).run Tryz.prog w=.ok (.int .u8 b.toNat) w:=by
 have hl:i < S.length:=(List.getElem?_eq_some_iff.1 h).1;have hs:i < (bA S).size:=by rw [zAC];exact hl
 obtain ⟨b',h1,h2⟩:=zOJ (S:=S) (pos:=i) hl hs;rw [h] at h1;have h1:b=b':=Option.some.inj h1;rw [run_index_string w 9 (bA S) .i64 (i:Int) Tryz.underlying9,dif_pos ⟨by omega,by omega⟩];simp only [Int.toNat_natCast];rw [h2,h1]
theorem zTC {S:List UInt8} {i j:Nat} (h:i≤j) (hj:j≤S.length) (w:World):(Instr.slice 9 (.string (bA S)) (some (.int .i64 (i:Int))) (some (.int .i64 (j:Int))) none).run Tryz.prog w=.ok (.string (bA ((S.take j).drop i))) w:=by
 rw [run_slice_string w 9 (bA S) .i64 .i64 (i:Int) (j:Int) Tryz.underlying9 (by omega) (by omega) (by rw [zAC];omega),zBu];simp
theorem zDO {S:List UInt8} {j:Nat} (hj:j≤S.length) (w:World):(Instr.slice 9 (.string (bA S)) none (some (.int .i64 (j:Int))) none).run Tryz.prog w=.ok (.string (bA (S.take j))) w:=by
 rw [run_slice_string_h w 9 (bA S) Tryz.underlying9 .i64 (j:Int) (by omega) (by rw [zAC];omega),zBu];simp
theorem zRc {S:List UInt8} {i:Nat} (hi:i≤S.length) (w:World):(Instr.slice 9 (.string (bA S)) (some (.int .i64 (i:Int))) none none).run Tryz.prog w=.ok (.string (bA (S.drop i))) w:=by
 rw [run_slice_string_l w 9 (bA S) Tryz.underlying9 .i64 (i:Int) (by omega) (by rw [zAC];omega),zBu,zAC];simp
def SplQ (c:UInt8) (S:List UInt8) (fr i:Nat) (T:List (List UInt8)):Prop :=
 (i≤S.length→fr≤i∧zAH c S=T++zAH c (S.drop fr)∧c ∉ (S.take i).drop fr)∧(i=S.length+1→T=zAH c S)
section
variable {c b:UInt8} {S:List UInt8} {fr i:Nat} {T:List (List UInt8)}
theorem zRd (hf:fr≤i) (h:S[i]? = some b):S.drop fr=(S.take i).drop fr++b :: S.drop (i+1):=by
 have hi:=(List.getElem?_eq_some_iff.1 h).1;have h2:S.drop i=b :: S.drop (i+1):=by
  rw [List.drop_eq_getElem_cons hi]
  congr 1
  rw [List.getElem?_eq_getElem hi] at h;injection h
 rw [←h2]
 conv=>lhs;rw [←List.take_append_drop i S]
 rw [List.drop_append_of_le_length (by rw [List.length_take];omega)]
theorem SplQ.start:SplQ c S 0 0 []:=⟨fun _=>⟨Nat.le_refl _,by simp,by simp⟩,fun h=>by omega⟩
theorem SplQ.hit (h:SplQ c S fr i T) (hb:S[i]? = some c):SplQ c S (i+1) (i+1) (T++[(S.take i).drop fr]):=by
 have hi:=(List.getElem?_eq_some_iff.1 hb).1;obtain ⟨h1,h2,h3⟩:=h.1 (by omega);refine ⟨fun _=>⟨Nat.le_refl _,?_,by simp⟩,fun e=>by omega⟩;rw [h2,zRd h1 hb,zCd h3];simp
theorem SplQ.miss (h:SplQ c S fr i T) (hb:S[i]? = some b) (hne:b≠c):SplQ c S fr (i+1) T:=by
 have hi:=(List.getElem?_eq_some_iff.1 hb).1;obtain ⟨h1,h2,h3⟩:=h.1 (by omega);refine ⟨fun _=>⟨by omega,h2,?_⟩,fun e=>by omega⟩;rw [List.take_add_one,hb,List.drop_append_of_le_length (by rw [List.length_take];omega)];intro e;rcases List.mem_append.1 e with e | e
 ·exact h3 e
 ·simp at e;exact hne e.symm
theorem SplQ.last (h:SplQ c S fr S.length T):SplQ c S (S.length+1) (S.length+1) (T++[(S.take S.length).drop fr]):=by
 obtain ⟨h1,h2,h3⟩:=h.1 (Nat.le_refl _);refine ⟨fun e=>by omega,fun _=>?_⟩;rw [List.take_length] at h3 ⊢;rw [h2,zCX h3]
theorem SplQ.fr_le (h:SplQ c S fr i T) (hi:i≤S.length):fr≤i:=(h.1 hi).1
end
set_option maxHeartbeats 3200000 in
theorem zNf (S:List UInt8) (c:UInt8) (hS:S.length≤100000) (w:World) :
  Calls Tryz.prog 66 #[.string (bA S),.int .u8 (c.toNat:Int)] w (zFu w (zAH c S)):=by
 have hs:=zCo S;obtain ⟨nS,hnS⟩:∃n,S.length=n:=⟨_,rfl⟩
 rw [hnS] at hs hS;have HN:=qH hnS;obtain ⟨C,hC⟩:∃C:Nat,c.toNat=C:=⟨_,rfl⟩
 rw [hC];have HC:=qH hC;clear hC hnS;go_enter Tryz.func66,Tryz.ntmps66;go_wp2_with fail
 go_loopw [5,6,7] (fun v5 v6 v7 wv=>∃(i fr:Nat) (X:World) (A:Option Addr) (m d:Nat) (T:List (List UInt8)),X=wv∧i≤nS+1∧v7=.int .i64 i∧v6=.int .i64 fr∧v5=.slice A m d∧Row X w.heap.size 1 A m d (T.map zKu)∧m≤i∧Below w.heap.size w X∧Hid (SplQ c S fr i T)) (fun _ _ v7 _=>nS+1-(intOf v7).toNat)
 case atStart=>exact ⟨0,0,_,none,0,0,[],rfl,by omega,rfl,rfl,rfl,Row.none_ _ _ _,Nat.le_refl _,Below.refl _ _,qH SplQ.start⟩
 case round =>
  obtain ⟨i,fr,X,A,m,d,T,hX,hi,rfl,rfl,rfl,hR,hm,hb,HQ⟩:=hrel;subst hX;have hz:w.heap.size≤X.heap.size:=hb.size;by_cases hlt:i≤nS
  ·have j0:(i:Int)≤(nS:Int):=by omega
   have hfr:fr≤i:=HQ.out.fr_le (by rw [HN.out];exact hlt);have hsl:=zTC (S:=S) (i:=fr) (j:=i) hfr (by rw [HN.out];exact hlt);by_cases he:i=nS
   ·have j1:((i:Int)==(nS:Int))=true:=by rw [he];simp
    have HQ2:=qH (show SplQ c S (i+1) (i+1) (T++[(S.take i).drop fr]) by
     have h1:i=S.length:=by rw [HN.out];exact he
     have h2:=HQ.out
     rw [h1] at h2 ⊢
     exact h2.last)
    obtain ⟨P,hP⟩:∃P,(S.take i).drop fr=P:=⟨_,rfl⟩
    rw [hP] at hsl HQ2;clear hP HQ he;go_wp2_with (at_builtin;refine zQF rfl _ _ rfl hR P rfl rfl (m+1) rfl (by omega) hz ?_;intro A2 c2 w9 hR9 hb9)
    have hb10:=hb.trans hb9;clear hR hb hb9;go_wp2_with fail
    go_roundw
    case rel=>exact ⟨i+1,i+1,_,A2,m+1,c2,T++[P],rfl,by omega,by go_num,by go_num,rfl,hR9,by omega,hb10,HQ2⟩
    case measure=>simp [intOf];omega
   ·have j1:((i:Int)==(nS:Int))=false:=by simp only [beq_eq_false_iff_ne,ne_eq];omega
    obtain ⟨b,hb1⟩:∃b,S[i]? = some b:=⟨_,List.getElem?_eq_getElem (by rw [HN.out];omega)⟩
    have hnx:=zER hb1;by_cases hq:b=c
    ·have j2:((b.toNat:Int)==(C:Int))=true:=by rw [hq,HC.out];simp
     have HQ2:=qH (HQ.out.hit (by rw [hb1,hq]));obtain ⟨P,hP⟩:∃P,(S.take i).drop fr=P:=⟨_,rfl⟩
     rw [hP] at hsl HQ2;generalize b.toNat=B at hnx j2;clear hP HQ he hb1 hq;go_wp2_with (at_builtin;refine zQF rfl _ _ rfl hR P rfl rfl (m+1) rfl (by omega) hz ?_;intro A2 c2 w9 hR9 hb9)
     have hb10:=hb.trans hb9;clear hR hb hb9;go_wp2_with fail
     go_roundw
     case rel=>exact ⟨i+1,i+1,_,A2,m+1,c2,T++[P],rfl,by omega,by go_num,by go_num,rfl,hR9,by omega,hb10,HQ2⟩
     case measure=>simp [intOf];omega
    ·have j2:((b.toNat:Int)==(C:Int))=false:=by
      simp only [beq_eq_false_iff_ne,ne_eq];intro e;exact hq (UInt8.toNat.inj (by rw [HC.out];omega))
     have HQ2:=qH (HQ.out.miss hb1 hq);generalize b.toNat=B at hnx j2;clear HQ he hb1 hq hsl;go_wp2_with fail
     go_roundw
     case rel=>exact ⟨i+1,fr,_,A,m,d,T,rfl,by omega,by go_num,rfl,rfl,hR,by omega,hb,HQ2⟩
     case measure=>simp [intOf];omega
  ·have j0:¬(i:Int)≤(nS:Int):=by omega
   have hT:=qH (show T=zAH c S from HQ.out.2 (by rw [HN.out];omega));clear HQ;go_wp2_with fail
   go_ret;exact ⟨A,m,d,rfl,by rw [←hT.out];exact hR,by omega,hb⟩
theorem zIV {S:List UInt8} {c:UInt8} {T:List (List UInt8)} (h:zAH c S=T) (hS:S.length≤100000) (w:World) :
  Calls Tryz.prog 66 #[.string (bA S),.int .u8 (c.toNat:Int)] w (zFu w T):=by
 subst h;exact zNf S c hS w
noncomputable def rsE (L:List Fg) (re lo:Int) (S:List UInt8):Int:=if zAA L re lo S=0 then itE L S else zAA L re lo S
noncomputable def rsO (L:List Fg) (re lo:Int) (S:List UInt8):List Og:=if zAA L re lo S=0 then itO L S else []
set_option maxHeartbeats 6400000 in
theorem zDD (F:Fm) (S:List UInt8) (w:World) (hA:Fgs w F.A F.n F.L) (hc:F.n≤F.c) (ht:Tabs w) :
  Calls Tryz.prog 31 #[frV F.A F.n F.c F.re F.lo,.string (bA S)] w (zDj w (rsO F.L F.re F.lo S) (rsE F.L F.re F.lo S)):=by
 have hb0:Below w.heap.size w (w.alloc (.cells #[.slice F.A F.n F.c,.int .i64 F.re,.int .i64 F.lo] 24)):=(Below.refl _ _).alloc (Nat.le_refl _) _;have hk0:Blk (w.alloc (.cells #[.slice F.A F.n F.c,.int .i64 F.re,.int .i64 F.lo] 24)) w.heap.size 24 #[.slice F.A F.n F.c,.int .i64 F.re,.int .i64 F.lo]:=Blk.new _ _ _;have HA:=qH hA;have HT:=qH ht;obtain ⟨E,hE⟩:∃E,zAA F.L F.re F.lo S=E:=⟨_,rfl⟩
 have HBG:=qH (fun wx (hx:Fgs wx F.A F.n F.L)=>zDb F.A F.n F.c F.L F.re F.lo S wx hx hc);simp only [hE] at HBG;have HE:=qH hE;clear hA ht hE;go_enter Tryz.func31,Tryz.ntmps31;go_wp2_with fail
 generalize w.alloc (.cells #[.slice F.A F.n F.c,.int .i64 F.re,.int .i64 F.lo] 24)=Y at hb0 hk0 ⊢;refine (HBG.out Y (HA.out.below hb0)).mono ?_;rintro e Y2 ⟨rfl,hb2⟩;have hf2:=hk0.below hb2 hk0.lt;have hb3:=zAa hb0 hb2 hb0.size;clear hk0 hb0 hb2 HBG;by_cases h0:E=0
 ·subst h0;have hS:=(zBO HE.out).1;have HR:=qH (show rsE F.L F.re F.lo S=itE F.L S∧rsO F.L F.re F.lo S=itO F.L S by unfold rsE rsO;rw [HE.out];exact ⟨rfl,rfl⟩);have HPA:=qH (zHc F S Y2 (HA.out.below hb3) (by omega) (HT.out.below hb3));obtain ⟨v0,v1,v2⟩:=cQ3 hf2;have hz:w.heap.size≤Y2.heap.size:=hb3.size;have HB3:=qH hb3;clear hS hf2 hb3;go_wp2_with fail
  refine HPA.out.mono ?_;rintro e Y3 ⟨B,m,d,Es,rfl,hO,hm,hE,hb4⟩;have HF:=qH (show zDj w (rsO F.L F.re F.lo S) (rsE F.L F.re F.lo S) (.returned (.tuple #[.slice B m d,.int .i64 (itE F.L S)])) Y3 by rw [HR.out.1,HR.out.2];exact ⟨B,m,d,Es,rfl,hO,hm,hE.mono hz,zAa HB3.out hb4 HB3.out.size⟩);clear hO hE hb4 hm HR;go_wp2_with fail
  go_ret2;exact HF.out
 ·have HF:=qH (show zDj w (rsO F.L F.re F.lo S) (rsE F.L F.re F.lo S) (.returned (.tuple #[.slice none 0 0,.int .i64 E])) Y2 by
   have h1:rsE F.L F.re F.lo S=E∧rsO F.L F.re F.lo S=[]:=by unfold rsE rsO;rw [HE.out,if_neg h0,if_neg h0];exact ⟨rfl,rfl⟩
   rw [h1.1,h1.2]
   exact ⟨none,0,0,[],rfl,rfl,by omega,OpsOwn.none_ _ _,hb3⟩)
  have k0:(E != 0)=true:=by simpa using h0
  clear hf2 hb3 h0;go_wp2_with fail
  go_ret2;exact HF.out
end Go.Proofs.YtlmdfmnbcndhoaaGreatDoor
