/-
  Lemmas, part 25. Conditions: each theorem's own.
-/
import Derived.Test.YtlmdfmnbcndhoaaGreatDoorRl24
import Derived.Test.YtlmdfmnbcndhoaaGreatDoorRl21
namespace Go.Proofs.YtlmdfmnbcndhoaaGreatDoor
open Go.RowKit
noncomputable def zCS:List (List UInt8)→Option (List Nop)
 | []=>some []
 | S :: T=>match zAG S,zCS T with
  | some n,some ns=>some (n :: ns)
  | _,_=>none
theorem zFL:∀(T:List (List UInt8)) (S:List UInt8),zCS (T++[S])=match zCS T,zAG S with
  | some ns,some n=>some (ns++[n])
  | _,_=>none
 | [],S=>by
  cases h:zAG S<;>simp [zCS,h]
 | X :: T,S=>by
  rw [List.cons_append,zCS,zFL T S,zCS]
  cases zAG X<;>cases zCS T<;>cases zAG S<;>rfl
noncomputable def itE (L:List Fg) (S:List UInt8):Int:=if S=[] then 0 else match zCS (zAR 32 S) with | none=>6 | some ns=>if ns.any (zAB L) then 8 else 0
noncomputable def itO (L:List Fg) (S:List UInt8):List Og:=if S=[] then [] else match zCS (zAR 32 S) with | none=>[] | some ns=>if ns.any (zAB L) then [] else ns.map (oOf L)
theorem zMH {n:Nop} (h:okN n):n.path.length≤(zHf n).length:=by
 by_cases hp:n.path=[]
 ·simp [hp]
 ·have hk:n.kind=3∧∃x,n.fr=some x:=by
   rcases h.2 with ⟨_,_,h,_⟩ | ⟨_,_,h⟩ | ⟨h,⟨x,hx,_⟩,_⟩ | ⟨_,_,h⟩ | ⟨_,_,h⟩
   ·exact absurd h hp
   ·exact absurd h hp
   ·exact ⟨h,x,hx⟩
   ·exact absurd h hp
   ·exact absurd h hp
  obtain ⟨hk,x,hx⟩:=hk;have:=zPn (P:=n.path) x;unfold zHf zSW frI;rw [if_neg (by omega),if_pos hk,hx];unfold zIZ at this;simp only [List.length_append] at this ⊢;omega
def zFM (w0:World) (O:List Og) (er:Int) (e:Ending) (w':World):Prop :=
 ∃B m d Es,e=.returned (.tuple #[.slice B m d,.int .i64 er])∧List.map (fun x:Oe=>x.o) Es=O∧m≤1000000∧OpsOwn w' w0.heap.size B m d Es∧Below w0.heap.size w0 w'
theorem OpsOwn.overR {w w':World} {base rb:Nat} {A:Option Addr} {n c:Nat} {Es:List Oe} (h:OpsOwn w base A n c Es) (hg:w.grownBy w' (some rb)) (hb:rb < base) (hr:∀e∈Es,∀k,blk e.A=some k→rb < k):OpsOwn w' base A n c Es :=
 ⟨h.row.overO hg hb,fun e he=>by
  obtain ⟨h1,h2,h3,h4⟩:=h.ok e he
  exact ⟨h1,h2.kept hg (fun k hk e2=>by injection e2 with e2;have:=hr e he k hk;omega),h3,fun k hk=>⟨Nat.lt_of_lt_of_le (h4 k hk).1 hg.size,(h4 k hk).2⟩⟩⟩
theorem zVV (A:Option Addr) (n c:Nat) (re lo:Int) (w:World):(Instr.build 123 #[(0,.agg #[.slice A n c,.int .i64 re,.int .i64 lo])]).run Tryz.prog w=.ok (.agg (rdC A n c re lo none 0 0 false false)) w:=run_build w _ _ _ (by kernel_rfl)
def zUn (L:List Fg) (ws:List (List UInt8)) (i:Nat) (bad lost:Bool) (Es:List Oe):Prop :=
 Es.length=i∧((bad=false∧∃ns,zCS (ws.take i)=some ns∧lost=ns.any (zAB L)∧List.map (fun x:Oe=>x.o) Es=ns.map (oOf L))∨(bad=true∧zCS (ws.take i)=none))
theorem zPE {L:List Fg} {ws:List (List UInt8)} {i:Nat} {bad lost:Bool} {Es:List Oe} (h:zUn L ws i bad lost Es) {S:List UInt8} (hS:ws[i]? = some S) {n:Nop} (hn:zAG S=some n) (e:Oe) (he:e.o=oOf L n):zUn L ws (i+1) bad (lost||zAB L n) (Es++[e]):=by
 obtain ⟨h1,h2⟩:=h;refine ⟨by simp [h1],?_⟩;rw [List.take_add_one,hS];simp only [Option.toList_some];rw [zFL,hn];rcases h2 with ⟨rfl,ns,h3,h4,h5⟩ | ⟨rfl,h3⟩
 ·refine .inl ⟨rfl,ns++[n],by rw [h3],by rw [h4];simp,by rw [List.map_append,h5];simp [he]⟩
 ·exact .inr ⟨rfl,by rw [h3]⟩
theorem zPF {L:List Fg} {ws:List (List UInt8)} {i:Nat} {bad lost:Bool} {Es:List Oe} (h:zUn L ws i bad lost Es) {S:List UInt8} (hS:ws[i]? = some S) (hn:zAG S=none) (e:Oe) (l:Bool):zUn L ws (i+1) true l (Es++[e]):=by
 obtain ⟨h1,h2⟩:=h;refine ⟨by simp [h1],.inr ⟨rfl,?_⟩⟩;rw [List.take_add_one,hS];simp only [Option.toList_some];rw [zFL,hn]
 cases zCS (ws.take i)<;>rfl
theorem zRE {L:List Fg} {S:List UInt8} {i:Nat} {bad lost:Bool} {Es:List Oe} (h:zUn L (zAR 32 S) i bad lost Es) (hi:i=(zAR 32 S).length) (h0:S≠[]) :
  itE L S=(if bad then 6 else if lost then 8 else 0)∧(itE L S=0→List.map (fun x:Oe=>x.o) Es=itO L S)∧(itE L S≠0→itO L S=[]):=by
 obtain ⟨_,h2⟩:=h;rw [hi,List.take_length] at h2;unfold itE itO;rw [if_neg h0,if_neg h0];rcases h2 with ⟨rfl,ns,h3,h4,h5⟩ | ⟨rfl,h3⟩
 ·simp only [h3,←h4]
  cases lost with
  | true=>simp
  | false=>simpa using h5
 ·simp only [h3];simp
set_option maxHeartbeats 12800000 in
set_option maxRecDepth 100000 in
theorem zHp (F:Fm) (S:List UInt8) (w:World) (hA:Fgs w F.A F.n F.L) (hS:S.length≤20000) (ht:Tabs w) :
  Calls Tryz.prog 72 #[frV F.A F.n F.c F.re F.lo,.string (bA S)] w (zFM w (itO F.L S) (itE F.L S)):=by
 have nJ:F.L.length≤17592186043904:=by rw [hA.len];exact hA.le
 have ah:Below w.heap.size w (w.alloc (.cells #[.slice F.A F.n F.c,.int .i64 F.re,.int .i64 F.lo] 24)):=(Below.refl _ _).alloc (Nat.le_refl _) _;have hk0:Blk (w.alloc (.cells #[.slice F.A F.n F.c,.int .i64 F.re,.int .i64 F.lo] 24)) w.heap.size 24 #[.slice F.A F.n F.c,.int .i64 F.re,.int .i64 F.lo]:=Blk.new _ _ _;have n0:=zAn S [];by_cases h0:S=[]
 ·have n1:(S==([]:List UInt8))=true:=by rw [h0];rfl
  rw [n1] at n0
  have HF:=qH (show zFM w (itO F.L S) (itE F.L S) (.returned (.tuple #[.slice none 0 0,.int .i64 0])) (w.alloc (.cells #[.slice F.A F.n F.c,.int .i64 F.re,.int .i64 F.lo] 24)) by
   have h1:itE F.L S=0∧itO F.L S=[]:=by unfold itE itO;rw [if_pos h0,if_pos h0];exact ⟨rfl,rfl⟩
   rw [h1.1,h1.2]
   exact ⟨none,0,0,[],rfl,rfl,by omega,OpsOwn.none_ _ _,ah⟩)
  clear h0 n1 ah hk0 hA ht nJ hS;go_enter Tryz.func72,Tryz.ntmps72;go_wp2_with fail
  go_ret2;exact HF.out
 have n1:(S==([]:List UInt8))=false:=by simpa using h0
 rw [n1] at n0;obtain ⟨ws,hws⟩:∃W,zAR 32 S=W:=⟨_,rfl⟩
 obtain ⟨n,hn⟩:∃n,ws.length=n:=⟨_,rfl⟩
 have hnl:n≤20001:=by rw [←hn,←hws];have:=zBu S;omega
 have hpl:∀p∈ws,p.length≤100000:=fun p hp=>by rw [←hws] at hp;have:=zBt 32 S p hp;omega
 have cB:=qH hpl;have HN:=qH hn;have HW:=qH hws;have H0:=qH h0;have FL:=qH nJ;have gK:=qH (fun wx (hx:Tabs wx)=>zHl S (by omega) wx hx);rw [hws,hn] at gK;obtain ⟨v0,v1,v2⟩:=cQ3 hk0;have HA:=qH hA;have HT:=qH ht;clear h0 n1 hws hn hpl nJ hS hA ht hk0;go_enter Tryz.func72,Tryz.ntmps72;go_upto_region 3 with fail
 generalize w.alloc (.cells #[.slice F.A F.n F.c,.int .i64 F.re,.int .i64 F.lo] 24)=Y at ah v0 v1 v2 ⊢;have hbl:=(Below.refl Y.heap.size Y).alloc (Nat.le_refl _) (.cells (rdC F.A F.n F.c F.re F.lo none 0 0 false false) 123);have ay:=zAa ah hbl ah.size
 have hrx:RX (Y.alloc (.cells (rdC F.A F.n F.c F.re F.lo none 0 0 false false) 123)) Y.heap.size F ⟨[],false,false⟩ :=
  ⟨⟨none,0,0,Blk.new _ _ _,Els.nil _ _,Nat.le_refl _,fun k hk=>by cases hk⟩,HA.out.below ay,fun h0 k hk=>by
   obtain ⟨g,o,e,hg,_⟩:=HA.out.1.2.2 h0
   rw [e] at hk
   injection hk with hk
   have iE:g=k:=hk
   have h1:=ah.size
   omega⟩
 have hge:w.heap.size≤Y.heap.size:=ah.size;clear hbl;go_upto_region 5 with fail
 clear v0 v1 v2 ah;have vm:=qH (gK.out (Y.alloc (.cells (rdC F.A F.n F.c F.re F.lo none 0 0 false false) 123)) (HT.out.below ay));generalize Y.alloc (.cells (rdC F.A F.n F.c F.re F.lo none 0 0 false false) 123)=Z at ay hrx vm ⊢;generalize Y.heap.size=rb at hrx hge ⊢;go_wp2_with fail
 refine vm.out.mono ?_;rintro e X ⟨rfl,hX⟩;have bh:Below Z.heap.size Z X:=by rw [hX];exact (Below.refl _ _).alloc (Nat.le_refl _) _
 have xR:∀(j:Nat) (p:List UInt8),ws[j]? = some p→X.cell? ⟨Z.heap.size,j,none⟩=some (.string (bA p)):=fun j p hp=>by
  rw [hX,World.cell?_alloc_at _ _ _ _ rfl];simp [hp]
 have nF:Z.heap.size < X.heap.size:=by rw [hX];simp
 have zj:=qH xR;have BD:=hrx.below bh;have hbw:=zAa ay bh ay.size;have hrlt:rb < X.heap.size:=BD.lt;have hzz:rb < Z.heap.size:=hrx.lt;clear hX xR gK vm hrx ay bh;go_wp2_with fail
 go_loopw [7,18] (fun v7 zx wv=>∃(i:Nat) (V:World) (A':Option Addr) (c':Nat) (Es:List Oe) (bad lost:Bool),V=wv∧i≤n∧zx=.int .i64 i∧v7=.slice A' i c'∧RX V rb F ⟨[],bad,lost⟩∧OpsOwn V X.heap.size A' i c' Es∧X.grownBy V (some rb)∧Hid (∀e∈Es,∀k,blk e.A=some k→rb < k)∧Hid (zUn F.L ws i bad lost Es)) (fun _ zx _=>n-(intOf zx).toNat)
 case atStart=>exact ⟨0,_,none,0,[],false,false,rfl,by omega,rfl,rfl,BD,OpsOwn.none_ _ _,zBj _ _,qH (by simp),qH ⟨rfl,.inl ⟨rfl,[],rfl,rfl,rfl⟩⟩⟩
 case round =>
  clear BD;obtain ⟨i,V,A',c',Es,bad,lost,hV,hi,rfl,rfl,hr,hO,hg,HK,HI⟩:=hrel;subst hV;by_cases hlt:i < n
  ·have j0:(0:Int)≤(i:Int):=by omega
   have j1:(i:Int) < (n:Int):=by omega
   obtain ⟨p,hp⟩:∃p,ws[i]? = some p:=⟨ws[i]'(by rw [HN.out];exact hlt),List.getElem?_eq_getElem _⟩
   have hc:V.cell? ⟨Z.heap.size,i,none⟩=some (.string (bA p)):=by
    rw [World.cell?_of_block (w:=X) (w':=V) (a:=⟨Z.heap.size,i,none⟩) (hg.block _ nF (fun e=>by injection e with e;simp only at e;omega))];exact zj.out i p hp
   have Gu:=qH (zLH rb F ⟨[],bad,lost⟩ p V hr (cB.out p (List.mem_of_getElem? hp)));have HP:=qH hp;have EI:=hr.lt;clear hp hr;go_upto_region 8 with fail
   clear hc;go_wp2_with fail
   refine Gu.out.mono ?_;intro e V2 hsc;have key:∃(o:Og) (B:Option Addr) (m d:Nat) (kO fS:Bool),e=.returned (opV o B m d)∧V.grownBy V2 (some rb)∧RX V2 rb F ⟨[],kO,fS⟩∧Hid ((OgOk o∧Stps V2 B m o.path∧m≤d∧∀k,blk B=some k→k < V2.heap.size∧V.heap.size≤k)∧zUn F.L ws (i+1) kO fS (Es++[(⟨o,B,m,d⟩:Oe)])):=by
    rcases hsc with ⟨nn,h1,B,m,d,h2,h3,h4,h5,h6⟩ | ⟨h1,h2,⟨l,h3⟩,h4⟩
    ·have hok:=zSY FL.out (zFE h1).1;have hpn:m≤1000000:=by
      have h7:=zFE h1;have h8:=cB.out p (List.mem_of_getElem? HP.out);rw [h7.2.2] at h8;rw [h4];show (nn.path.map (pOf F.L)).length≤_;rw [List.length_map];have h9:=zMH h7.1;omega
     exact ⟨_,B,m,d,bad,_,h2,h6,h5,qH ⟨⟨hok.1,zHo h3 hpn hok.2,h3.cap,fun k hk=>⟨(h3.lt k hk).2,(h3.lt k hk).1⟩⟩,zPE HI.out HP.out h1 _ rfl⟩⟩
    ·exact ⟨zop,none,0,0,true,l,h2,h4,h3,qH ⟨⟨zPt.1,Stps.nil _ _,Nat.le_refl _,fun k hk=>by cases hk⟩,zPF HI.out HP.out h1 _ l⟩⟩
   obtain ⟨o,B,m,d,kO,fS,rfl,eh,mr,HE⟩:=key;have gQ:=hO.overR eh (by omega) HK.out;have x9:=hO.row.lt;have jB:=qH (fun k (hk:blk A'=some k)=>(x9 k hk).2);have hgg:=zAb hg eh;have hsz:X.heap.size≤V2.heap.size:=hgg.size;obtain ⟨kk,ff,⟨gf,gl,gfar,gpc⟩,path,vov⟩:=o;clear hsc hO eh hg Gu x9;go_upto_region 9 with (at_builtin;refine zEV ?_)
   refine qH ?_;refine zUj (y:=⟨⟨kk,ff,⟨gf,gl,gfar,gpc⟩,path,vov⟩,B,m,d⟩) (N:=i+1) (base:=X.heap.size) (A:=A') (n:=i) (c:=c') (Es:=Es) rfl (.tmp 22) (.tmp 26) ?_ ?_ ?_ ?_ ?_ ?_ ?_ ?_
   ·rfl
   ·exact gQ.row
   ·rfl
   ·rfl
   ·rfl
   ·omega
   ·exact hsz
   intro A2 c2 w9 hR9 cl ck;have aS:=gQ.row.belowOf cl hsz;have fH:=gQ.push ⟨⟨kk,ff,⟨gf,gl,gfar,gpc⟩,path,vov⟩,B,m,d⟩ ⟨HE.out.1.1,HE.out.1.2.1,HE.out.1.2.2.1,fun k hk=>⟨(HE.out.1.2.2.2 k hk).1,fun e2=>by have h1:=jB.out k e2;have h2:=(HE.out.1.2.2.2 k hk).2;omega⟩⟩ hR9 cl ck;have BE:=mr.over (aS.mono (by omega));have ui:=zAc hgg aS
   have HK2:=qH (show ∀e∈Es++[(⟨⟨kk,ff,⟨gf,gl,gfar,gpc⟩,path,vov⟩,B,m,d⟩:Oe)],∀k,blk e.A=some k→rb < k from fun e he k hk=>by
    rcases List.mem_append.1 he with h1 | h1
    ·exact HK.out e h1 k hk
    ·rw [List.mem_singleton.1 h1] at hk
     have h2:=(HE.out.1.2.2.2 k hk).2
     omega)
   have HI2:=qH HE.out.2;clear hR9 cl ck aS gQ mr hgg hsz HE jB HI;go_wp2_with fail
   go_roundw
   case rel=>exact ⟨i+1,_,A2,c2,_,kO,fS,rfl,by omega,by go_num,rfl,BE,fH,ui,HK2,HI2⟩
   case measure=>simp [intOf];omega
  ·have j1:¬(i:Int) < (n:Int):=by omega
   have hin:i=n:=by omega
   have hend:=zRE (L:=F.L) (S:=S) (i:=i) (bad:=bad) (lost:=lost) (Es:=Es) (by rw [HW.out];exact HI.out) (by rw [HW.out,HN.out];exact hin) H0.out;have iC:=qH hend;have pX:Below w.heap.size w V:=zAa hbw (zBB hg (show w.heap.size≤rb from hge) hbw.size) (Nat.le_refl _);have hzX:w.heap.size≤X.heap.size:=hbw.size;have hil:i≤1000000:=by omega
   have HO:=qH hO;have kX:=qH pX;have c4:V.cell? ⟨rb,4,none⟩=some (.bool bad):=hr.bad4.1;have c5:V.cell? ⟨rb,5,none⟩=some (.bool lost):=hr.lost5;clear hend hin hlt hg hr zj HI HK hO pX
   cases bad with
   | true =>
    have HE:=qH (show itE F.L S=6∧itO F.L S=[] from ⟨iC.out.1,iC.out.2.2 (by rw [iC.out.1];simp)⟩);clear c5;go_wp2_with fail
    go_ret2;exact (show zFM w _ _ _ _ by rw [HE.out.1,HE.out.2];exact ⟨none,0,0,[],rfl,rfl,by omega,OpsOwn.none_ _ _,kX.out⟩)
   | false =>
    cases lost with
    | true =>
     have HE:=qH (show itE F.L S=8∧itO F.L S=[] from ⟨iC.out.1,iC.out.2.2 (by rw [iC.out.1];simp)⟩);go_wp2_with fail
     go_ret2;exact (show zFM w _ _ _ _ by rw [HE.out.1,HE.out.2];exact ⟨none,0,0,[],rfl,rfl,by omega,OpsOwn.none_ _ _,kX.out⟩)
    | false =>
     have HE:=qH (show itE F.L S=0∧List.map (fun x:Oe=>x.o) Es=itO F.L S from ⟨iC.out.1,iC.out.2.1 iC.out.1⟩);go_wp2_with fail
     go_ret2;exact (show zFM w _ _ _ _ by rw [HE.out.1];exact ⟨A',i,c',Es,rfl,HE.out.2,hil,HO.out.mono hzX,kX.out⟩)
theorem zJi {S:List UInt8} {i:Nat} {b:UInt8} (h:S[i]? = some b) (w:World):(Instr.index 9 (.string (bA S)) (.int .i64 (i:Int))).run Tryz.prog w=.ok (.int .u8 b.toNat) w:=by
 have hl:i < S.length:=(List.getElem?_eq_some_iff.1 h).1;have hs:i < (bA S).size:=by rw [zAL];exact hl
 obtain ⟨b',h1,h2⟩:=zPo (S:=S) (pos:=i) hl hs;rw [h] at h1;have h1:b=b':=Option.some.inj h1;rw [run_index_string w 9 (bA S) .i64 (i:Int) Tryz.underlying9,dif_pos ⟨by omega,by omega⟩];simp only [Int.toNat_natCast];rw [h2,h1]
theorem zUo {S:List UInt8} {i j:Nat} (h:i≤j) (hj:j≤S.length) (w:World):(Instr.slice 9 (.string (bA S)) (some (.int .i64 (i:Int))) (some (.int .i64 (j:Int))) none).run Tryz.prog w=.ok (.string (bA ((S.take j).drop i))) w:=by
 rw [run_slice_string w 9 (bA S) .i64 .i64 (i:Int) (j:Int) Tryz.underlying9 (by omega) (by omega) (by rw [zAL];omega),zBN];simp
theorem zRF {S:List UInt8} {j:Nat} (hj:j≤S.length) (w:World):(Instr.slice 9 (.string (bA S)) none (some (.int .i64 (j:Int))) none).run Tryz.prog w=.ok (.string (bA (S.take j))) w:=by
 rw [run_slice_string_h w 9 (bA S) Tryz.underlying9 .i64 (j:Int) (by omega) (by rw [zAL];omega),zBN];simp
theorem zJj {S:List UInt8} (h:¬(S≠[]∧S.length≤9∧S.head?≠some 48∧S.all zJE=true)):zJf S=0:=by unfold zJf;rw [zDc h]
set_option maxHeartbeats 3200000 in
theorem zKs (S:List UInt8) (w:World) :
  Calls Tryz.prog 131 #[.string (bA S)] w fun e w'=>e=.returned (.int .i64 (zJf S))∧Below w.heap.size w w':=by
 have hs:=zCD S;obtain ⟨V,HC⟩:∃v,Hid (zJf S=v):=⟨_,qH rfl⟩
 rw [show zJf S=V from HC.out];obtain ⟨nS,eN⟩:∃n,S.length=n:=⟨_,rfl⟩
 rw [eN] at hs;have HB:=qH (Below.refl w.heap.size w);by_cases h0:S=[]
 ·have hr:=qH (show V=0 from HC.out.symm.trans (zJj fun h=>h.1 h0));have i0:((nS:Int)==0)=true:=by rw [←eN,h0];rfl
  clear h0 eN;go_enter Tryz.func131,Tryz.ntmps131;go_wp2_with fail
  go_ret;exact ⟨zFs hr.out.symm,HB.out⟩
 have i0:((nS:Int)==0)=false:=by
  have:S.length≠0:=fun e=>h0 (List.length_eq_zero_iff.1 e)
  simp only [beq_eq_false_iff_ne,ne_eq];omega
 by_cases hl:9 < nS
 ·have hr:=qH (show V=0 from HC.out.symm.trans (zJj fun h=>by omega));have i1:(9:Int) < (nS:Int):=by omega
  clear h0 eN hl;go_enter Tryz.func131,Tryz.ntmps131;go_wp2_with fail
  go_ret;exact ⟨zFs hr.out.symm,HB.out⟩
 have i1:¬(9:Int) < (nS:Int):=by omega
 obtain ⟨x,r,hx⟩:∃x r,S=x :: r:=by
  cases S with
  | nil=>exact absurd rfl h0
  | cons x r=>exact ⟨x,r,rfl⟩
 have s1:=zCJ x r;rw [←hx] at s1;by_cases h48:x=48
 ·have hr:=qH (show V=0 from HC.out.symm.trans (zJj fun h=>h.2.2.1 (by rw [hx,h48];rfl)));rw [show ((x.toNat:Nat):Int)=48 from by rw [h48];rfl] at s1;clear h0 eN hl h48 hx;go_enter Tryz.func131,Tryz.ntmps131;go_wp2_with fail
  go_ret;exact ⟨zFs hr.out.symm,HB.out⟩
 have k1:((x.toNat:Int)==48)=false:=by
  simp only [beq_eq_false_iff_ne,ne_eq];intro e;exact h48 (UInt8.toNat.inj (show x.toNat=48 by omega))
 have HS:=qH (show S≠[]∧S.length≤9∧S.head?≠some 48 from ⟨h0,by omega,by rw [hx];simpa using h48⟩);have HN:=qH eN;have EJ:nS≤9:=by omega
 clear h0 eN hl h48 hx;go_enter Tryz.func131,Tryz.ntmps131;go_wp2_with fail
 go_loopw [3,4] (fun v3 v4 wr=>∃(pos U:Nat) (X:World),X=wr∧v3=.int .i64 U∧v4=.int .i64 pos∧pos≤nS∧Below w.heap.size w X∧Hid (U=zGp 0 (S.take pos))∧Hid (∀b∈S.take pos,zJE b=true)) (fun _ v4 _=>nS-(intOf v4).toNat)
 case atStart=>exact ⟨0,0,_,rfl,rfl,rfl,by omega,HB.out,qH rfl,qH (by simp)⟩
 case round =>
  obtain ⟨pos,U,X,hX,rfl,rfl,hpos,hb,HV,HD⟩:=hrel;subst hX;by_cases hp:pos < nS
  ·have j0:(pos:Int) < (nS:Int):=by omega
   obtain ⟨b,ay⟩:∃b,S[pos]? = some b:=⟨_,List.getElem?_eq_getElem (by rw [HN.out];exact hp)⟩
   have hnx:=zJi ay;by_cases hd:zJE b=true
   ·obtain ⟨d1,d2⟩:=zEO hd;obtain ⟨B,hB⟩:∃B:Nat,b.toNat=B:=⟨_,rfl⟩
    rw [hB] at hnx d1 d2;have j1:¬((B:Int) < 48):=by omega
    have j2:¬((57:Int) < (B:Int)):=by omega
    have hV:U < 1000000000:=by
     have:=zSX _ HD.out;rw [←HV.out] at this;have h3:(S.take pos).length≤9:=by rw [List.length_take];omega
     have:=Nat.pow_le_pow_right (n:=10) (by omega) h3;omega
    have gY:=qH (show zGp 0 (S.take (pos+1))=10*U+(B-48)∧∀y∈S.take (pos+1),zJE y=true by
     rw [zME ay,HV.out,hB]
     refine ⟨rfl,fun y hy=>?_⟩
     rw [List.take_add_one,ay] at hy
     rcases List.mem_append.1 hy with hy | hy
     ·exact HD.out y hy
     ·simp at hy;rw [hy];exact hd)
    clear hd ay hB HV HD;go_wp2_with fail
    go_roundw
    case rel=>exact ⟨pos+1,10*U+(B-48),_,rfl,by congr 1;simp;omega,by go_num,by omega,hb,qH gY.out.1.symm,qH gY.out.2⟩
    case measure=>simp [intOf];omega
   ·have hr:=qH (show V=0 from HC.out.symm.trans (zJj fun h=>hd ((List.all_eq_true.1 h.2.2.2) b (List.mem_of_getElem? ay))));obtain ⟨B,hB⟩:∃B:Nat,b.toNat=B:=⟨_,rfl⟩
    rw [hB] at hnx;have qC:=qH hb;by_cases hlt:(B:Int) < 48
    ·clear hd ay hB HV HD hb;go_wp2_with fail
     go_ret;exact ⟨zFs hr.out.symm,qC.out⟩
    ·have hgt:(57:Int) < (B:Int):=by
      have:¬(48≤b.toNat∧b.toNat≤57):=fun e=>hd (by simp [zJE,e])
      omega
     clear hd ay hB HV HD hb;go_wp2_with fail
     go_ret;exact ⟨zFs hr.out.symm,qC.out⟩
  ·have j0:¬(pos:Int) < (nS:Int):=by omega
   have hr:=qH (show V=(U:Int) by
    have hpe:pos=nS:=by omega
    have h1:S.take pos=S:=by rw [hpe,←HN.out,List.take_length]
    have h2:=HD.out
    have h3:=HV.out
    rw [h1] at h2 h3
    rw [←HC.out]
    unfold zJf zAq
    rw [if_pos ⟨HS.out.1,HS.out.2.1,HS.out.2.2,List.all_eq_true.2 h2⟩,h3])
   have qC:=qH hb;clear HV HD HN HS hb;go_wp2_with fail
   go_ret;exact ⟨zFs hr.out.symm,qC.out⟩
theorem zIi {S:List UInt8} {v:Int} (h:zJf S=v) (w:World):Calls Tryz.prog 131 #[.string (bA S)] w fun e w'=>e=.returned (.int .i64 v)∧Below w.heap.size w w':=by
 subst h;exact zKs S w
def SplQ (c:UInt8) (S:List UInt8) (fr i:Nat) (T:List (List UInt8)):Prop :=
 (i≤S.length→fr≤i∧zAR c S=T++zAR c (S.drop fr)∧c ∉ (S.take i).drop fr)∧(i=S.length+1→T=zAR c S)
section
variable {c b:UInt8} {S:List UInt8} {fr i:Nat} {T:List (List UInt8)}
theorem zRG (hf:fr≤i) (h:S[i]? = some b):S.drop fr=(S.take i).drop fr++b :: S.drop (i+1):=by
 have hi:=(List.getElem?_eq_some_iff.1 h).1;have h2:S.drop i=b :: S.drop (i+1):=by
  rw [List.drop_eq_getElem_cons hi]
  congr 1
  rw [List.getElem?_eq_getElem hi] at h;injection h
 rw [←h2]
 conv=>lhs;rw [←List.take_append_drop i S]
 rw [List.drop_append_of_le_length (by rw [List.length_take];omega)]
theorem SplQ.start:SplQ c S 0 0 []:=⟨fun _=>⟨Nat.le_refl _,by simp,by simp⟩,fun h=>by omega⟩
theorem SplQ.hit (h:SplQ c S fr i T) (hb:S[i]? = some c):SplQ c S (i+1) (i+1) (T++[(S.take i).drop fr]):=by
 have hi:=(List.getElem?_eq_some_iff.1 hb).1;obtain ⟨h1,h2,h3⟩:=h.1 (by omega);refine ⟨fun _=>⟨Nat.le_refl _,?_,by simp⟩,fun e=>by omega⟩;rw [h2,zRG h1 hb,zCL h3];simp
theorem SplQ.miss (h:SplQ c S fr i T) (hb:S[i]? = some b) (hne:b≠c):SplQ c S fr (i+1) T:=by
 have hi:=(List.getElem?_eq_some_iff.1 hb).1;obtain ⟨h1,h2,h3⟩:=h.1 (by omega);refine ⟨fun _=>⟨by omega,h2,?_⟩,fun e=>by omega⟩;rw [List.take_add_one,hb,List.drop_append_of_le_length (by rw [List.length_take];omega)];intro e;rcases List.mem_append.1 e with e | e
 ·exact h3 e
 ·simp at e;exact hne e.symm
theorem SplQ.last (h:SplQ c S fr S.length T):SplQ c S (S.length+1) (S.length+1) (T++[(S.take S.length).drop fr]):=by
 obtain ⟨h1,h2,h3⟩:=h.1 (Nat.le_refl _);refine ⟨fun e=>by omega,fun _=>?_⟩;rw [List.take_length] at h3 ⊢;rw [h2,zEI h3]
theorem SplQ.fr_le (h:SplQ c S fr i T) (hi:i≤S.length):fr≤i:=(h.1 hi).1
end
set_option maxHeartbeats 3200000 in
theorem zNH (S:List UInt8) (c:UInt8) (hS:S.length≤100000) (w:World) :
  Calls Tryz.prog 66 #[.string (bA S),.int .u8 (c.toNat:Int)] w (zCQ w (zAR c S)):=by
 have hs:=zCD S;obtain ⟨nS,eN⟩:∃n,S.length=n:=⟨_,rfl⟩
 rw [eN] at hs hS;have HN:=qH eN;obtain ⟨C,hC⟩:∃C:Nat,c.toNat=C:=⟨_,rfl⟩
 rw [hC];have HC:=qH hC;clear hC eN;go_enter Tryz.func66,Tryz.ntmps66;go_wp2_with fail
 go_loopw [5,6,7] (fun v5 v6 v7 wv=>∃(i fr:Nat) (X:World) (A:Option Addr) (m d:Nat) (T:List (List UInt8)),X=wv∧i≤nS+1∧v7=.int .i64 i∧v6=.int .i64 fr∧v5=.slice A m d∧Row X w.heap.size 1 A m d (T.map zDo)∧m≤i∧Below w.heap.size w X∧Hid (SplQ c S fr i T)) (fun _ _ v7 _=>nS+1-(intOf v7).toNat)
 case atStart=>exact ⟨0,0,_,none,0,0,[],rfl,by omega,rfl,rfl,rfl,Row.none_ _ _ _,Nat.le_refl _,Below.refl _ _,qH SplQ.start⟩
 case round =>
  obtain ⟨i,fr,X,A,m,d,T,hX,hi,rfl,rfl,rfl,hR,hm,hb,HQ⟩:=hrel;subst hX;have hz:w.heap.size≤X.heap.size:=hb.size;by_cases hlt:i≤nS
  ·have j0:(i:Int)≤(nS:Int):=by omega
   have hfr:fr≤i:=HQ.out.fr_le (by rw [HN.out];exact hlt);have hsl:=zUo (S:=S) (i:=fr) (j:=i) hfr (by rw [HN.out];exact hlt);by_cases he:i=nS
   ·have j1:((i:Int)==(nS:Int))=true:=by rw [he];simp
    have jx:=qH (show SplQ c S (i+1) (i+1) (T++[(S.take i).drop fr]) by
     have h1:i=S.length:=by rw [HN.out];exact he
     have h2:=HQ.out
     rw [h1] at h2 ⊢
     exact h2.last)
    obtain ⟨P,hP⟩:∃P,(S.take i).drop fr=P:=⟨_,rfl⟩
    rw [hP] at hsl jx;clear hP HQ he;go_wp2_with (at_builtin;refine zLl rfl _ _ rfl hR P rfl rfl (m+1) rfl (by omega) hz ?_;intro A2 c2 w9 hR9 aS)
    have bX:=hb.trans aS;clear hR hb aS;go_wp2_with fail
    go_roundw
    case rel=>exact ⟨i+1,i+1,_,A2,m+1,c2,T++[P],rfl,by omega,by go_num,by go_num,rfl,hR9,by omega,bX,jx⟩
    case measure=>simp [intOf];omega
   ·have j1:((i:Int)==(nS:Int))=false:=by simp only [beq_eq_false_iff_ne,ne_eq];omega
    obtain ⟨b,ay⟩:∃b,S[i]? = some b:=⟨_,List.getElem?_eq_getElem (by rw [HN.out];omega)⟩
    have hnx:=zJi ay;by_cases hq:b=c
    ·have j2:((b.toNat:Int)==(C:Int))=true:=by rw [hq,HC.out];simp
     have jx:=qH (HQ.out.hit (by rw [ay,hq]));obtain ⟨P,hP⟩:∃P,(S.take i).drop fr=P:=⟨_,rfl⟩
     rw [hP] at hsl jx;generalize b.toNat=B at hnx j2;clear hP HQ he ay hq;go_wp2_with (at_builtin;refine zLl rfl _ _ rfl hR P rfl rfl (m+1) rfl (by omega) hz ?_;intro A2 c2 w9 hR9 aS)
     have bX:=hb.trans aS;clear hR hb aS;go_wp2_with fail
     go_roundw
     case rel=>exact ⟨i+1,i+1,_,A2,m+1,c2,T++[P],rfl,by omega,by go_num,by go_num,rfl,hR9,by omega,bX,jx⟩
     case measure=>simp [intOf];omega
    ·have j2:((b.toNat:Int)==(C:Int))=false:=by
      simp only [beq_eq_false_iff_ne,ne_eq];intro e;exact hq (UInt8.toNat.inj (by rw [HC.out];omega))
     have jx:=qH (HQ.out.miss ay hq);generalize b.toNat=B at hnx j2;clear HQ he ay hq hsl;go_wp2_with fail
     go_roundw
     case rel=>exact ⟨i+1,fr,_,A,m,d,T,rfl,by omega,by go_num,rfl,rfl,hR,by omega,hb,jx⟩
     case measure=>simp [intOf];omega
  ·have j0:¬(i:Int)≤(nS:Int):=by omega
   have hT:=qH (show T=zAR c S from HQ.out.2 (by rw [HN.out];omega));clear HQ;go_wp2_with fail
   go_ret;exact ⟨A,m,d,rfl,by rw [←hT.out];exact hR,by omega,hb⟩
theorem zMI {S:List UInt8} {c:UInt8} {T:List (List UInt8)} (h:zAR c S=T) (hS:S.length≤100000) (w:World) :
  Calls Tryz.prog 66 #[.string (bA S),.int .u8 (c.toNat:Int)] w (zCQ w T):=by
 subst h;exact zNH S c hS w
noncomputable def rsE (L:List Fg) (re lo:Int) (S:List UInt8):Int:=if zAy L re lo S=0 then itE L S else zAy L re lo S
noncomputable def rsO (L:List Fg) (re lo:Int) (S:List UInt8):List Og:=if zAy L re lo S=0 then itO L S else []
set_option maxHeartbeats 6400000 in
theorem zHq (F:Fm) (S:List UInt8) (w:World) (hA:Fgs w F.A F.n F.L) (hc:F.n≤F.c) (ht:Tabs w) :
  Calls Tryz.prog 31 #[frV F.A F.n F.c F.re F.lo,.string (bA S)] w (zFM w (rsO F.L F.re F.lo S) (rsE F.L F.re F.lo S)):=by
 have ah:Below w.heap.size w (w.alloc (.cells #[.slice F.A F.n F.c,.int .i64 F.re,.int .i64 F.lo] 24)):=(Below.refl _ _).alloc (Nat.le_refl _) _;have hk0:Blk (w.alloc (.cells #[.slice F.A F.n F.c,.int .i64 F.re,.int .i64 F.lo] 24)) w.heap.size 24 #[.slice F.A F.n F.c,.int .i64 F.re,.int .i64 F.lo]:=Blk.new _ _ _;have HA:=qH hA;have HT:=qH ht;obtain ⟨E,hE⟩:∃E,zAy F.L F.re F.lo S=E:=⟨_,rfl⟩
 have kY:=qH (fun wx (hx:Fgs wx F.A F.n F.L)=>zDd F.A F.n F.c F.L F.re F.lo S wx hx hc);simp only [hE] at kY;have HE:=qH hE;clear hA ht hE;go_enter Tryz.func31,Tryz.ntmps31;go_wp2_with fail
 generalize w.alloc (.cells #[.slice F.A F.n F.c,.int .i64 F.re,.int .i64 F.lo] 24)=Y at ah hk0 ⊢;refine (kY.out Y (HA.out.below ah)).mono ?_;rintro e Y2 ⟨rfl,ai⟩;have bt:=hk0.below ai hk0.lt;have al:=zAa ah ai ah.size;clear hk0 ah ai kY;by_cases h0:E=0
 ·subst h0;have hS:=(zBP HE.out).1;have HR:=qH (show rsE F.L F.re F.lo S=itE F.L S∧rsO F.L F.re F.lo S=itO F.L S by unfold rsE rsO;rw [HE.out];exact ⟨rfl,rfl⟩);have jy:=qH (zHp F S Y2 (HA.out.below al) (by omega) (HT.out.below al));obtain ⟨v0,v1,v2⟩:=cQ3 bt;have hz:w.heap.size≤Y2.heap.size:=al.size;have qC:=qH al;clear hS bt al;go_wp2_with fail
  refine jy.out.mono ?_;rintro e Y3 ⟨B,m,d,Es,rfl,hO,hm,hE,aI⟩;have HF:=qH (show zFM w (rsO F.L F.re F.lo S) (rsE F.L F.re F.lo S) (.returned (.tuple #[.slice B m d,.int .i64 (itE F.L S)])) Y3 by rw [HR.out.1,HR.out.2];exact ⟨B,m,d,Es,rfl,hO,hm,hE.mono hz,zAa qC.out aI qC.out.size⟩);clear hO hE aI hm HR;go_wp2_with fail
  go_ret2;exact HF.out
 ·have HF:=qH (show zFM w (rsO F.L F.re F.lo S) (rsE F.L F.re F.lo S) (.returned (.tuple #[.slice none 0 0,.int .i64 E])) Y2 by
   have h1:rsE F.L F.re F.lo S=E∧rsO F.L F.re F.lo S=[]:=by unfold rsE rsO;rw [HE.out,if_neg h0,if_neg h0];exact ⟨rfl,rfl⟩
   rw [h1.1,h1.2]
   exact ⟨none,0,0,[],rfl,rfl,by omega,OpsOwn.none_ _ _,al⟩)
  have k0:(E != 0)=true:=by simpa using h0
  clear bt al h0;go_wp2_with fail
  go_ret2;exact HF.out
theorem zWQ (w:World):(Instr.build 183 #[]).run Tryz.prog w=.ok (.agg #[]) w:=run_build w _ _ _ (by kernel_rfl)
theorem zWR (w:World):(Instr.build 184 #[]).run Tryz.prog w=.ok (.agg #[]) w:=run_build w _ _ _ (by kernel_rfl)
def zJG (k:Int):Value:=if k=1 then .iface 183 (.agg #[]) else if k=2 then .iface 184 (.agg #[]) else .nilIface
theorem zKt (k:Int) (w:World):Calls Tryz.prog 89 #[.int .i64 k] w fun e w'=>e=.returned (zJG k)∧w'=w:=by
 by_cases h1:k=1
 ·subst h1;go_enter Tryz.func89,Tryz.ntmps89;go_wp2_with fail
  go_ret;exact ⟨rfl,rfl⟩
 ·by_cases h2:k=2
  ·subst h2;go_enter Tryz.func89,Tryz.ntmps89;go_wp2_with fail
   go_ret;exact ⟨rfl,rfl⟩
  ·have HV:=qH (show zJG k=.nilIface by unfold zJG;rw [if_neg h1,if_neg h2]);have m1:(k==1)=false:=by simpa using h1
   have m2:(k==2)=false:=by simpa using h2
   rw [HV.out];clear h1 h2;go_enter Tryz.func89,Tryz.ntmps89;go_wp2_with fail
   go_ret;exact ⟨rfl,rfl⟩
set_option maxHeartbeats 800000 in
theorem zNI (A:Option Addr) (n c:Nat) (L:List Fg) (re lo:Int) (o:Og) (B:Option Addr) (m d:Nat) (b:Nat) (w:World) (hA:Fgs w A n L) (hk:Blk w b 24 #[.slice A n c,.int .i64 re,.int .i64 lo]) (hO:OpIn w o B m d) (hr:zAg n o=true) :
  Calls Tryz.prog 141 #[opV o B m d,.pointer (some ⟨b,0,none⟩)] w fun e w'=>e=.returned (.bool (!zDn L o))∧Below w.heap.size w w':=by
 have ah:Below w.heap.size w (w.alloc (.cells #[.int .i64 o.kind,.int .i64 o.f,.int .i64 o.fr.f,.int .i64 o.fr.l,.bool o.fr.far,.int .i64 o.fr.pc,.slice B m d,.bool o.over] 32)):=(Below.refl _ _).alloc (Nat.le_refl _) _;have hk2:=hk.alloc (.cells #[.int .i64 o.kind,.int .i64 o.f,.int .i64 o.fr.f,.int .i64 o.fr.l,.bool o.fr.far,.int .i64 o.fr.pc,.slice B m d,.bool o.over] 32);have y0:=(hk2.cell 0).trans rfl;have y1:=(hk2.cell 1).trans rfl;have y2:=(hk2.cell 2).trans rfl;have HC:=qH (zJX A n c L re lo o B m d _ (hA.below ah) (hO.below ah) hr);go_enter Tryz.func141,Tryz.ntmps141;go_wp2_with fail
 refine HC.out.mono ?_;rintro e w2 ⟨rfl,ai⟩;have al:=zAa ah ai ah.size;clear y0 y1 y2;go_wp2_with fail
 go_ret;exact ⟨rfl,al⟩
theorem zUp {L:List Fg} {o:Og} {q:Bool} (h:zDn L o=q) (A:Option Addr) (n c:Nat) (re lo:Int) (B:Option Addr) (m d:Nat) (b:Nat) (w:World) (hA:Fgs w A n L) (hk:Blk w b 24 #[.slice A n c,.int .i64 re,.int .i64 lo]) (hO:OpIn w o B m d) (hr:zAg n o=true) :
  Calls Tryz.prog 141 #[opV o B m d,.pointer (some ⟨b,0,none⟩)] w fun e w'=>e=.returned (.bool (!q))∧Below w.heap.size w w':=by
 subst h;exact zNI A n c L re lo o B m d b w hA hk hO hr
theorem zUq {L:List Fg} {Es:List Oe} (h:∀j,j < Es.length→zDn L (oa Es j).o=true):(Es.all fun x=>zDn L x.o)=true:=by
 rw [List.all_eq_true];intro x hx;obtain ⟨i,hi⟩:=List.getElem?_of_mem hx;have hlt:=(List.getElem?_eq_some_iff.1 hi).1;have h3:=zBn hlt;rw [hi] at h3;injection h3 with h3
 rw [h3];exact h i hlt
theorem zNJ {L:List Fg} {Es:List Oe} {i:Nat} (hi:i < Es.length) (h:zDn L (oa Es i).o=false):(Es.all fun x=>zDn L x.o)=false:=by
 cases e:(Es.all fun x=>zDn L x.o) with
 | false=>rfl
 | true=>rw [List.all_eq_true] at e;have:=e _ (List.mem_of_getElem? (zBn hi));rw [h] at this;cases this
set_option maxHeartbeats 3200000 in
theorem zFN (A:Option Addr) (n c:Nat) (L:List Fg) (re lo:Int) (b:Nat) (B:Option Addr) (m d:Nat) (Es:List Oe) (w:World) (hA:Fgs w A n L) (hk:Blk w b 24 #[.slice A n c,.int .i64 re,.int .i64 lo]) (hP:Oprs w B m Es) (hf:∀i,i < Es.length→zAg n (oa Es i).o=true) :
  Calls Tryz.prog 174 #[.slice B m d,.func (.func 141) #[] #[.pointer (some ⟨b,0,none⟩)]] w
   fun e w'=>∃k:Int,e=.returned (.int .i64 k)∧zOo (Es.all fun x=>zDn L x.o) k∧Below w.heap.size w w':=by
 have hle:=hP.le;have aM:=qH hP.len;have HF:=qH hf;clear hf;go_enter Tryz.func174,Tryz.ntmps174;go_wp2_with fail
 go_loopw [8] (fun v wr=>∃i:Nat,i≤m∧v=.int .i64 i∧Below w.heap.size w wr∧Hid (∀j:Nat,j < i→zDn L (oa Es j).o=true)) (fun v _=>m-(intOf v).toNat)
 case atStart=>exact ⟨0,Nat.zero_le _,rfl,Below.refl _ _,qH (fun j hj=>by omega)⟩
 case round =>
  obtain ⟨i,hi,rfl,hbr,HS⟩:=hrel;by_cases hlt:i < m
  ·obtain ⟨g,p,rfl,hg,⟨x0,x1,x2,x3,x4,x5,x6,x7⟩,hin⟩:=(hP.below hbr).at_ hlt;have j0:(0:Int)≤(i:Int):=by omega
   have j1:(i:Int) < (m:Int):=by omega
   have hil:i < Es.length:=by rw [aM.out];exact hlt
   obtain ⟨q,hq⟩:∃q,zDn L (oa Es i).o=q:=⟨_,rfl⟩
   have HQ:=qH hq;have HC:=qH (zUp hq A n c re lo _ _ _ b wr (hA.below hbr) (hk.below hbr hk.lt) hin (HF.out i hil));have nz:=qH hil;clear hq hil hin;generalize oa Es i=x at x0 x1 x2 x3 x4 x5 x6 x7 HC;obtain ⟨⟨kk,ff,⟨gf,gl,gfar,gpc⟩,path,vov⟩,B2,m2,d2⟩:=x;simp only at x0 x1 x2 x3 x4 x5 x6 x7
   cases q with
   | true =>
    have cn:=qH (show ∀j:Nat,j < i+1→zDn L (oa Es j).o=true from fun j hj=>by
     rcases Nat.decEq j i with e | e
     ·exact HS.out j (by omega)
     ·subst e;exact HQ.out)
    clear HS HQ nz;go_wp2_with fail
    refine HC.out.mono ?_;rintro e w5 ⟨rfl,aw⟩;have aH:=zAa hbr aw hbr.size;clear x0 x1 x2 x3 x4 x5 x6 x7;go_wp2_with fail
    go_roundw
    case rel=>exact ⟨i+1,by omega,by go_num,aH,cn⟩
    case measure=>simp [intOf];omega
   | false =>
    have hr:=qH (show zOo (Es.all fun x=>zDn L x.o) (i:Int) by rw [zNJ nz.out HQ.out];unfold zOo;rw [if_neg (by decide)];omega);clear HS HQ nz;go_wp2_with fail
    refine HC.out.mono ?_;rintro e w5 ⟨rfl,aw⟩;have aH:=zAa hbr aw hbr.size;clear x0 x1 x2 x3 x4 x5 x6 x7;go_wp2_with fail
    go_ret;exact ⟨_,rfl,hr.out,aH⟩
  ·have j1:¬(i:Int) < (m:Int):=by omega
   have hr:=qH (show zOo (Es.all fun x=>zDn L x.o) (-1) by rw [zUq (fun j hj=>HS.out j (by rw [aM.out] at hj;omega))];unfold zOo;rw [if_pos rfl]);clear HS;go_wp2_with fail
   go_ret;exact ⟨_,rfl,hr.out,hbr⟩
theorem zDZ (A:Option Addr) (n c:Nat) (L:List Fg) (re lo:Int) (b:Nat) (B:Option Addr) (m d:Nat) (Es:List Oe) (w:World) (hA:Fgs w A n L) (hk:Blk w b 24 #[.slice A n c,.int .i64 re,.int .i64 lo]) (hP:Oprs w B m Es) (hf:∀i,i < Es.length→zAg n (oa Es i).o=true) :
  Calls Tryz.prog 140 #[.slice B m d,.func (.func 141) #[] #[.pointer (some ⟨b,0,none⟩)]] w
   fun e w'=>e=.returned (.bool (!(Es.all fun x=>zDn L x.o)))∧Below w.heap.size w w':=by
 have HC:=qH (zFN A n c L re lo b B m d Es w hA hk hP hf);go_enter Tryz.func140,Tryz.ntmps140;go_wp2_with fail
 refine HC.out.mono ?_;rintro e w2 ⟨k,rfl,hk2,ai⟩;have HK:=qH hk2;clear hk2;go_wp2_with fail
 go_ret;refine ⟨zBU ?_,ai⟩;have h:=HK.out;unfold zOo at h
 cases hq:(Es.all fun x=>zDn L x.o) with
 | true=>rw [hq,if_pos rfl] at h;simp [h]
 | false=>rw [hq] at h;simp at h;simp [h]
theorem zVW (w:World):(Instr.typeAssert (.iface 184 (.agg #[])) 138 184 true).run Tryz.prog w=.ok (.tuple #[.agg #[],.bool true]) w:=by kernel_rfl
theorem zXh (w:World):(Instr.typeAssert (.iface 183 (.agg #[])) 138 184 true).run Tryz.prog w=.ok (.tuple #[.agg #[],.bool false]) w:=by kernel_rfl
def zTc (L:List Fg) (k:Int) (Es:List Oe):Bool:=if k=2 then Es.all (fun x=>zDn L x.o) else true
set_option maxHeartbeats 1600000 in
set_option maxRecDepth 100000 in
theorem zEY (A:Option Addr) (n c:Nat) (L:List Fg) (re lo:Int) (k:Int) (hk:k=1∨k=2) (B:Option Addr) (m d:Nat) (Es:List Oe) (w:World) (hA:Fgs w A n L) (hP:Oprs w B m Es) (hf:∀i,i < Es.length→zAg n (oa Es i).o=true) :
  Calls Tryz.prog 90 #[zJG k,frV A n c re lo,.slice B m d] w fun e w'=>e=.returned (.bool (zTc L k Es))∧Below w.heap.size w w':=by
 have ah:Below w.heap.size w (w.alloc (.cells #[.slice A n c,.int .i64 re,.int .i64 lo] 24)):=(Below.refl _ _).alloc (Nat.le_refl _) _;have hk0:Blk (w.alloc (.cells #[.slice A n c,.int .i64 re,.int .i64 lo] 24)) w.heap.size 24 #[.slice A n c,.int .i64 re,.int .i64 lo]:=Blk.new _ _ _;have HC:=qH (zDZ A n c L re lo w.heap.size B m d Es _ (hA.below ah) hk0 (hP.below ah) hf);have ty:=zVW;have tn:=zXh;rcases hk with rfl | rfl
 ·rw [show zJG 1=.iface 183 (.agg #[]) from rfl];go_enter Tryz.func90,Tryz.ntmps90;go_wp2_with fail
  go_ret;exact ⟨rfl,ah⟩
 ·rw [show zJG 2=.iface 184 (.agg #[]) from rfl];have HR:=qH (show zTc L 2 Es=(Es.all fun x=>zDn L x.o) from rfl);go_enter Tryz.func90,Tryz.ntmps90;go_wp2_with fail
  refine HC.out.mono ?_;rintro e w2 ⟨rfl,ai⟩;have al:=zAa ah ai ah.size;go_wp2_with fail
  go_ret;exact ⟨zBU (by rw [HR.out]),al⟩
end Go.Proofs.YtlmdfmnbcndhoaaGreatDoor
