/-
  Lemmas, part 25. Conditions: each theorem's own.
-/
import Derived.Test.YtlmdfmnbcndhoaaGreatDoorRc24
open Option renaming none→U,some→Z
open Go.Value renaming bool→G,int→D,slice→H,string→W
open Go.IntKind renaming i64→J
open Bool renaming false→E,true→Q
namespace Go.Proofs.YtlmdfmnbcndhoaaGreatDoor
open Go.RowKit
noncomputable def zDj:List (List UInt8)→Option (List Nop)
 | []=>Z []
 | S :: T=>match zAJ S,zDj T with
  | some n,Z ns=>Z (n :: ns)
  | _,_=>U
theorem zGf:∀(T:List (List UInt8)) (S:List UInt8),zDj (T++[S])=match zDj T,zAJ S with
  | some ns,Z n=>Z (ns++[n])
  | _,_=>U
 | [],S=>by
  cases h:zAJ S<;>simp [zDj,h]
 | X :: T,S=>by
  rw [List.cons_append,zDj,zGf T S,zDj]
  cases zAJ X<;>cases zDj T<;>cases zAJ S<;>rfl
noncomputable def itE (L:List Fg) (S:List UInt8):Int:=if S=[] then 0 else match zDj (zAN 32 S) with | none=>6 | some ns=>if ns.any (zAE L) then 8 else 0
noncomputable def itO (L:List Fg) (S:List UInt8):List Og:=if S=[] then [] else match zDj (zAN 32 S) with | none=>[] | some ns=>if ns.any (zAE L) then [] else ns.map (oOf L)
theorem zMO {n:Nop} (h:okN n):n.path.length≤(zHC n).length:=by
 by_cases hp:n.path=[]
 ·simp [hp]
 ·have hk:n.kind=3∧∃x,n.fr=Z x:=by
   rcases h.2 with ⟨_,_,h,_⟩ | ⟨_,_,h⟩ | ⟨h,⟨x,hx,_⟩,_⟩ | ⟨_,_,h⟩ | ⟨_,_,h⟩
   ·exact absurd h hp
   ·exact absurd h hp
   ·exact ⟨h,x,hx⟩
   ·exact absurd h hp
   ·exact absurd h hp
  obtain ⟨hk,x,hx⟩:=hk;have:=zPE (P:=n.path) x;unfold zHC zTu frI;rw [if_neg (by omega),if_pos hk,hx];unfold zJz at this;simp only [List.length_append] at this ⊢;omega
def zGg (w0:World) (O:List Og) (er:Int) (e:Ending) (w':World):Prop :=
 ∃B m d Es,e=.returned (.tuple #[H B m d,D J er])∧List.map (fun x:Oe=>x.o) Es=O∧m≤1000000∧OpsOwn w' w0.heap.size B m d Es∧Below w0.heap.size w0 w'
theorem OpsOwn.overR {w w':World} {base rb:Nat} {A:Option Addr} {n c:Nat} {Es:List Oe} (h:OpsOwn w base A n c Es) (hg:w.grownBy w' (Z rb)) (hb:rb < base) (hr:∀e∈Es,∀k,blk e.A=Z k→rb < k):OpsOwn w' base A n c Es :=
 ⟨h.row.overO hg hb,fun e he=>by
  obtain ⟨h1,h2,h3,h4⟩:=h.ok e he
  exact ⟨h1,h2.kept hg (fun k hk e2=>by injection e2 with e2;have:=hr e he k hk;omega),h3,fun k hk=>⟨Nat.lt_of_lt_of_le (h4 k hk).1 hg.size,(h4 k hk).2⟩⟩⟩
theorem zWr (A:Option Addr) (n c:Nat) (re lo:Int) (w:World):(Instr.build 123 #[(0,.agg #[H A n c,D J re,D J lo])]).run Tryz.prog w=.ok (.agg (rdC A n c re lo U 0 0 E E)) w:=run_build w _ _ _ (by kernel_rfl)
def zUE (L:List Fg) (ws:List (List UInt8)) (i:Nat) (bad lost:Bool) (Es:List Oe):Prop :=
 Es.length=i∧((bad=E∧∃ns,zDj (ws.take i)=Z ns∧lost=ns.any (zAE L)∧List.map (fun x:Oe=>x.o) Es=ns.map (oOf L))∨(bad=Q∧zDj (ws.take i)=U))
theorem zPO {L:List Fg} {ws:List (List UInt8)} {i:Nat} {bad lost:Bool} {Es:List Oe} (h:zUE L ws i bad lost Es) {S:List UInt8} (hS:ws[i]? = Z S) {n:Nop} (hn:zAJ S=Z n) (e:Oe) (he:e.o=oOf L n):zUE L ws (i+1) bad (lost||zAE L n) (Es++[e]):=by
 obtain ⟨h1,h2⟩:=h;refine ⟨by simp [h1],?_⟩;rw [List.take_add_one,hS];simp only [Option.toList_some];rw [zGf,hn];rcases h2 with ⟨rfl,ns,h3,h4,h5⟩ | ⟨rfl,h3⟩
 ·refine .inl ⟨rfl,ns++[n],by rw [h3],by rw [h4];simp,by rw [List.map_append,h5];simp [he]⟩
 ·exact .inr ⟨rfl,by rw [h3]⟩
theorem zPP {L:List Fg} {ws:List (List UInt8)} {i:Nat} {bad lost:Bool} {Es:List Oe} (h:zUE L ws i bad lost Es) {S:List UInt8} (hS:ws[i]? = Z S) (hn:zAJ S=U) (e:Oe) (l:Bool):zUE L ws (i+1) Q l (Es++[e]):=by
 obtain ⟨h1,h2⟩:=h;refine ⟨by simp [h1],.inr ⟨rfl,?_⟩⟩;rw [List.take_add_one,hS];simp only [Option.toList_some];rw [zGf,hn]
 cases zDj (ws.take i)<;>rfl
theorem zSe {L:List Fg} {S:List UInt8} {i:Nat} {bad lost:Bool} {Es:List Oe} (h:zUE L (zAN 32 S) i bad lost Es) (hi:i=(zAN 32 S).length) (h0:S≠[]) :
  itE L S=(if bad then 6 else if lost then 8 else 0)∧(itE L S=0→List.map (fun x:Oe=>x.o) Es=itO L S)∧(itE L S≠0→itO L S=[]):=by
 obtain ⟨_,h2⟩:=h;rw [hi,List.take_length] at h2;unfold itE itO;rw [if_neg h0,if_neg h0];rcases h2 with ⟨rfl,ns,h3,h4,h5⟩ | ⟨rfl,h3⟩
 ·simp only [h3,←h4]
  cases lost with
  | true=>simp
  | false=>simpa using h5
 ·simp only [h3];simp
set_option maxHeartbeats 12800000 in
set_option maxRecDepth 100000 in
theorem zHM (F:Fm) (S:List UInt8) (w:World) (hA:Fgs w F.A F.n F.L) (hS:S.length≤20000) (ht:Tabs w) :
  Calls Tryz.prog 72 #[frV F.A F.n F.c F.re F.lo,W (bA S)] w (zGg w (itO F.L S) (itE F.L S)):=by
 have pp:F.L.length≤17592186043904:=by rw [hA.len];exact hA.le
 have aa:Below w.heap.size w (w.alloc (.cells #[H F.A F.n F.c,D J F.re,D J F.lo] 24)):=(Below.refl _ _).alloc (Nat.le_refl _) _;have hk0:Blk (w.alloc (.cells #[H F.A F.n F.c,D J F.re,D J F.lo] 24)) w.heap.size 24 #[H F.A F.n F.c,D J F.re,D J F.lo]:=Blk.new _ _ _;have n0:=zAH S [];by_cases h0:S=[]
 ·have n1:(S==([]:List UInt8))=Q:=by rw [h0];rfl
  rw [n1] at n0
  have HF:=qH (show zGg w (itO F.L S) (itE F.L S) (.returned (.tuple #[H U 0 0,D J 0])) (w.alloc (.cells #[H F.A F.n F.c,D J F.re,D J F.lo] 24)) by
   have h1:itE F.L S=0∧itO F.L S=[]:=by unfold itE itO;rw [if_pos h0,if_pos h0];exact ⟨rfl,rfl⟩
   rw [h1.1,h1.2]
   exact ⟨U,0,0,[],rfl,rfl,by omega,OpsOwn.none_ _ _,aa⟩)
  clear h0 n1 aa hk0 hA ht pp hS;go_enter Tryz.func72,Tryz.ntmps72;go_wp2_with fail
  go_ret2;exact HF.out
 have n1:(S==([]:List UInt8))=E:=by simpa using h0
 rw [n1] at n0;obtain ⟨ws,hws⟩:∃ZR,zAN 32 S=ZR:=⟨_,rfl⟩
 obtain ⟨n,hn⟩:∃n,ws.length=n:=⟨_,rfl⟩
 have hnl:n≤20001:=by rw [←hn,←hws];have:=zCx S;omega
 have hpl:∀p∈ws,p.length≤100000:=fun p hp=>by rw [←hws] at hp;have:=zCw 32 S p hp;omega
 have cu:=qH hpl;have HN:=qH hn;have HW:=qH hws;have H0:=qH h0;have FL:=qH pp;have fS:=qH (fun wx (hx:Tabs wx)=>zHH S (by omega) wx hx);rw [hws,hn] at fS;obtain ⟨v0,v1,v2⟩:=cQ3 hk0;have HA:=qH hA;have HT:=qH ht;clear h0 n1 hws hn hpl pp hS hA ht hk0;go_enter Tryz.func72,Tryz.ntmps72;go_upto_region 3 with fail
 generalize w.alloc (.cells #[H F.A F.n F.c,D J F.re,D J F.lo] 24)=Y at aa v0 v1 v2 ⊢;have hbl:=(Below.refl Y.heap.size Y).alloc (Nat.le_refl _) (.cells (rdC F.A F.n F.c F.re F.lo U 0 0 E E) 123);have ah:=zAa aa hbl aa.size
 have hrx:RX (Y.alloc (.cells (rdC F.A F.n F.c F.re F.lo U 0 0 E E) 123)) Y.heap.size F ⟨[],E,E⟩ :=
  ⟨⟨U,0,0,Blk.new _ _ _,Els.nil _ _,Nat.le_refl _,fun k hk=>by cases hk⟩,HA.out.below ah,fun h0 k hk=>by
   obtain ⟨g,o,e,hg,_⟩:=HA.out.1.2.2 h0
   rw [e] at hk
   injection hk with hk
   have fO:g=k:=hk
   have h1:=aa.size
   omega⟩
 have hge:w.heap.size≤Y.heap.size:=aa.size;clear hbl;go_upto_region 5 with fail
 clear v0 v1 v2 aa;have un:=qH (fS.out (Y.alloc (.cells (rdC F.A F.n F.c F.re F.lo U 0 0 E E) 123)) (HT.out.below ah));generalize Y.alloc (.cells (rdC F.A F.n F.c F.re F.lo U 0 0 E E) 123)=ZU at ah hrx un ⊢;generalize Y.heap.size=rb at hrx hge ⊢;go_wp2_with fail
 refine un.out.mono ?_;rintro e X ⟨rfl,hX⟩;have aE:Below ZU.heap.size ZU X:=by rw [hX];exact (Below.refl _ _).alloc (Nat.le_refl _) _
 have wK:∀(j:Nat) (p:List UInt8),ws[j]? = Z p→X.cell? ⟨ZU.heap.size,j,U⟩=Z (W (bA p)):=fun j p hp=>by
  rw [hX,World.cell?_alloc_at _ _ _ _ rfl];simp [hp]
 have oX:ZU.heap.size < X.heap.size:=by rw [hX];simp
 have yA:=qH wK;have A6:=hrx.below aE;have hbw:=zAa ah aE ah.size;have hrlt:rb < X.heap.size:=A6.lt;have hzz:rb < ZU.heap.size:=hrx.lt;clear hX wK fS un hrx ah aE;go_wp2_with fail
 go_loopw [7,18] (fun v7 v18 wv=>∃(i:Nat) (V:World) (A':Option Addr) (c':Nat) (Es:List Oe) (bad lost:Bool),V=wv∧i≤n∧v18=D J i∧v7=H A' i c'∧RX V rb F ⟨[],bad,lost⟩∧OpsOwn V X.heap.size A' i c' Es∧X.grownBy V (Z rb)∧Hid (∀e∈Es,∀k,blk e.A=Z k→rb < k)∧Hid (zUE F.L ws i bad lost Es)) (fun _ v18 _=>n-(intOf v18).toNat)
 case atStart=>exact ⟨0,_,U,0,[],E,E,rfl,by omega,rfl,rfl,A6,OpsOwn.none_ _ _,zBu _ _,qH (by simp),qH ⟨rfl,.inl ⟨rfl,[],rfl,rfl,rfl⟩⟩⟩
 case round =>
  clear A6;obtain ⟨i,V,A',c',Es,bad,lost,hV,hi,rfl,rfl,hr,hO,hg,HK,HI⟩:=hrel;subst hV;by_cases hlt:i < n
  ·have j0:(0:Int)≤(i:Int):=by omega
   have j1:(i:Int) < (n:Int):=by omega
   obtain ⟨p,hp⟩:∃p,ws[i]? = Z p:=⟨ws[i]'(by rw [HN.out];exact hlt),List.getElem?_eq_getElem _⟩
   have hc:V.cell? ⟨ZU.heap.size,i,U⟩=Z (W (bA p)):=by
    rw [World.cell?_of_block (w:=X) (w':=V) (a:=⟨ZU.heap.size,i,U⟩) (hg.block _ oX (fun e=>by injection e with e;simp only at e;omega))];exact yA.out i p hp
   have Gi:=qH (zLW rb F ⟨[],bad,lost⟩ p V hr (cu.out p (List.mem_of_getElem? hp)));have HP:=qH hp;have EE:=hr.lt;clear hp hr;go_upto_region 8 with fail
   clear hc;go_wp2_with fail
   refine Gi.out.mono ?_;intro e V2 hsc;have key:∃(o:Og) (B:Option Addr) (m d:Nat) (jN eI:Bool),e=.returned (opV o B m d)∧V.grownBy V2 (Z rb)∧RX V2 rb F ⟨[],jN,eI⟩∧Hid ((OgOk o∧Stps V2 B m o.path∧m≤d∧∀k,blk B=Z k→k < V2.heap.size∧V.heap.size≤k)∧zUE F.L ws (i+1) jN eI (Es++[(⟨o,B,m,d⟩:Oe)])):=by
    rcases hsc with ⟨nn,h1,B,m,d,h2,h3,h4,h5,h6⟩ | ⟨h1,h2,⟨l,h3⟩,h4⟩
    ·have hok:=zTw FL.out (zFX h1).1;have hpn:m≤1000000:=by
      have h7:=zFX h1;have h8:=cu.out p (List.mem_of_getElem? HP.out);rw [h7.2.2] at h8;rw [h4];show (nn.path.map (pOf F.L)).length≤_;rw [List.length_map];have h9:=zMO h7.1;omega
     exact ⟨_,B,m,d,bad,_,h2,h6,h5,qH ⟨⟨hok.1,zPN h3 hpn hok.2,h3.cap,fun k hk=>⟨(h3.lt k hk).2,(h3.lt k hk).1⟩⟩,zPO HI.out HP.out h1 _ rfl⟩⟩
    ·exact ⟨zop,U,0,0,Q,l,h2,h4,h3,qH ⟨⟨zUB.1,Stps.nil _ _,Nat.le_refl _,fun k hk=>by cases hk⟩,zPP HI.out HP.out h1 _ l⟩⟩
   obtain ⟨o,B,m,d,jN,eI,rfl,bG,gA,HE⟩:=key;have fP:=hO.overR bG (by omega) HK.out;have wZ:=hO.row.lt;have lT:=qH (fun k (hk:blk A'=Z k)=>(wZ k hk).2);have hgg:=zAb hg bG;have hsz:X.heap.size≤V2.heap.size:=hgg.size;obtain ⟨kk,ff,⟨gf,gl,gfar,gpc⟩,path,vov⟩:=o;clear hsc hO bG hg Gi wZ;go_upto_region 9 with (at_builtin;refine zEw ?_)
   refine qH ?_;refine zWn (y:=⟨⟨kk,ff,⟨gf,gl,gfar,gpc⟩,path,vov⟩,B,m,d⟩) (N:=i+1) (base:=X.heap.size) (A:=A') (n:=i) (c:=c') (Es:=Es) rfl (.tmp 22) (.tmp 26) ?_ ?_ ?_ ?_ ?_ ?_ ?_ ?_
   ·rfl
   ·exact fP.row
   ·rfl
   ·rfl
   ·rfl
   ·omega
   ·exact hsz
   intro A2 c2 w9 hR9 aQ aL;have aJ:=fP.row.belowOf aQ hsz;have cv:=fP.push ⟨⟨kk,ff,⟨gf,gl,gfar,gpc⟩,path,vov⟩,B,m,d⟩ ⟨HE.out.1.1,HE.out.1.2.1,HE.out.1.2.2.1,fun k hk=>⟨(HE.out.1.2.2.2 k hk).1,fun e2=>by have h1:=lT.out k e2;have h2:=(HE.out.1.2.2.2 k hk).2;omega⟩⟩ hR9 aQ aL;have A8:=gA.over (aJ.mono (by omega));have ti:=zAc hgg aJ
   have z7:=qH (show ∀e∈Es++[(⟨⟨kk,ff,⟨gf,gl,gfar,gpc⟩,path,vov⟩,B,m,d⟩:Oe)],∀k,blk e.A=Z k→rb < k from fun e he k hk=>by
    rcases List.mem_append.1 he with h1 | h1
    ·exact HK.out e h1 k hk
    ·rw [List.mem_singleton.1 h1] at hk
     have h2:=(HE.out.1.2.2.2 k hk).2
     omega)
   have HI2:=qH HE.out.2;clear hR9 aQ aL aJ fP gA hgg hsz HE lT HI;go_wp2_with fail
   go_roundw
   case rel=>exact ⟨i+1,_,A2,c2,_,jN,eI,rfl,by omega,by go_num,rfl,A8,cv,ti,z7,HI2⟩
   case measure=>simp [intOf];omega
  ·have j1:¬(i:Int) < (n:Int):=by omega
   have hin:i=n:=by omega
   have hend:=zSe (L:=F.L) (S:=S) (i:=i) (bad:=bad) (lost:=lost) (Es:=Es) (by rw [HW.out];exact HI.out) (by rw [HW.out,HN.out];exact hin) H0.out;have gu:=qH hend;have o4:Below w.heap.size w V:=zAa hbw (zBU hg (show w.heap.size≤rb from hge) hbw.size) (Nat.le_refl _);have hzX:w.heap.size≤X.heap.size:=hbw.size;have hil:i≤1000000:=by omega
   have HO:=qH hO;have mF:=qH o4;have c4:V.cell? ⟨rb,4,U⟩=Z (G bad):=hr.bad4.1;have c5:V.cell? ⟨rb,5,U⟩=Z (G lost):=hr.lost5;clear hend hin hlt hg hr yA HI HK hO o4
   cases bad with
   | true =>
    have HE:=qH (show itE F.L S=6∧itO F.L S=[] from ⟨gu.out.1,gu.out.2.2 (by rw [gu.out.1];simp)⟩);clear c5;go_wp2_with fail
    go_ret2;exact (show zGg w _ _ _ _ by rw [HE.out.1,HE.out.2];exact ⟨U,0,0,[],rfl,rfl,by omega,OpsOwn.none_ _ _,mF.out⟩)
   | false =>
    cases lost with
    | true =>
     have HE:=qH (show itE F.L S=8∧itO F.L S=[] from ⟨gu.out.1,gu.out.2.2 (by rw [gu.out.1];simp)⟩);go_wp2_with fail
     go_ret2;exact (show zGg w _ _ _ _ by rw [HE.out.1,HE.out.2];exact ⟨U,0,0,[],rfl,rfl,by omega,OpsOwn.none_ _ _,mF.out⟩)
    | false =>
     have HE:=qH (show itE F.L S=0∧List.map (fun x:Oe=>x.o) Es=itO F.L S from ⟨gu.out.1,gu.out.2.1 gu.out.1⟩);go_wp2_with fail
     go_ret2;exact (show zGg w _ _ _ _ by rw [HE.out.1];exact ⟨A',i,c',Es,rfl,HE.out.2,hil,HO.out.mono hzX,mF.out⟩)
noncomputable def rsE (L:List Fg) (re lo:Int) (S:List UInt8):Int:=if zAw L re lo S=0 then itE L S else zAw L re lo S
noncomputable def rsO (L:List Fg) (re lo:Int) (S:List UInt8):List Og:=if zAw L re lo S=0 then itO L S else []
set_option maxHeartbeats 6400000 in
theorem zHN (F:Fm) (S:List UInt8) (w:World) (hA:Fgs w F.A F.n F.L) (hc:F.n≤F.c) (ht:Tabs w) :
  Calls Tryz.prog 31 #[frV F.A F.n F.c F.re F.lo,W (bA S)] w (zGg w (rsO F.L F.re F.lo S) (rsE F.L F.re F.lo S)):=by
 have aa:Below w.heap.size w (w.alloc (.cells #[H F.A F.n F.c,D J F.re,D J F.lo] 24)):=(Below.refl _ _).alloc (Nat.le_refl _) _;have hk0:Blk (w.alloc (.cells #[H F.A F.n F.c,D J F.re,D J F.lo] 24)) w.heap.size 24 #[H F.A F.n F.c,D J F.re,D J F.lo]:=Blk.new _ _ _;have HA:=qH hA;have HT:=qH ht;obtain ⟨ZT,hE⟩:∃ZT,zAw F.L F.re F.lo S=ZT:=⟨_,rfl⟩
 have fz:=qH (fun wx (hx:Fgs wx F.A F.n F.L)=>zDx F.A F.n F.c F.L F.re F.lo S wx hx hc);simp only [hE] at fz;have HE:=qH hE;clear hA ht hE;go_enter Tryz.func31,Tryz.ntmps31;go_wp2_with fail
 generalize w.alloc (.cells #[H F.A F.n F.c,D J F.re,D J F.lo] 24)=Y at aa hk0 ⊢;refine (fz.out Y (HA.out.below aa)).mono ?_;rintro e Y2 ⟨rfl,ab⟩;have aP:=hk0.below ab hk0.lt;have ac:=zAa aa ab aa.size;clear hk0 aa ab fz;by_cases h0:ZT=0
 ·subst h0;have hS:=(zCh HE.out).1;have HR:=qH (show rsE F.L F.re F.lo S=itE F.L S∧rsO F.L F.re F.lo S=itO F.L S by unfold rsE rsO;rw [HE.out];exact ⟨rfl,rfl⟩);have iw:=qH (zHM F S Y2 (HA.out.below ac) (by omega) (HT.out.below ac));obtain ⟨v0,v1,v2⟩:=cQ3 aP;have hz:w.heap.size≤Y2.heap.size:=ac.size;have gJ:=qH ac;clear hS aP ac;go_wp2_with fail
  refine iw.out.mono ?_;rintro e Y3 ⟨B,m,d,Es,rfl,hO,hm,hE,aj⟩;have HF:=qH (show zGg w (rsO F.L F.re F.lo S) (rsE F.L F.re F.lo S) (.returned (.tuple #[H B m d,D J (itE F.L S)])) Y3 by rw [HR.out.1,HR.out.2];exact ⟨B,m,d,Es,rfl,hO,hm,hE.mono hz,zAa gJ.out aj gJ.out.size⟩);clear hO hE aj hm HR;go_wp2_with fail
  go_ret2;exact HF.out
 ·have HF:=qH (show zGg w (rsO F.L F.re F.lo S) (rsE F.L F.re F.lo S) (.returned (.tuple #[H U 0 0,D J ZT])) Y2 by
   have h1:rsE F.L F.re F.lo S=ZT∧rsO F.L F.re F.lo S=[]:=by unfold rsE rsO;rw [HE.out,if_neg h0,if_neg h0];exact ⟨rfl,rfl⟩
   rw [h1.1,h1.2]
   exact ⟨U,0,0,[],rfl,rfl,by omega,OpsOwn.none_ _ _,ac⟩)
  have k0:(ZT != 0)=Q:=by simpa using h0
  clear aP ac h0;go_wp2_with fail
  go_ret2;exact HF.out
theorem zXj (w:World):(Instr.build 183 #[]).run Tryz.prog w=.ok (.agg #[]) w:=run_build w _ _ _ (by kernel_rfl)
theorem zXk (w:World):(Instr.build 184 #[]).run Tryz.prog w=.ok (.agg #[]) w:=run_build w _ _ _ (by kernel_rfl)
def zJZ (k:Int):Value:=if k=1 then .iface 183 (.agg #[]) else if k=2 then .iface 184 (.agg #[]) else .nilIface
theorem zKI (k:Int) (w:World):Calls Tryz.prog 89 #[D J k] w fun e w'=>e=.returned (zJZ k)∧w'=w:=by
 by_cases h1:k=1
 ·subst h1;go_enter Tryz.func89,Tryz.ntmps89;go_wp2_with fail
  go_ret;exact ⟨rfl,rfl⟩
 ·by_cases h2:k=2
  ·subst h2;go_enter Tryz.func89,Tryz.ntmps89;go_wp2_with fail
   go_ret;exact ⟨rfl,rfl⟩
  ·have HV:=qH (show zJZ k=.nilIface by unfold zJZ;rw [if_neg h1,if_neg h2]);have m1:(k==1)=E:=by simpa using h1
   have m2:(k==2)=E:=by simpa using h2
   rw [HV.out];clear h1 h2;go_enter Tryz.func89,Tryz.ntmps89;go_wp2_with fail
   go_ret;exact ⟨rfl,rfl⟩
set_option maxHeartbeats 800000 in
theorem zNT (A:Option Addr) (n c:Nat) (L:List Fg) (re lo:Int) (o:Og) (B:Option Addr) (m d:Nat) (b:Nat) (w:World) (hA:Fgs w A n L) (hk:Blk w b 24 #[H A n c,D J re,D J lo]) (hO:OpIn w o B m d) (hr:zAq n o=Q) :
  Calls Tryz.prog 141 #[opV o B m d,.pointer (Z ⟨b,0,U⟩)] w fun e w'=>e=.returned (G (!zDI L o))∧Below w.heap.size w w':=by
 have aa:Below w.heap.size w (w.alloc (.cells #[D J o.kind,D J o.f,D J o.fr.f,D J o.fr.l,G o.fr.far,D J o.fr.pc,H B m d,G o.over] 32)):=(Below.refl _ _).alloc (Nat.le_refl _) _;have hk2:=hk.alloc (.cells #[D J o.kind,D J o.f,D J o.fr.f,D J o.fr.l,G o.fr.far,D J o.fr.pc,H B m d,G o.over] 32);have y0:=(hk2.cell 0).trans rfl;have y1:=(hk2.cell 1).trans rfl;have y2:=(hk2.cell 2).trans rfl;have HC:=qH (zKq A n c L re lo o B m d _ (hA.below aa) (hO.below aa) hr);go_enter Tryz.func141,Tryz.ntmps141;go_wp2_with fail
 refine HC.out.mono ?_;rintro e w2 ⟨rfl,ab⟩;have ac:=zAa aa ab aa.size;clear y0 y1 y2;go_wp2_with fail
 go_ret;exact ⟨rfl,ac⟩
theorem zUF {L:List Fg} {o:Og} {q:Bool} (h:zDI L o=q) (A:Option Addr) (n c:Nat) (re lo:Int) (B:Option Addr) (m d:Nat) (b:Nat) (w:World) (hA:Fgs w A n L) (hk:Blk w b 24 #[H A n c,D J re,D J lo]) (hO:OpIn w o B m d) (hr:zAq n o=Q) :
  Calls Tryz.prog 141 #[opV o B m d,.pointer (Z ⟨b,0,U⟩)] w fun e w'=>e=.returned (G (!q))∧Below w.heap.size w w':=by
 subst h;exact zNT A n c L re lo o B m d b w hA hk hO hr
theorem zUG {L:List Fg} {Es:List Oe} (h:∀j,j < Es.length→zDI L (oa Es j).o=Q):(Es.all fun x=>zDI L x.o)=Q:=by
 rw [List.all_eq_true];intro x hx;obtain ⟨i,hi⟩:=List.getElem?_of_mem hx;have hlt:=(List.getElem?_eq_some_iff.1 hi).1;have h3:=zCZ hlt;rw [hi] at h3;injection h3 with h3
 rw [h3];exact h i hlt
theorem zNU {L:List Fg} {Es:List Oe} {i:Nat} (hi:i < Es.length) (h:zDI L (oa Es i).o=E):(Es.all fun x=>zDI L x.o)=E:=by
 cases e:(Es.all fun x=>zDI L x.o) with
 | false=>rfl
 | true=>rw [List.all_eq_true] at e;have:=e _ (List.mem_of_getElem? (zCZ hi));rw [h] at this;cases this
set_option maxHeartbeats 3200000 in
theorem zGh (A:Option Addr) (n c:Nat) (L:List Fg) (re lo:Int) (b:Nat) (B:Option Addr) (m d:Nat) (Es:List Oe) (w:World) (hA:Fgs w A n L) (hk:Blk w b 24 #[H A n c,D J re,D J lo]) (hP:Oprs w B m Es) (hf:∀i,i < Es.length→zAq n (oa Es i).o=Q) :
  Calls Tryz.prog 174 #[H B m d,.func (.func 141) #[] #[.pointer (Z ⟨b,0,U⟩)]] w
   fun e w'=>∃k:Int,e=.returned (D J k)∧zOz (Es.all fun x=>zDI L x.o) k∧Below w.heap.size w w':=by
 have hle:=hP.le;have aN:=qH hP.len;have HF:=qH hf;clear hf;go_enter Tryz.func174,Tryz.ntmps174;go_wp2_with fail
 go_loopw [8] (fun v wr=>∃i:Nat,i≤m∧v=D J i∧Below w.heap.size w wr∧Hid (∀j:Nat,j < i→zDI L (oa Es j).o=Q)) (fun v _=>m-(intOf v).toNat)
 case atStart=>exact ⟨0,Nat.zero_le _,rfl,Below.refl _ _,qH (fun j hj=>by omega)⟩
 case round =>
  obtain ⟨i,hi,rfl,hbr,HS⟩:=hrel;by_cases hlt:i < m
  ·obtain ⟨g,p,rfl,hg,⟨x0,x1,x2,x3,x4,x5,x6,x7⟩,hin⟩:=(hP.below hbr).at_ hlt;have j0:(0:Int)≤(i:Int):=by omega
   have j1:(i:Int) < (m:Int):=by omega
   have hil:i < Es.length:=by rw [aN.out];exact hlt
   obtain ⟨q,hq⟩:∃q,zDI L (oa Es i).o=q:=⟨_,rfl⟩
   have HQ:=qH hq;have HC:=qH (zUF hq A n c re lo _ _ _ b wr (hA.below hbr) (hk.below hbr hk.lt) hin (HF.out i hil));have oM:=qH hil;clear hq hil hin;generalize oa Es i=x at x0 x1 x2 x3 x4 x5 x6 x7 HC;obtain ⟨⟨kk,ff,⟨gf,gl,gfar,gpc⟩,path,vov⟩,B2,m2,d2⟩:=x;simp only at x0 x1 x2 x3 x4 x5 x6 x7
   cases q with
   | true =>
    have et:=qH (show ∀j:Nat,j < i+1→zDI L (oa Es j).o=Q from fun j hj=>by
     rcases Nat.decEq j i with e | e
     ·exact HS.out j (by omega)
     ·subst e;exact HQ.out)
    clear HS HQ oM;go_wp2_with fail
    refine HC.out.mono ?_;rintro e w5 ⟨rfl,ai⟩;have ao:=zAa hbr ai hbr.size;clear x0 x1 x2 x3 x4 x5 x6 x7;go_wp2_with fail
    go_roundw
    case rel=>exact ⟨i+1,by omega,by go_num,ao,et⟩
    case measure=>simp [intOf];omega
   | false =>
    have hr:=qH (show zOz (Es.all fun x=>zDI L x.o) (i:Int) by rw [zNU oM.out HQ.out];unfold zOz;rw [if_neg (by decide)];omega);clear HS HQ oM;go_wp2_with fail
    refine HC.out.mono ?_;rintro e w5 ⟨rfl,ai⟩;have ao:=zAa hbr ai hbr.size;clear x0 x1 x2 x3 x4 x5 x6 x7;go_wp2_with fail
    go_ret;exact ⟨_,rfl,hr.out,ao⟩
  ·have j1:¬(i:Int) < (m:Int):=by omega
   have hr:=qH (show zOz (Es.all fun x=>zDI L x.o) (-1) by rw [zUG (fun j hj=>HS.out j (by rw [aN.out] at hj;omega))];unfold zOz;rw [if_pos rfl]);clear HS;go_wp2_with fail
   go_ret;exact ⟨_,rfl,hr.out,hbr⟩
theorem zEx (A:Option Addr) (n c:Nat) (L:List Fg) (re lo:Int) (b:Nat) (B:Option Addr) (m d:Nat) (Es:List Oe) (w:World) (hA:Fgs w A n L) (hk:Blk w b 24 #[H A n c,D J re,D J lo]) (hP:Oprs w B m Es) (hf:∀i,i < Es.length→zAq n (oa Es i).o=Q) :
  Calls Tryz.prog 140 #[H B m d,.func (.func 141) #[] #[.pointer (Z ⟨b,0,U⟩)]] w
   fun e w'=>e=.returned (G (!(Es.all fun x=>zDI L x.o)))∧Below w.heap.size w w':=by
 have HC:=qH (zGh A n c L re lo b B m d Es w hA hk hP hf);go_enter Tryz.func140,Tryz.ntmps140;go_wp2_with fail
 refine HC.out.mono ?_;rintro e w2 ⟨k,rfl,hk2,ab⟩;have HK:=qH hk2;clear hk2;go_wp2_with fail
 go_ret;refine ⟨zDL ?_,ab⟩;have h:=HK.out;unfold zOz at h
 cases hq:(Es.all fun x=>zDI L x.o) with
 | true=>rw [hq,if_pos rfl] at h;simp [h]
 | false=>rw [hq] at h;simp at h;simp [h]
theorem zWs (w:World):(Instr.typeAssert (.iface 184 (.agg #[])) 138 184 Q).run Tryz.prog w=.ok (.tuple #[.agg #[],G Q]) w:=by kernel_rfl
theorem zXE (w:World):(Instr.typeAssert (.iface 183 (.agg #[])) 138 184 Q).run Tryz.prog w=.ok (.tuple #[.agg #[],G E]) w:=by kernel_rfl
def zTx (L:List Fg) (k:Int) (Es:List Oe):Bool:=if k=2 then Es.all (fun x=>zDI L x.o) else Q
set_option maxHeartbeats 1600000 in
set_option maxRecDepth 100000 in
theorem zFx (A:Option Addr) (n c:Nat) (L:List Fg) (re lo:Int) (k:Int) (hk:k=1∨k=2) (B:Option Addr) (m d:Nat) (Es:List Oe) (w:World) (hA:Fgs w A n L) (hP:Oprs w B m Es) (hf:∀i,i < Es.length→zAq n (oa Es i).o=Q) :
  Calls Tryz.prog 90 #[zJZ k,frV A n c re lo,H B m d] w fun e w'=>e=.returned (G (zTx L k Es))∧Below w.heap.size w w':=by
 have aa:Below w.heap.size w (w.alloc (.cells #[H A n c,D J re,D J lo] 24)):=(Below.refl _ _).alloc (Nat.le_refl _) _;have hk0:Blk (w.alloc (.cells #[H A n c,D J re,D J lo] 24)) w.heap.size 24 #[H A n c,D J re,D J lo]:=Blk.new _ _ _;have HC:=qH (zEx A n c L re lo w.heap.size B m d Es _ (hA.below aa) hk0 (hP.below aa) hf);have ty:=zWs;have tn:=zXE;rcases hk with rfl | rfl
 ·rw [show zJZ 1=.iface 183 (.agg #[]) from rfl];go_enter Tryz.func90,Tryz.ntmps90;go_wp2_with fail
  go_ret;exact ⟨rfl,aa⟩
 ·rw [show zJZ 2=.iface 184 (.agg #[]) from rfl];have HR:=qH (show zTx L 2 Es=(Es.all fun x=>zDI L x.o) from rfl);go_enter Tryz.func90,Tryz.ntmps90;go_wp2_with fail
  refine HC.out.mono ?_;rintro e w2 ⟨rfl,ab⟩;have ac:=zAa aa ab aa.size;go_wp2_with fail
  go_ret;exact ⟨zDL (by rw [HR.out]),ac⟩
def zKJ (L:List Fg) (o:Og):Prop:=zAq L.length o=Q∧o.path.length≤10000
theorem zPQ (ZS:List (Nst×Bool)):4*ZS.length≤(ZS.flatMap stT).length:=by
 induction ZS with
 | nil=>simp
 | cons x ZS ih =>
  have:4≤(stT x).length:=by simp [stT,plT];omega
  rw [List.flatMap_cons,List.length_append,List.length_cons];omega
theorem zSf {n:Nop} (h:okN n):4*n.path.length≤(zJp n).length:=by
 by_cases hp:n.path=[]
 ·simp [hp]
 ·have hk:n.kind=3:=by
   rcases h.2 with ⟨_,_,h,_⟩ | ⟨_,_,h⟩ | ⟨h,_⟩ | ⟨_,_,h⟩ | ⟨_,_,h⟩
   ·exact absurd h hp
   ·exact absurd h hp
   ·exact h
   ·exact absurd h hp
   ·exact absurd h hp
  have:=zPQ n.path;unfold zJp tlT;rw [if_neg (by omega),if_pos hk];simp only [List.length_cons,List.length_append];omega
theorem zSg {L:List Fg} {S:List UInt8} (h:zEQ L S=0) (hS:S.length≤8000):zKJ L (zHI L S):=by
 by_cases hx:∃n,okN n∧S=zDH n
 ·obtain ⟨n,h1,rfl⟩:=hx;obtain ⟨h2,h3⟩:=zGS L h1;rw [h2] at h;have hl:zAE L n=E:=by cases e:zAE L n<;>simp [e] at h ⊢
  rw [hl] at h3;rw [h3];refine ⟨(o_ok h1 hl).1,?_⟩;show (n.path.map (pOf L)).length≤_;rw [List.length_map];have h4:=zSf h1;have h5:=zGa (zDH n);rw [zEm] at h5;omega
 ·rw [(zML L fun n h1 h2=>hx ⟨n,h1,h2⟩).1] at h;omega
theorem zIF (L:List Fg):∀(ws:List (List UInt8)) (O:List Og),(∀p∈ws,p.length≤8000)→(∀o∈O,zKJ L o)→∀o∈(zBX L ws O).1,zKJ L o
 | [],O,_,hO=>hO
 | [p],O,_,hO=>by
  unfold zBX;split
  ·exact hO
  ·simp
 | p :: q :: r,O,hw,hO=>by
  unfold zBX;split
  ·rename_i h;refine zIF L (q :: r) _ (fun x hx=>hw x (List.mem_cons_of_mem _ hx)) fun o ho=>?_
   rcases List.mem_append.1 ho with h1 | h1
   ·exact hO o h1
   ·rw [List.mem_singleton.1 h1];exact zSg h (hw p (List.mem_cons_self ..))
  ·simp
theorem zHO (L:List Fg):∀(ws:List (List UInt8)) (O:List Og),(zBX L ws O).1.length≤O.length+ws.length
 | [],O=>by unfold zBX;simp
 | [p],O=>by unfold zBX;split<;>simp
 | p :: q :: r,O=>by
  unfold zBX;split
  ·have:=zHO L (q :: r) (O++[zHI L p]);simp at this ⊢;omega
  ·simp
theorem zUH {L:List Fg} {re lo:Int} {S:List UInt8}:(∀o∈(rlR L re lo S).1,zKJ L o)∧(rlR L re lo S).1.length≤8001:=by
 unfold rlR;by_cases h:zAw L re lo S=0
 ·rw [if_pos h];have hS:=(zCh h).1;refine ⟨zIF L _ [] (fun p hp=>Nat.le_trans (zCw 10 S p hp) hS) (by simp),?_⟩;have h1:=zHO L (zAN 10 S) [];have h2:(zAN 10 S).length≤S.length+1:=by
   rw [zFm];have:=List.count_le_length (a:=(10:UInt8)) (l:=S);omega
  simp at h1;omega
 ·rw [if_neg h];simp
theorem zKK:∀{ws:List (List UInt8)} {ns:List Nop},zDj ws=Z ns→ns.length=ws.length∧∀n∈ns,∃p∈ws,zAJ p=Z n
 | [],ns,h=>by
  simp [zDj] at h;subst h;simp
 | p :: ws,ns,h=>by
  rw [zDj] at h
  cases h1:zAJ p with
  | none=>rw [h1] at h;simp at h
  | some n =>
   cases h2:zDj ws with
   | none=>rw [h1,h2] at h;simp at h
   | some ms =>
    rw [h1,h2] at h;simp only [Option.some.injEq] at h;subst h;obtain ⟨h3,h4⟩:=zKK h2;refine ⟨by simp [h3],fun m hm=>?_⟩;rcases List.mem_cons.1 hm with rfl | hm
    ·exact ⟨p,List.mem_cons_self ..,h1⟩
    ·obtain ⟨q,hq,he⟩:=h4 m hm;exact ⟨q,List.mem_cons_of_mem _ hq,he⟩
theorem zUI {L:List Fg} {re lo:Int} {S:List UInt8}:(∀o∈rsO L re lo S,zKJ L o)∧(rsO L re lo S).length≤8001:=by
 unfold rsO;by_cases h:zAw L re lo S=0
 ·rw [if_pos h];have hS:=(zCh h).1;unfold itO;by_cases h0:S=[]
  ·rw [if_pos h0];simp
  ·rw [if_neg h0]
   cases hs:zDj (zAN 32 S) with
   | none=>simp
   | some ns =>
    simp only;by_cases hl:ns.any (zAE L)=Q
    ·rw [if_pos hl];simp
    ·rw [if_neg hl];obtain ⟨h1,h2⟩:=zKK hs;refine ⟨fun o ho=>?_,?_⟩
     ·obtain ⟨n,hn,rfl⟩:=List.mem_map.1 ho;obtain ⟨p,hp,hpn⟩:=h2 n hn;have h3:=zFX hpn;have h4:zAE L n=E:=by
       cases e:zAE L n with
       | false=>rfl
       | true=>exact absurd (List.any_eq_true.2 ⟨n,hn,e⟩) hl
      refine ⟨(o_ok h3.1 h4).1,?_⟩;show (n.path.map (pOf L)).length≤_;rw [List.length_map];have h5:=zMO h3.1;rw [←h3.2.2] at h5;have h6:=zCw 32 S p hp;omega
     ·rw [List.length_map,h1];have:=zCx S;omega
 ·rw [if_neg h];simp
theorem zFy {L:List Fg} {w:World} {base:Nat} {B:Option Addr} {m d:Nat} {Es:List Oe} (h:OpsOwn w base B m d Es) (hm:m≤1000000) {O:List Og} (hE:List.map (fun x:Oe=>x.o) Es=O) (hg:∀o∈O,zKJ L o) (hl:O.length≤8001) :
  Oprs w B m Es∧m≤10000∧zVU Es∧(∀i,i < Es.length→zAq L.length (oa Es i).o=Q)∧O.all (zAq L.length)=Q:=by
 have hO:=h.oprs hm;have hlen:Es.length=m:=hO.len;have h1:Es.length=O.length:=by rw [←hE,List.length_map]
 have hmem:∀e∈Es,zKJ L e.o:=fun e he=>hg _ (by rw [←hE];exact List.mem_map_of_mem he)
 refine ⟨hO,by omega,fun e he=>?_,fun i hi=>?_,?_⟩
 ·have h2:=(h.ok e he).2.1.len;have h3:=(hmem e he).2;omega
 ·exact (hmem _ (List.mem_of_getElem? (zCZ hi))).1
 ·rw [List.all_eq_true];intro o ho;exact (hg o ho).1
set_option maxHeartbeats 1600000 in
theorem zNV (F:Fm) (S:List UInt8) (w:World) (hA:Fgs w F.A F.n F.L) (hc:F.n≤F.c) (ht:Tabs w) :
  Calls Tryz.prog 238 #[.agg #[],frV F.A F.n F.c F.re F.lo,W (bA S)] w (zGg w (rlR F.L F.re F.lo S).1 (rlR F.L F.re F.lo S).2.2):=by
 have aa:Below w.heap.size w ((w.alloc (.cells #[] 183)).alloc (.cells #[H F.A F.n F.c,D J F.re,D J F.lo] 24)):=((Below.refl _ _).alloc (Nat.le_refl _) _).alloc (by simp) _;have HC:=qH (zHL F S _ (hA.below aa) hc (ht.below aa));have HB:=qH aa;clear hA ht aa;go_enter Tryz.func238,Tryz.ntmps238;go_wp2_with fail
 refine HC.out.mono ?_;rintro e Y ⟨B,m,d,Es,rfl,h1,h2,h3,h4⟩;have HF:=qH (show zGg w (rlR F.L F.re F.lo S).1 (rlR F.L F.re F.lo S).2.2 (.returned (.tuple #[H B m d,D J (rlR F.L F.re F.lo S).2.2])) Y from ⟨B,m,d,Es,rfl,h1,h2,h3.mono HB.out.size,zAa HB.out h4 HB.out.size⟩);clear h1 h2 h3 h4;go_wp2_with fail
 go_ret2;exact HF.out
set_option maxHeartbeats 1600000 in
theorem zNW (F:Fm) (S:List UInt8) (w:World) (hA:Fgs w F.A F.n F.L) (hc:F.n≤F.c) (ht:Tabs w) :
  Calls Tryz.prog 240 #[.agg #[],frV F.A F.n F.c F.re F.lo,W (bA S)] w (zGg w (rsO F.L F.re F.lo S) (rsE F.L F.re F.lo S)):=by
 have aa:Below w.heap.size w ((w.alloc (.cells #[] 184)).alloc (.cells #[H F.A F.n F.c,D J F.re,D J F.lo] 24)):=((Below.refl _ _).alloc (Nat.le_refl _) _).alloc (by simp) _;have HC:=qH (zHN F S _ (hA.below aa) hc (ht.below aa));have HB:=qH aa;clear hA ht aa;go_enter Tryz.func240,Tryz.ntmps240;go_wp2_with fail
 refine HC.out.mono ?_;rintro e Y ⟨B,m,d,Es,rfl,h1,h2,h3,h4⟩;have HF:=qH (show zGg w (rsO F.L F.re F.lo S) (rsE F.L F.re F.lo S) (.returned (.tuple #[H B m d,D J (rsE F.L F.re F.lo S)])) Y from ⟨B,m,d,Es,rfl,h1,h2,h3.mono HB.out.size,zAa HB.out h4 HB.out.size⟩);clear h1 h2 h3 h4;go_wp2_with fail
 go_ret2;exact HF.out
set_option maxHeartbeats 1600000 in
theorem zHP (F:Fm) (B:Option Addr) (m d:Nat) (Es:List Oe) (w:World) (hA:Fgs w F.A F.n F.L) (hc:F.n≤F.c) (ht:Tabs w) (hv:frB F.L F.re F.lo=Q) (hO:Oprs w B m Es) (hm:m≤10000) (hf:zVU Es) {O:List Og} (hE:List.map (fun x:Oe=>x.o) Es=O) (hr:O.all (zAq F.L.length)=Q) :
  Calls Tryz.prog 239 #[.agg #[],frV F.A F.n F.c F.re F.lo,H B m d] w fun e w'=>e=.returned (.tuple #[W (bA (zDD F.L O)),D J 0])∧Below w.heap.size w w':=by
 have aa:Below w.heap.size w ((w.alloc (.cells #[] 183)).alloc (.cells #[H F.A F.n F.c,D J F.re,D J F.lo] 24)):=((Below.refl _ _).alloc (Nat.le_refl _) _).alloc (by simp) _;have h1:=zLF F.A F.n F.c F.L F.re F.lo B m d Es _ (hA.below aa) hc (hO.below aa) hm hf (ht.below aa);have h2:zBi F.L F.re F.lo (Es.map (·.o))=0:=by unfold zBi;rw [hE,hv,hr];rfl
 rw [h2,if_pos rfl,hE] at h1;have HC:=qH h1;have HB:=qH aa;clear hA ht aa h1 h2 hO;go_enter Tryz.func239,Tryz.ntmps239;go_wp2_with fail
 refine HC.out.mono ?_;rintro e Y ⟨rfl,h4⟩;have HF:=qH (zAa HB.out h4 HB.out.size);clear h4;go_wp2_with fail
 go_ret2;exact ⟨rfl,HF.out⟩
set_option maxHeartbeats 1600000 in
theorem zHQ (F:Fm) (B:Option Addr) (m d:Nat) (Es:List Oe) (w:World) (hA:Fgs w F.A F.n F.L) (hc:F.n≤F.c) (hv:frB F.L F.re F.lo=Q) (hO:Oprs w B m Es) (hm:m≤10000) (hf:zVU Es) {O:List Og} (hE:List.map (fun x:Oe=>x.o) Es=O) (hr:O.all (zAq F.L.length)=Q) (hcn:O.all (zDI F.L)=Q) :
  Calls Tryz.prog 241 #[.agg #[],frV F.A F.n F.c F.re F.lo,H B m d] w fun e w'=>e=.returned (.tuple #[W (bA (zHo F.L O)),D J 0])∧Below w.heap.size w w':=by
 have aa:Below w.heap.size w ((w.alloc (.cells #[] 184)).alloc (.cells #[H F.A F.n F.c,D J F.re,D J F.lo] 24)):=((Below.refl _ _).alloc (Nat.le_refl _) _).alloc (by simp) _;have h1:=zLG F.A F.n F.c F.L F.re F.lo B m d Es _ (hA.below aa) hc (hO.below aa) hm hf;have h2:zBi F.L F.re F.lo O=0:=by unfold zBi;rw [hv,hr];rfl
 have h3:zRq F.L F.re F.lo O=0:=by unfold zRq;rw [h2,if_pos rfl,hcn,if_pos rfl]
 have h5:zUi F.L F.re F.lo O=zHo F.L O:=by unfold zUi;rw [h3,if_pos rfl]
 rw [hE,h3,h5] at h1;have HC:=qH h1;have HB:=qH aa;clear hA aa h1 h2 h3 h5 hO;go_enter Tryz.func241,Tryz.ntmps241;go_wp2_with fail
 refine HC.out.mono ?_;rintro e Y ⟨rfl,h4⟩;have HF:=qH (zAa HB.out h4 HB.out.size);clear h4;go_wp2_with fail
 go_ret2;exact ⟨rfl,HF.out⟩
end Go.Proofs.YtlmdfmnbcndhoaaGreatDoor
