/-
  Lemmas, part 26. Conditions: each theorem's own.
-/
import Derived.Test.YtlmdfmnbcndhoaaGreatDoorRq25
import Derived.Test.YtlmdfmnbcndhoaaGreatDoorRq22
open Go.Value renaming bool→G,int→D,slice→H,string→W
open Go.IntKind renaming i64→J
open Option renaming none→U,some→Z
open Bool renaming false→E,true→Q
namespace Go.Proofs.YtlmdfmnbcndhoaaGreatDoor
open Go.RowKit
noncomputable def rlR (L:List Fg) (re lo:Int) (S:List UInt8):List Og×Nat×Int:=if zAS L re lo S=0 then zBW L (zBx 10 S) [] else ([],0,zAS L re lo S)
def zXj:Value→Nat
 | W s=>s.size
 | _=>0
theorem zOl (L:List Fg) (S:List UInt8):zEU L S=0∨zEU L S=6∨zEU L S=8:=by
 unfold zEU;split
 ·omega
 ·split<;>omega
theorem zQh {w:World} {base:Nat} {B:Option Addr} {m d:Nat} {P:List Sp} (h:Row w base 5 B m d (P.flatMap zIo)) (hm:m≤1000000) (hok:∀x∈P,SgOk x.s):Stps w B m P:=⟨h.els (fun _=>rfl) (by omega) (by omega),hok⟩
theorem zSd (L:List Fg) (S:List UInt8):(zHX L S).path.length≤2*S.length+2:=by
 by_cases h:∃n,okN n∧S=zDG n
 ·obtain ⟨n,h1,rfl⟩:=h;rw [(zHi L h1).2]
  cases zAG L n with
  | true=>simp [o0]
  | false =>
   show (n.path.map (pOf L)).length≤_;rw [List.length_map];have h2:=zGp (zDG n);rw [zEq] at h2;have h3:n.path.length≤(zJu n).length:=by
    by_cases hp:n.path=[]
    ·simp [hp]
    ·have hk:n.kind=3:=by
      rcases h1.2 with ⟨_,_,h,_⟩ | ⟨_,_,h⟩ | ⟨h,_⟩ | ⟨_,_,h⟩ | ⟨_,_,h⟩
      ·exact absurd h hp
      ·exact absurd h hp
      ·exact h
      ·exact absurd h hp
      ·exact absurd h hp
     have:=zNb n.path;unfold zJu tlT;rw [if_neg (by omega),if_pos hk];simp only [List.length_cons,List.length_append];omega
   omega
 ·rw [(zNg L fun n h1 h2=>h ⟨n,h1,h2⟩).2];simp [o0]
set_option maxHeartbeats 12800000 in
set_option maxRecDepth 100000 in
theorem zIa (F:Fm) (S:List UInt8) (w:World) (hA:Fgs w F.A F.n F.L) (hc:F.n≤F.c) (ht:Tabs w) :
  Calls Tryz.prog 23 #[frV F.A F.n F.c F.re F.lo,W (bA S)] w (zQg w (rlR F.L F.re F.lo S).1 (rlR F.L F.re F.lo S).2.1 (rlR F.L F.re F.lo S).2.2):=by
 have oy:F.L.length≤17592186043904:=by rw [hA.len];exact hA.le
 have aa:Below w.heap.size w (w.alloc (.cells #[H F.A F.n F.c,D J F.re,D J F.lo] 24)):=(Below.refl _ _).alloc (Nat.le_refl _) _;have hk0:Blk (w.alloc (.cells #[H F.A F.n F.c,D J F.re,D J F.lo] 24)) w.heap.size 24 #[H F.A F.n F.c,D J F.re,D J F.lo]:=Blk.new _ _ _;have HA:=qH hA;have HT:=qH ht;obtain ⟨ZT,hE⟩:∃ZT,zAS F.L F.re F.lo S=ZT:=⟨_,rfl⟩
 have hcs:=zEV F.L F.re F.lo S;rw [hE] at hcs;have jv:=qH (fun wx (hx:Fgs wx F.A F.n F.L)=>zDv F.A F.n F.c F.L F.re F.lo S wx hx hc);simp only [hE] at jv;have HE:=qH hE;have HR:Hid (rlR F.L F.re F.lo S=if ZT=0 then zBW F.L (zBx 10 S) [] else ([],0,ZT)):=qH (by unfold rlR;rw [hE]);obtain ⟨⟨TO,TN,TE⟩,tE⟩:∃x,rlR F.L F.re F.lo S=x:=⟨_,rfl⟩
 rw [tE] at HR ⊢;simp only;have eM:=qH (fun (O:List Og) (n:Nat) (er:Int) (hq:(O,n,er)=(TO,TN,TE)) (e:Ending) (wx:World) (h:zQg w O n er e wx)=>(show zQg w TO TN TE e wx by injection hq with h1 h2;injection h2 with h2 h3;subst h1;subst h2;subst h3;exact h));have FL:=qH oy;clear hA ht hE tE oy;go_enter Tryz.func23,Tryz.ntmps23;go_wp2_with fail
 generalize w.alloc (.cells #[H F.A F.n F.c,D J F.re,D J F.lo] 24)=Y at aa hk0 ⊢;refine (jv.out Y (HA.out.below aa)).mono ?_;rintro e Y2 ⟨rfl,ab⟩;have aC:=hk0.below ab hk0.lt;have ac:=zAa aa ab aa.size;clear hk0 aa ab jv;by_cases h0:ZT=0
 ·subst h0;have hS:=(zCe HE.out).1;have fz:=qH (HR.out.trans (if_pos rfl));clear hcs HR;go_wp2_with fail
  go_loopw [1,8,9] (fun v1 v8 v9 wv=>∃(X:World) (R:List UInt8) (A':Option Addr) (i c':Nat) (Es:List Oe),X=wv∧v1=W (bA R)∧v8=H A' i c'∧v9=D J i∧R.length+i≤8000∧OpsOwn X Y2.heap.size A' i c' Es∧Below Y2.heap.size Y2 X∧Hid (Es.length=i∧(TO,TN,TE)=zBW F.L (zBx 10 R) (List.map (fun x:Oe=>x.o) Es))) (fun v1 _ _ _=>zXj v1)
  case atStart=>exact ⟨_,S,U,0,0,[],rfl,rfl,rfl,rfl,by omega,OpsOwn.none_ _ _,Below.refl _ _,qH ⟨rfl,fz.out⟩⟩
  case round =>
   obtain ⟨X,R,A',i,c',Es,hX,rfl,rfl,rfl,hle,hO,hb,HI⟩:=hrel;subst hX;have hbw:=zAa ac hb ac.size;have hz:w.heap.size≤Y2.heap.size:=ac.size;by_cases hR:R=[]
   ·have n0:((bA R).toList==[])=Q:=by rw [zAo,hR];rfl
    have HF:=qH (eM.out (List.map (fun x:Oe=>x.o) Es) i 0 (by rw [HI.out.2,hR,zQf,List.length_map,HI.out.1]) _ X ⟨A',i,c',Es,rfl,rfl,by omega,hO.mono hz,hbw⟩);clear hR hO hb hbw HI aC;go_wp2_with fail
    go_ret3
    exact HF.out
   have n0:((bA R).toList==[])=E:=by rw [zAo];simpa using hR
   have dY:=zSc R (by omega) X (HT.out.below hbw);by_cases h10:(10:UInt8)∈R
   ·obtain ⟨h,r,tG,hh⟩:=zJJ h10;rw [show Lib.cut R [10]=(h,r,Q) from by rw [tG];exact zPv hh] at dY;have dY:=qH dY;have hlr:r.length+(i+1)≤8000:=by rw [tG] at hle;simp at hle;omega
    have hlh:h.length≤20000:=by rw [tG] at hle;simp at hle;omega
    have hms:zXj (W (bA r)) < zXj (W (bA R)):=by simp only [zXj,zAZ,tG];simp;omega
    have HL:=qH (show (TO,TN,TE)=if zEU F.L h=0 then zBW F.L (zBx 10 r) (List.map (fun x:Oe=>x.o) Es++[zHX F.L h]) else ([],i,zEU F.L h) by rw [HI.out.2,tG,zOk F.L hh,List.length_map,HI.out.1]);have fk:=qH HI.out.1;have Cn:=qH hms;clear hR h10 tG hh HI hms;go_wp2_with fail
    refine dY.out.mono ?_;rintro e X2 ⟨rfl,ah⟩;have ai:=zAa hbw ah hbw.size;have sk:=zAa hb ah hb.size;have eG:=hO.below ah;have hfx:=(aC.below hb aC.lt).below ah (aC.below hb aC.lt).lt;have ic:=zHY F h X2 (HA.out.below ai) hlh (HT.out.below ai);have AG:=zUz FL.out h;have Ak:=zOl F.L h;obtain ⟨ov,eov⟩:∃x,zHX F.L h=x:=⟨_,rfl⟩
    obtain ⟨er,eer⟩:∃x,zEU F.L h=x:=⟨_,rfl⟩
    rw [eov,eer] at ic HL;rw [eov] at AG;rw [eer] at Ak;have ic:=qH ic;have nf:=qH AG;have iw:Hid (ov.path.length≤1000000):=qH (by rw [←eov];have:=zSd F.L h;omega);obtain ⟨kk,ff,⟨gf,gl,gfar,gpc⟩,path,vov⟩:=ov;obtain ⟨w0,w1,w2⟩:=cQ3 hfx;clear hO hb hbw ah dY eov eer AG hfx hlh;go_wp2_with fail
    refine ic.out.mono ?_;rintro e X3 ⟨B2,m2,d2,rfl,hrow,da,ao⟩;have jt:=qH da;have be:=zAa ai ao ai.size;have sf:=zAa sk ao sk.size;have mR:=eG.below ao;have hbl:=(Below.refl X3.heap.size X3).alloc (Nat.le_refl _) (.cells #[D J kk,D J ff,D J gf,D J gl,G gfar,D J gpc,H B2 m2 d2,G vov] 32);have hop:Blk (X3.alloc (.cells #[D J kk,D J ff,D J gf,D J gl,G gfar,D J gpc,H B2 m2 d2,G vov] 32)) X3.heap.size 32 #[D J kk,D J ff,D J gf,D J gl,G gfar,D J gpc,H B2 m2 d2,G vov]:=Blk.new _ _ _;have oo:=mR.below hbl;have hrw:=hrow.below hbl;have bc:=zAa be hbl be.size;have mI:=zAa sf hbl sf.size
    have sW:=qH (fun k (hk:blk B2=Z k)=>(show k < (X3.alloc (.cells #[D J kk,D J ff,D J gf,D J gl,G gfar,D J gpc,H B2 m2 d2,G vov] 32)).heap.size∧blk A'≠Z k by
     have h1:=hrow.lt k hk
     refine ⟨by simp;omega,fun e2=>?_⟩
     have h2:=(eG.row.lt k e2).2
     omega))
    have tS:=qH (show Y2.heap.size≤(X3.alloc (.cells #[D J kk,D J ff,D J gf,D J gl,G gfar,D J gpc,H B2 m2 d2,G vov] 32)).heap.size from mI.size);clear da eG ai sk ao be sf mR hbl hrow w0 w1 w2 ic;go_upto_region 12 with fail
    generalize X3.alloc (.cells #[D J kk,D J ff,D J gf,D J gl,G gfar,D J gpc,H B2 m2 d2,G vov] 32)=X4 at hop oo hrw bc mI sW tS ⊢;generalize X3.heap.size=a13 at hop ⊢;by_cases her:er=0
    ·subst her;have wT:=qH (HL.out.trans (if_pos rfl));clear Ak HL n0;obtain ⟨f0,f1,f2,f3,f4,f5,f6,f7⟩:=cQ8 hop;go_upto_region 15 with (at_builtin;refine zGT ?_)
     refine qH ?_;refine zWr (y:=⟨⟨kk,ff,⟨gf,gl,gfar,gpc⟩,path,vov⟩,B2,m2,d2⟩) (N:=i+1) (base:=Y2.heap.size) (A:=A') (n:=i) (c:=c') (Es:=Es) rfl (.tmp 44) (.tmp 46) ?_ ?_ ?_ ?_ ?_ ?_ ?_ ?_
     ·rfl
     ·exact oo.row
     ·rfl
     ·rfl
     ·rfl
     ·omega
     ·exact tS.out
     intro A2 c2 w9 hR9 bx bg;have aP:=oo.row.belowOf bx tS.out;have zS:m2≤1000000:=by rw [jt.out];exact iw.out
     have eZ:=oo.push ⟨⟨kk,ff,⟨gf,gl,gfar,gpc⟩,path,vov⟩,B2,m2,d2⟩ ⟨nf.out.1,zQh hrw zS nf.out.2,hrw.cap,sW.out⟩ hR9 bx bg;have hbz:=mI.trans aP;have HF:=qH (show (Es++[(⟨⟨kk,ff,⟨gf,gl,gfar,gpc⟩,path,vov⟩,B2,m2,d2⟩:Oe)]).length=i+1∧(TO,TN,TE)=zBW F.L (zBx 10 r) (List.map (fun x:Oe=>x.o) (Es++[(⟨⟨kk,ff,⟨gf,gl,gfar,gpc⟩,path,vov⟩,B2,m2,d2⟩:Oe)])) from ⟨by simp [fk.out],by rw [wT.out,List.map_append];rfl⟩);clear hop oo hrw bc mI bx bg hR9 aP f0 f1 f2 f3 f4 f5 f6 f7 sW tS;go_wp2_with fail
     go_roundw
     case rel=>exact ⟨_,r,A2,i+1,c2,_,rfl,rfl,rfl,by go_num,hlr,eZ,hbz,HF⟩
     case measure=>exact Cn.out
    ·have k0:(er != 0)=Q:=by simpa using her
     have HF:=qH (eM.out [] i er (by rw [HL.out,if_neg her]) _ X4 ⟨U,0,0,[],rfl,rfl,by omega,OpsOwn.none_ _ _,bc⟩);clear hop oo hrw bc mI Ak her;go_wp2_with fail
     go_ret3
     exact HF.out
   ·rw [zPw h10] at dY;have dY:=qH dY;have HL:=qH (show ([],i,(6:Int))=(TO,TN,TE) by rw [HI.out.2,zOj F.L h10 hR,List.length_map,HI.out.1]);clear hR h10 HI hO hb aC;go_wp2_with fail
    refine dY.out.mono ?_;rintro e X2 ⟨rfl,ah⟩;have HF:=qH (eM.out [] i 6 HL.out _ X2 ⟨U,0,0,[],rfl,rfl,by omega,OpsOwn.none_ _ _,zAa hbw ah hbw.size⟩);clear ah hbw;go_wp2_with fail
    go_ret3
    exact HF.out
 ·have HF:=qH (eM.out [] 0 ZT (by rw [HR.out,if_neg h0]) _ Y2 ⟨U,0,0,[],rfl,rfl,by omega,OpsOwn.none_ _ _,ac⟩);have k0:(ZT != 0)=Q:=by simpa using h0
  clear hcs h0 ac aC;go_wp2_with fail
  go_ret3
  exact HF.out
noncomputable def zDi:List (List UInt8)→Option (List Nop)
 | []=>Z []
 | S :: T=>match zAJ S,zDi T with
  | some n,Z ns=>Z (n :: ns)
  | _,_=>U
theorem zGq:∀(T:List (List UInt8)) (S:List UInt8),zDi (T++[S])=match zDi T,zAJ S with
  | some ns,Z n=>Z (ns++[n])
  | _,_=>U
 | [],S=>by
  cases h:zAJ S<;>simp [zDi,h]
 | X :: T,S=>by
  rw [List.cons_append,zDi,zGq T S,zDi]
  cases zAJ X<;>cases zDi T<;>cases zAJ S<;>rfl
noncomputable def itE (L:List Fg) (S:List UInt8):Int:=if S=[] then 0 else match zDi (zBx 32 S) with | none=>6 | some ns=>if ns.any (zAG L) then 8 else 0
noncomputable def itO (L:List Fg) (S:List UInt8):List Og:=if S=[] then [] else match zDi (zBx 32 S) with | none=>[] | some ns=>if ns.any (zAG L) then [] else ns.map (oOf L)
theorem zNh {n:Nop} (h:okN n):n.path.length≤(zHT n).length:=by
 by_cases hp:n.path=[]
 ·simp [hp]
 ·have hk:n.kind=3∧∃x,n.fr=Z x:=by
   rcases h.2 with ⟨_,_,h,_⟩ | ⟨_,_,h⟩ | ⟨h,⟨x,hx,_⟩,_⟩ | ⟨_,_,h⟩ | ⟨_,_,h⟩
   ·exact absurd h hp
   ·exact absurd h hp
   ·exact ⟨h,x,hx⟩
   ·exact absurd h hp
   ·exact absurd h hp
  obtain ⟨hk,x,hx⟩:=hk;have:=zQb (P:=n.path) x;unfold zHT zTr frI;rw [if_neg (by omega),if_pos hk,hx];unfold zJE at this;simp only [List.length_append] at this ⊢;omega
def zGr (w0:World) (O:List Og) (er:Int) (e:Ending) (w':World):Prop :=
 ∃B m d Es,e=.returned (.tuple #[H B m d,D J er])∧List.map (fun x:Oe=>x.o) Es=O∧m≤1000000∧OpsOwn w' w0.heap.size B m d Es∧Below w0.heap.size w0 w'
theorem OpsOwn.overR {w w':World} {base rb:Nat} {A:Option Addr} {n c:Nat} {Es:List Oe} (h:OpsOwn w base A n c Es) (hg:w.grownBy w' (Z rb)) (hb:rb < base) (hr:∀e∈Es,∀k,blk e.A=Z k→rb < k):OpsOwn w' base A n c Es :=
 ⟨h.row.overO hg hb,fun e he=>by
  obtain ⟨h1,h2,h3,h4⟩:=h.ok e he
  exact ⟨h1,h2.kept hg (fun k hk e2=>by injection e2 with e2;have:=hr e he k hk;omega),h3,fun k hk=>⟨Nat.lt_of_lt_of_le (h4 k hk).1 hg.size,(h4 k hk).2⟩⟩⟩
theorem zWs (A:Option Addr) (n c:Nat) (re lo:Int) (w:World):(Instr.build 123 #[(0,.agg #[H A n c,D J re,D J lo])]).run Tryz.prog w=.ok (.agg (rdC A n c re lo U 0 0 E E)) w:=run_build w _ _ _ (by kernel_rfl)
def zUA (L:List Fg) (ws:List (List UInt8)) (i:Nat) (bad lost:Bool) (Es:List Oe):Prop :=
 Es.length=i∧((bad=E∧∃ns,zDi (ws.take i)=Z ns∧lost=ns.any (zAG L)∧List.map (fun x:Oe=>x.o) Es=ns.map (oOf L))∨(bad=Q∧zDi (ws.take i)=U))
theorem zQi {L:List Fg} {ws:List (List UInt8)} {i:Nat} {bad lost:Bool} {Es:List Oe} (h:zUA L ws i bad lost Es) {S:List UInt8} (hS:ws[i]? = Z S) {n:Nop} (hn:zAJ S=Z n) (e:Oe) (he:e.o=oOf L n):zUA L ws (i+1) bad (lost||zAG L n) (Es++[e]):=by
 obtain ⟨h1,h2⟩:=h;refine ⟨by simp [h1],?_⟩;rw [List.take_add_one,hS];simp only [Option.toList_some];rw [zGq,hn];rcases h2 with ⟨rfl,ns,h3,h4,h5⟩ | ⟨rfl,h3⟩
 ·refine .inl ⟨rfl,ns++[n],by rw [h3],by rw [h4];simp,by rw [List.map_append,h5];simp [he]⟩
 ·exact .inr ⟨rfl,by rw [h3]⟩
theorem zQj {L:List Fg} {ws:List (List UInt8)} {i:Nat} {bad lost:Bool} {Es:List Oe} (h:zUA L ws i bad lost Es) {S:List UInt8} (hS:ws[i]? = Z S) (hn:zAJ S=U) (e:Oe) (l:Bool):zUA L ws (i+1) Q l (Es++[e]):=by
 obtain ⟨h1,h2⟩:=h;refine ⟨by simp [h1],.inr ⟨rfl,?_⟩⟩;rw [List.take_add_one,hS];simp only [Option.toList_some];rw [zGq,hn]
 cases zDi (ws.take i)<;>rfl
theorem zSe {L:List Fg} {S:List UInt8} {i:Nat} {bad lost:Bool} {Es:List Oe} (h:zUA L (zBx 32 S) i bad lost Es) (hi:i=(zBx 32 S).length) (h0:S≠[]) :
  itE L S=(if bad then 6 else if lost then 8 else 0)∧(itE L S=0→List.map (fun x:Oe=>x.o) Es=itO L S)∧(itE L S≠0→itO L S=[]):=by
 obtain ⟨_,h2⟩:=h;rw [hi,List.take_length] at h2;unfold itE itO;rw [if_neg h0,if_neg h0];rcases h2 with ⟨rfl,ns,h3,h4,h5⟩ | ⟨rfl,h3⟩
 ·simp only [h3,←h4]
  cases lost with
  | true=>simp
  | false=>simpa using h5
 ·simp only [h3];simp
set_option maxHeartbeats 12800000 in
set_option maxRecDepth 100000 in
theorem zIb (F:Fm) (S:List UInt8) (w:World) (hA:Fgs w F.A F.n F.L) (hS:S.length≤20000) (ht:Tabs w) :
  Calls Tryz.prog 72 #[frV F.A F.n F.c F.re F.lo,W (bA S)] w (zGr w (itO F.L S) (itE F.L S)):=by
 have oy:F.L.length≤17592186043904:=by rw [hA.len];exact hA.le
 have aa:Below w.heap.size w (w.alloc (.cells #[H F.A F.n F.c,D J F.re,D J F.lo] 24)):=(Below.refl _ _).alloc (Nat.le_refl _) _;have hk0:Blk (w.alloc (.cells #[H F.A F.n F.c,D J F.re,D J F.lo] 24)) w.heap.size 24 #[H F.A F.n F.c,D J F.re,D J F.lo]:=Blk.new _ _ _;have n0:=zAL S [];by_cases h0:S=[]
 ·have n1:(S==([]:List UInt8))=Q:=by rw [h0];rfl
  rw [n1] at n0
  have HF:=qH (show zGr w (itO F.L S) (itE F.L S) (.returned (.tuple #[H U 0 0,D J 0])) (w.alloc (.cells #[H F.A F.n F.c,D J F.re,D J F.lo] 24)) by
   have h1:itE F.L S=0∧itO F.L S=[]:=by unfold itE itO;rw [if_pos h0,if_pos h0];exact ⟨rfl,rfl⟩
   rw [h1.1,h1.2]
   exact ⟨U,0,0,[],rfl,rfl,by omega,OpsOwn.none_ _ _,aa⟩)
  clear h0 n1 aa hk0 hA ht oy hS;go_enter Tryz.func72,Tryz.ntmps72;go_wp2_with fail
  go_ret2;exact HF.out
 have n1:(S==([]:List UInt8))=E:=by simpa using h0
 rw [n1] at n0;obtain ⟨ws,hws⟩:∃ZR,zBx 32 S=ZR:=⟨_,rfl⟩
 obtain ⟨n,hn⟩:∃n,ws.length=n:=⟨_,rfl⟩
 have hnl:n≤20001:=by rw [←hn,←hws];have:=zCv S;omega
 have hpl:∀p∈ws,p.length≤100000:=fun p hp=>by rw [←hws] at hp;have:=zCu 32 S p hp;omega
 have bY:=qH hpl;have HN:=qH hn;have HW:=qH hws;have H0:=qH h0;have FL:=qH oy;have hG:=qH (fun wx (hx:Tabs wx)=>zHW S (by omega) wx hx);rw [hws,hn] at hG;obtain ⟨v0,v1,v2⟩:=cQ3 hk0;have HA:=qH hA;have HT:=qH ht;clear h0 n1 hws hn hpl oy hS hA ht hk0;go_enter Tryz.func72,Tryz.ntmps72;go_upto_region 3 with fail
 generalize w.alloc (.cells #[H F.A F.n F.c,D J F.re,D J F.lo] 24)=Y at aa v0 v1 v2 ⊢;have hbl:=(Below.refl Y.heap.size Y).alloc (Nat.le_refl _) (.cells (rdC F.A F.n F.c F.re F.lo U 0 0 E E) 123);have aj:=zAa aa hbl aa.size
 have hrx:RX (Y.alloc (.cells (rdC F.A F.n F.c F.re F.lo U 0 0 E E) 123)) Y.heap.size F ⟨[],E,E⟩ :=
  ⟨⟨U,0,0,Blk.new _ _ _,Els.nil _ _,Nat.le_refl _,fun k hk=>by cases hk⟩,HA.out.below aj,fun h0 k hk=>by
   obtain ⟨g,o,e,hg,_⟩:=HA.out.1.2.2 h0
   rw [e] at hk
   injection hk with hk
   have eD:g=k:=hk
   have h1:=aa.size
   omega⟩
 have hge:w.heap.size≤Y.heap.size:=aa.size;clear hbl;go_upto_region 5 with fail
 clear v0 v1 v2 aa;have sS:=qH (hG.out (Y.alloc (.cells (rdC F.A F.n F.c F.re F.lo U 0 0 E E) 123)) (HT.out.below aj));generalize Y.alloc (.cells (rdC F.A F.n F.c F.re F.lo U 0 0 E E) 123)=ZU at aj hrx sS ⊢;generalize Y.heap.size=rb at hrx hge ⊢;go_wp2_with fail
 refine sS.out.mono ?_;rintro e X ⟨rfl,hX⟩;have aJ:Below ZU.heap.size ZU X:=by rw [hX];exact (Below.refl _ _).alloc (Nat.le_refl _) _
 have vv:∀(j:Nat) (p:List UInt8),ws[j]? = Z p→X.cell? ⟨ZU.heap.size,j,U⟩=Z (W (bA p)):=fun j p hp=>by
  rw [hX,World.cell?_alloc_at _ _ _ _ rfl];simp [hp]
 have nV:ZU.heap.size < X.heap.size:=by rw [hX];simp
 have wW:=qH vv;have zF:=hrx.below aJ;have hbw:=zAa aj aJ aj.size;have hrlt:rb < X.heap.size:=zF.lt;have hzz:rb < ZU.heap.size:=hrx.lt;clear hX vv hG sS hrx aj aJ;go_wp2_with fail
 go_loopw [7,18] (fun v7 v18 wv=>∃(i:Nat) (V:World) (A':Option Addr) (c':Nat) (Es:List Oe) (bad lost:Bool),V=wv∧i≤n∧v18=D J i∧v7=H A' i c'∧RX V rb F ⟨[],bad,lost⟩∧OpsOwn V X.heap.size A' i c' Es∧X.grownBy V (Z rb)∧Hid (∀e∈Es,∀k,blk e.A=Z k→rb < k)∧Hid (zUA F.L ws i bad lost Es)) (fun _ v18 _=>n-(intOf v18).toNat)
 case atStart=>exact ⟨0,_,U,0,[],E,E,rfl,by omega,rfl,rfl,zF,OpsOwn.none_ _ _,zBw _ _,qH (by simp),qH ⟨rfl,.inl ⟨rfl,[],rfl,rfl,rfl⟩⟩⟩
 case round =>
  clear zF;obtain ⟨i,V,A',c',Es,bad,lost,hV,hi,rfl,rfl,hr,hO,hg,HK,HI⟩:=hrel;subst hV;by_cases hlt:i < n
  ·have j0:(0:Int)≤(i:Int):=by omega
   have j1:(i:Int) < (n:Int):=by omega
   obtain ⟨p,hp⟩:∃p,ws[i]? = Z p:=⟨ws[i]'(by rw [HN.out];exact hlt),List.getElem?_eq_getElem _⟩
   have hc:V.cell? ⟨ZU.heap.size,i,U⟩=Z (W (bA p)):=by
    rw [World.cell?_of_block (w:=X) (w':=V) (a:=⟨ZU.heap.size,i,U⟩) (hg.block _ nV (fun e=>by injection e with e;simp only at e;omega))];exact wW.out i p hp
   have EY:=qH (zMa rb F ⟨[],bad,lost⟩ p V hr (bY.out p (List.mem_of_getElem? hp)));have HP:=qH hp;have Dt:=hr.lt;clear hp hr;go_upto_region 8 with fail
   clear hc;go_wp2_with fail
   refine EY.out.mono ?_;intro e V2 hsc;have key:∃(o:Og) (B:Option Addr) (m d:Nat) (jo d9:Bool),e=.returned (opV o B m d)∧V.grownBy V2 (Z rb)∧RX V2 rb F ⟨[],jo,d9⟩∧Hid ((OgOk o∧Stps V2 B m o.path∧m≤d∧∀k,blk B=Z k→k < V2.heap.size∧V.heap.size≤k)∧zUA F.L ws (i+1) jo d9 (Es++[(⟨o,B,m,d⟩:Oe)])):=by
    rcases hsc with ⟨nn,h1,B,m,d,h2,h3,h4,h5,h6⟩ | ⟨h1,h2,⟨l,h3⟩,h4⟩
    ·have hok:=zTs FL.out (zGk h1).1;have hpn:m≤1000000:=by
      have h7:=zGk h1;have h8:=bY.out p (List.mem_of_getElem? HP.out);rw [h7.2.2] at h8;rw [h4];show (nn.path.map (pOf F.L)).length≤_;rw [List.length_map];have h9:=zNh h7.1;omega
     exact ⟨_,B,m,d,bad,_,h2,h6,h5,qH ⟨⟨hok.1,zQh h3 hpn hok.2,h3.cap,fun k hk=>⟨(h3.lt k hk).2,(h3.lt k hk).1⟩⟩,zQi HI.out HP.out h1 _ rfl⟩⟩
    ·exact ⟨zop,U,0,0,Q,l,h2,h4,h3,qH ⟨⟨zUy.1,Stps.nil _ _,Nat.le_refl _,fun k hk=>by cases hk⟩,zQj HI.out HP.out h1 _ l⟩⟩
   obtain ⟨o,B,m,d,jo,d9,rfl,bn,ft,HE⟩:=key;have eG:=hO.overR bn (by omega) HK.out;have vJ:=hO.row.lt;have lc:=qH (fun k (hk:blk A'=Z k)=>(vJ k hk).2);have hgg:=zAb hg bn;have hsz:X.heap.size≤V2.heap.size:=hgg.size;obtain ⟨kk,ff,⟨gf,gl,gfar,gpc⟩,path,vov⟩:=o;clear hsc hO bn hg EY vJ;go_upto_region 9 with (at_builtin;refine zGT ?_)
   refine qH ?_;refine zWr (y:=⟨⟨kk,ff,⟨gf,gl,gfar,gpc⟩,path,vov⟩,B,m,d⟩) (N:=i+1) (base:=X.heap.size) (A:=A') (n:=i) (c:=c') (Es:=Es) rfl (.tmp 22) (.tmp 26) ?_ ?_ ?_ ?_ ?_ ?_ ?_ ?_
   ·rfl
   ·exact eG.row
   ·rfl
   ·rfl
   ·rfl
   ·omega
   ·exact hsz
   intro A2 c2 w9 hR9 bx bg;have aP:=eG.row.belowOf bx hsz;have eZ:=eG.push ⟨⟨kk,ff,⟨gf,gl,gfar,gpc⟩,path,vov⟩,B,m,d⟩ ⟨HE.out.1.1,HE.out.1.2.1,HE.out.1.2.2.1,fun k hk=>⟨(HE.out.1.2.2.2 k hk).1,fun e2=>by have h1:=lc.out k e2;have h2:=(HE.out.1.2.2.2 k hk).2;omega⟩⟩ hR9 bx bg;have zH:=ft.over (aP.mono (by omega));have rS:=zAd hgg aP
   have yA:=qH (show ∀e∈Es++[(⟨⟨kk,ff,⟨gf,gl,gfar,gpc⟩,path,vov⟩,B,m,d⟩:Oe)],∀k,blk e.A=Z k→rb < k from fun e he k hk=>by
    rcases List.mem_append.1 he with h1 | h1
    ·exact HK.out e h1 k hk
    ·rw [List.mem_singleton.1 h1] at hk
     have h2:=(HE.out.1.2.2.2 k hk).2
     omega)
   have HI2:=qH HE.out.2;clear hR9 bx bg aP eG ft hgg hsz HE lc HI;go_wp2_with fail
   go_roundw
   case rel=>exact ⟨i+1,_,A2,c2,_,jo,d9,rfl,by omega,by go_num,rfl,zH,eZ,rS,yA,HI2⟩
   case measure=>simp [intOf];omega
  ·have j1:¬(i:Int) < (n:Int):=by omega
   have hin:i=n:=by omega
   have hend:=zSe (L:=F.L) (S:=S) (i:=i) (bad:=bad) (lost:=lost) (Es:=Es) (by rw [HW.out];exact HI.out) (by rw [HW.out,HN.out];exact hin) H0.out;have fT:=qH hend;have n8:Below w.heap.size w V:=zAa hbw (zBT hg (show w.heap.size≤rb from hge) hbw.size) (Nat.le_refl _);have hzX:w.heap.size≤X.heap.size:=hbw.size;have hil:i≤1000000:=by omega
   have HO:=qH hO;have iy:=qH n8;have c4:V.cell? ⟨rb,4,U⟩=Z (G bad):=hr.bad4.1;have c5:V.cell? ⟨rb,5,U⟩=Z (G lost):=hr.lost5;clear hend hin hlt hg hr wW HI HK hO n8
   cases bad with
   | true =>
    have HE:=qH (show itE F.L S=6∧itO F.L S=[] from ⟨fT.out.1,fT.out.2.2 (by rw [fT.out.1];simp)⟩);clear c5;go_wp2_with fail
    go_ret2;exact (show zGr w _ _ _ _ by rw [HE.out.1,HE.out.2];exact ⟨U,0,0,[],rfl,rfl,by omega,OpsOwn.none_ _ _,iy.out⟩)
   | false =>
    cases lost with
    | true =>
     have HE:=qH (show itE F.L S=8∧itO F.L S=[] from ⟨fT.out.1,fT.out.2.2 (by rw [fT.out.1];simp)⟩);go_wp2_with fail
     go_ret2;exact (show zGr w _ _ _ _ by rw [HE.out.1,HE.out.2];exact ⟨U,0,0,[],rfl,rfl,by omega,OpsOwn.none_ _ _,iy.out⟩)
    | false =>
     have HE:=qH (show itE F.L S=0∧List.map (fun x:Oe=>x.o) Es=itO F.L S from ⟨fT.out.1,fT.out.2.1 fT.out.1⟩);go_wp2_with fail
     go_ret2;exact (show zGr w _ _ _ _ by rw [HE.out.1];exact ⟨A',i,c',Es,rfl,HE.out.2,hil,HO.out.mono hzX,iy.out⟩)
noncomputable def rsE (L:List Fg) (re lo:Int) (S:List UInt8):Int:=if zAS L re lo S=0 then itE L S else zAS L re lo S
noncomputable def rsO (L:List Fg) (re lo:Int) (S:List UInt8):List Og:=if zAS L re lo S=0 then itO L S else []
set_option maxHeartbeats 6400000 in
theorem zIc (F:Fm) (S:List UInt8) (w:World) (hA:Fgs w F.A F.n F.L) (hc:F.n≤F.c) (ht:Tabs w) :
  Calls Tryz.prog 31 #[frV F.A F.n F.c F.re F.lo,W (bA S)] w (zGr w (rsO F.L F.re F.lo S) (rsE F.L F.re F.lo S)):=by
 have aa:Below w.heap.size w (w.alloc (.cells #[H F.A F.n F.c,D J F.re,D J F.lo] 24)):=(Below.refl _ _).alloc (Nat.le_refl _) _;have hk0:Blk (w.alloc (.cells #[H F.A F.n F.c,D J F.re,D J F.lo] 24)) w.heap.size 24 #[H F.A F.n F.c,D J F.re,D J F.lo]:=Blk.new _ _ _;have HA:=qH hA;have HT:=qH ht;obtain ⟨ZT,hE⟩:∃ZT,zAS F.L F.re F.lo S=ZT:=⟨_,rfl⟩
 have jv:=qH (fun wx (hx:Fgs wx F.A F.n F.L)=>zDv F.A F.n F.c F.L F.re F.lo S wx hx hc);simp only [hE] at jv;have HE:=qH hE;clear hA ht hE;go_enter Tryz.func31,Tryz.ntmps31;go_wp2_with fail
 generalize w.alloc (.cells #[H F.A F.n F.c,D J F.re,D J F.lo] 24)=Y at aa hk0 ⊢;refine (jv.out Y (HA.out.below aa)).mono ?_;rintro e Y2 ⟨rfl,ab⟩;have aC:=hk0.below ab hk0.lt;have ac:=zAa aa ab aa.size;clear hk0 aa ab jv;by_cases h0:ZT=0
 ·subst h0;have hS:=(zCe HE.out).1;have HR:=qH (show rsE F.L F.re F.lo S=itE F.L S∧rsO F.L F.re F.lo S=itO F.L S by unfold rsE rsO;rw [HE.out];exact ⟨rfl,rfl⟩);have ic:=qH (zIb F S Y2 (HA.out.below ac) (by omega) (HT.out.below ac));obtain ⟨v0,v1,v2⟩:=cQ3 aC;have hz:w.heap.size≤Y2.heap.size:=ac.size;have kZ:=qH ac;clear hS aC ac;go_wp2_with fail
  refine ic.out.mono ?_;rintro e Y3 ⟨B,m,d,Es,rfl,hO,hm,hE,ah⟩;have HF:=qH (show zGr w (rsO F.L F.re F.lo S) (rsE F.L F.re F.lo S) (.returned (.tuple #[H B m d,D J (itE F.L S)])) Y3 by rw [HR.out.1,HR.out.2];exact ⟨B,m,d,Es,rfl,hO,hm,hE.mono hz,zAa kZ.out ah kZ.out.size⟩);clear hO hE ah hm HR;go_wp2_with fail
  go_ret2;exact HF.out
 ·have HF:=qH (show zGr w (rsO F.L F.re F.lo S) (rsE F.L F.re F.lo S) (.returned (.tuple #[H U 0 0,D J ZT])) Y2 by
   have h1:rsE F.L F.re F.lo S=ZT∧rsO F.L F.re F.lo S=[]:=by unfold rsE rsO;rw [HE.out,if_neg h0,if_neg h0];exact ⟨rfl,rfl⟩
   rw [h1.1,h1.2]
   exact ⟨U,0,0,[],rfl,rfl,by omega,OpsOwn.none_ _ _,ac⟩)
  have k0:(ZT != 0)=Q:=by simpa using h0
  clear aC ac h0;go_wp2_with fail
  go_ret2;exact HF.out
theorem zXk (w:World):(Instr.build 183 #[]).run Tryz.prog w=.ok (.agg #[]) w:=run_build w _ _ _ (by kernel_rfl)
theorem zXl (w:World):(Instr.build 184 #[]).run Tryz.prog w=.ok (.agg #[]) w:=run_build w _ _ _ (by kernel_rfl)
def zKc (k:Int):Value:=if k=1 then .iface 183 (.agg #[]) else if k=2 then .iface 184 (.agg #[]) else .nilIface
theorem zKM (k:Int) (w:World):Calls Tryz.prog 89 #[D J k] w fun e w'=>e=.returned (zKc k)∧w'=w:=by
 by_cases h1:k=1
 ·subst h1;go_enter Tryz.func89,Tryz.ntmps89;go_wp2_with fail
  go_ret;exact ⟨rfl,rfl⟩
 ·by_cases h2:k=2
  ·subst h2;go_enter Tryz.func89,Tryz.ntmps89;go_wp2_with fail
   go_ret;exact ⟨rfl,rfl⟩
  ·have HV:=qH (show zKc k=.nilIface by unfold zKc;rw [if_neg h1,if_neg h2]);have m1:(k==1)=E:=by simpa using h1
   have m2:(k==2)=E:=by simpa using h2
   rw [HV.out];clear h1 h2;go_enter Tryz.func89,Tryz.ntmps89;go_wp2_with fail
   go_ret;exact ⟨rfl,rfl⟩
set_option maxHeartbeats 800000 in
theorem zOm (A:Option Addr) (n c:Nat) (L:List Fg) (re lo:Int) (o:Og) (B:Option Addr) (m d:Nat) (b:Nat) (w:World) (hA:Fgs w A n L) (hk:Blk w b 24 #[H A n c,D J re,D J lo]) (hO:OpIn w o B m d) (hr:zAr n o=Q) :
  Calls Tryz.prog 141 #[opV o B m d,.pointer (Z ⟨b,0,U⟩)] w fun e w'=>e=.returned (G (!zDI L o))∧Below w.heap.size w w':=by
 have aa:Below w.heap.size w (w.alloc (.cells #[D J o.kind,D J o.f,D J o.fr.f,D J o.fr.l,G o.fr.far,D J o.fr.pc,H B m d,G o.over] 32)):=(Below.refl _ _).alloc (Nat.le_refl _) _;have hk2:=hk.alloc (.cells #[D J o.kind,D J o.f,D J o.fr.f,D J o.fr.l,G o.fr.far,D J o.fr.pc,H B m d,G o.over] 32);have y0:=(hk2.cell 0).trans rfl;have y1:=(hk2.cell 1).trans rfl;have y2:=(hk2.cell 2).trans rfl;have HC:=qH (zKy A n c L re lo o B m d _ (hA.below aa) (hO.below aa) hr);go_enter Tryz.func141,Tryz.ntmps141;go_wp2_with fail
 refine HC.out.mono ?_;rintro e w2 ⟨rfl,ab⟩;have ac:=zAa aa ab aa.size;clear y0 y1 y2;go_wp2_with fail
 go_ret;exact ⟨rfl,ac⟩
theorem zUB {L:List Fg} {o:Og} {q:Bool} (h:zDI L o=q) (A:Option Addr) (n c:Nat) (re lo:Int) (B:Option Addr) (m d:Nat) (b:Nat) (w:World) (hA:Fgs w A n L) (hk:Blk w b 24 #[H A n c,D J re,D J lo]) (hO:OpIn w o B m d) (hr:zAr n o=Q) :
  Calls Tryz.prog 141 #[opV o B m d,.pointer (Z ⟨b,0,U⟩)] w fun e w'=>e=.returned (G (!q))∧Below w.heap.size w w':=by
 subst h;exact zOm A n c L re lo o B m d b w hA hk hO hr
theorem zUC {L:List Fg} {Es:List Oe} (h:∀j,j < Es.length→zDI L (oa Es j).o=Q):(Es.all fun x=>zDI L x.o)=Q:=by
 rw [List.all_eq_true];intro x hx;obtain ⟨i,hi⟩:=List.getElem?_of_mem hx;have hlt:=(List.getElem?_eq_some_iff.1 hi).1;have h3:=zCX hlt;rw [hi] at h3;injection h3 with h3
 rw [h3];exact h i hlt
theorem zOn {L:List Fg} {Es:List Oe} {i:Nat} (hi:i < Es.length) (h:zDI L (oa Es i).o=E):(Es.all fun x=>zDI L x.o)=E:=by
 cases e:(Es.all fun x=>zDI L x.o) with
 | false=>rfl
 | true=>rw [List.all_eq_true] at e;have:=e _ (List.mem_of_getElem? (zCX hi));rw [h] at this;cases this
set_option maxHeartbeats 3200000 in
theorem zGs (A:Option Addr) (n c:Nat) (L:List Fg) (re lo:Int) (b:Nat) (B:Option Addr) (m d:Nat) (Es:List Oe) (w:World) (hA:Fgs w A n L) (hk:Blk w b 24 #[H A n c,D J re,D J lo]) (hP:Oprs w B m Es) (hf:∀i,i < Es.length→zAr n (oa Es i).o=Q) :
  Calls Tryz.prog 174 #[H B m d,.func (.func 141) #[] #[.pointer (Z ⟨b,0,U⟩)]] w
   fun e w'=>∃k:Int,e=.returned (D J k)∧zON (Es.all fun x=>zDI L x.o) k∧Below w.heap.size w w':=by
 have hle:=hP.le;have aL:=qH hP.len;have HF:=qH hf;clear hf;go_enter Tryz.func174,Tryz.ntmps174;go_wp2_with fail
 go_loopw [8] (fun v wr=>∃i:Nat,i≤m∧v=D J i∧Below w.heap.size w wr∧Hid (∀j:Nat,j < i→zDI L (oa Es j).o=Q)) (fun v _=>m-(intOf v).toNat)
 case atStart=>exact ⟨0,Nat.zero_le _,rfl,Below.refl _ _,qH (fun j hj=>by omega)⟩
 case round =>
  obtain ⟨i,hi,rfl,hbr,HS⟩:=hrel;by_cases hlt:i < m
  ·obtain ⟨g,p,rfl,hg,⟨x0,x1,x2,x3,x4,x5,x6,x7⟩,hin⟩:=(hP.below hbr).at_ hlt;have j0:(0:Int)≤(i:Int):=by omega
   have j1:(i:Int) < (m:Int):=by omega
   have hil:i < Es.length:=by rw [aL.out];exact hlt
   obtain ⟨q,hq⟩:∃q,zDI L (oa Es i).o=q:=⟨_,rfl⟩
   have HQ:=qH hq;have HC:=qH (zUB hq A n c re lo _ _ _ b wr (hA.below hbr) (hk.below hbr hk.lt) hin (HF.out i hil));have md:=qH hil;clear hq hil hin;generalize oa Es i=x at x0 x1 x2 x3 x4 x5 x6 x7 HC;obtain ⟨⟨kk,ff,⟨gf,gl,gfar,gpc⟩,path,vov⟩,B2,m2,d2⟩:=x;simp only at x0 x1 x2 x3 x4 x5 x6 x7
   cases q with
   | true =>
    have du:=qH (show ∀j:Nat,j < i+1→zDI L (oa Es j).o=Q from fun j hj=>by
     rcases Nat.decEq j i with e | e
     ·exact HS.out j (by omega)
     ·subst e;exact HQ.out)
    clear HS HQ md;go_wp2_with fail
    refine HC.out.mono ?_;rintro e w5 ⟨rfl,ai⟩;have ao:=zAa hbr ai hbr.size;clear x0 x1 x2 x3 x4 x5 x6 x7;go_wp2_with fail
    go_roundw
    case rel=>exact ⟨i+1,by omega,by go_num,ao,du⟩
    case measure=>simp [intOf];omega
   | false =>
    have hr:=qH (show zON (Es.all fun x=>zDI L x.o) (i:Int) by rw [zOn md.out HQ.out];unfold zON;rw [if_neg (by decide)];omega);clear HS HQ md;go_wp2_with fail
    refine HC.out.mono ?_;rintro e w5 ⟨rfl,ai⟩;have ao:=zAa hbr ai hbr.size;clear x0 x1 x2 x3 x4 x5 x6 x7;go_wp2_with fail
    go_ret;exact ⟨_,rfl,hr.out,ao⟩
  ·have j1:¬(i:Int) < (m:Int):=by omega
   have hr:=qH (show zON (Es.all fun x=>zDI L x.o) (-1) by rw [zUC (fun j hj=>HS.out j (by rw [aL.out] at hj;omega))];unfold zON;rw [if_pos rfl]);clear HS;go_wp2_with fail
   go_ret;exact ⟨_,rfl,hr.out,hbr⟩
theorem zEz (A:Option Addr) (n c:Nat) (L:List Fg) (re lo:Int) (b:Nat) (B:Option Addr) (m d:Nat) (Es:List Oe) (w:World) (hA:Fgs w A n L) (hk:Blk w b 24 #[H A n c,D J re,D J lo]) (hP:Oprs w B m Es) (hf:∀i,i < Es.length→zAr n (oa Es i).o=Q) :
  Calls Tryz.prog 140 #[H B m d,.func (.func 141) #[] #[.pointer (Z ⟨b,0,U⟩)]] w
   fun e w'=>e=.returned (G (!(Es.all fun x=>zDI L x.o)))∧Below w.heap.size w w':=by
 have HC:=qH (zGs A n c L re lo b B m d Es w hA hk hP hf);go_enter Tryz.func140,Tryz.ntmps140;go_wp2_with fail
 refine HC.out.mono ?_;rintro e w2 ⟨k,rfl,hk2,ab⟩;have HK:=qH hk2;clear hk2;go_wp2_with fail
 go_ret;refine ⟨zDN ?_,ab⟩;have h:=HK.out;unfold zON at h
 cases hq:(Es.all fun x=>zDI L x.o) with
 | true=>rw [hq,if_pos rfl] at h;simp [h]
 | false=>rw [hq] at h;simp at h;simp [h]
theorem zWt (w:World):(Instr.typeAssert (.iface 184 (.agg #[])) 138 184 Q).run Tryz.prog w=.ok (.tuple #[.agg #[],G Q]) w:=by kernel_rfl
theorem zXF (w:World):(Instr.typeAssert (.iface 183 (.agg #[])) 138 184 Q).run Tryz.prog w=.ok (.tuple #[.agg #[],G E]) w:=by kernel_rfl
def zTt (L:List Fg) (k:Int) (Es:List Oe):Bool:=if k=2 then Es.all (fun x=>zDI L x.o) else Q
set_option maxHeartbeats 1600000 in
set_option maxRecDepth 100000 in
theorem zFC (A:Option Addr) (n c:Nat) (L:List Fg) (re lo:Int) (k:Int) (hk:k=1∨k=2) (B:Option Addr) (m d:Nat) (Es:List Oe) (w:World) (hA:Fgs w A n L) (hP:Oprs w B m Es) (hf:∀i,i < Es.length→zAr n (oa Es i).o=Q) :
  Calls Tryz.prog 90 #[zKc k,frV A n c re lo,H B m d] w fun e w'=>e=.returned (G (zTt L k Es))∧Below w.heap.size w w':=by
 have aa:Below w.heap.size w (w.alloc (.cells #[H A n c,D J re,D J lo] 24)):=(Below.refl _ _).alloc (Nat.le_refl _) _;have hk0:Blk (w.alloc (.cells #[H A n c,D J re,D J lo] 24)) w.heap.size 24 #[H A n c,D J re,D J lo]:=Blk.new _ _ _;have HC:=qH (zEz A n c L re lo w.heap.size B m d Es _ (hA.below aa) hk0 (hP.below aa) hf);have ty:=zWt;have tn:=zXF;rcases hk with rfl | rfl
 ·rw [show zKc 1=.iface 183 (.agg #[]) from rfl];go_enter Tryz.func90,Tryz.ntmps90;go_wp2_with fail
  go_ret;exact ⟨rfl,aa⟩
 ·rw [show zKc 2=.iface 184 (.agg #[]) from rfl];have HR:=qH (show zTt L 2 Es=(Es.all fun x=>zDI L x.o) from rfl);go_enter Tryz.func90,Tryz.ntmps90;go_wp2_with fail
  refine HC.out.mono ?_;rintro e w2 ⟨rfl,ab⟩;have ac:=zAa aa ab aa.size;go_wp2_with fail
  go_ret;exact ⟨zDN (by rw [HR.out]),ac⟩
end Go.Proofs.YtlmdfmnbcndhoaaGreatDoor
