/-
  Lemmas. Conditions: each one's own.
-/
import Derived.Test.YtlmdfmnbcndhoaaGreatDoorRt11
import Derived.Test.YtlmdfmnbcndhoaaGreatDoorRt13
open Go.RowKit
set_option maxHeartbeats 12800000
set_option maxRecDepth 100000
open Go.Value renaming bool->G,int->D,slice->H,string->W
open Go renaming World->ZY
open Go.Proofs.Tryz renaming prog->ZX
open Go.IntKind renaming i64->J
open Go.RowKit.Below renaming refl->M
open Nat renaming le_refl->O
open Go.RowKit renaming Below->ZZ
open Option renaming none->U,some->Z
open Bool renaming false->E,true->Q
namespace Go.Proofs.YtlmdfmnbcndhoaaGreatDoor
noncomputable def rlR (L:List Fg) (re lo:Int) (S:List UInt8):List Og×Nat×Int:=if zAC L re lo S=0 then zAO L (zAI 10 S) [] else ([],0,zAC L re lo S)
def zXV:Value->Nat
 | W s=>s.size
 | _=>0
theorem zOc (L:List Fg) (S:List UInt8):zDt L S=0∨zDt L S=6∨zDt L S=8:=by
 unfold zDt;split
 ·omega
 ·split<;>omega
theorem zDW {w:ZY} {base:Nat} {B:Option Addr} {m d:Nat} {P:List Sp} (h:Row w base 5 B m d (P.flatMap zCl)) (hm:m<=1000000) (hok:∀x∈P,SgOk x.s):Stps w B m P:=⟨h.els (fun _=>rfl) (by omega) (by omega),hok⟩
theorem zMV (L:List Fg) (S:List UInt8):(zEL L S).path.length<=2*S.length+2:=by
 by_cases h:∃n,okN n/\S=zBY n
 ·obtain ⟨n,h1,rfl⟩:=h;rw [(zEn L h1).2]
  cases zAy L n with
  | true=>simp [o0]
  | false =>
   show (n.path.map (pOf L)).length<=_;rw [List.length_map];have h2:=zEm (zBY n);rw [zDc] at h2;have h3:n.path.length<=(zJm n).length:=by
    by_cases hp:n.path=[]
    ·simp [hp]
    ·have hk:n.kind=3:=by
      rcases h1.2 with ⟨_,_,h,_⟩ | ⟨_,_,h⟩ | ⟨h,_⟩ | ⟨_,_,h⟩ | ⟨_,_,h⟩
      ·exact absurd h hp
      ·exact absurd h hp
      ·exact h
      ·exact absurd h hp
      ·exact absurd h hp
     have:=zMO n.path;unfold zJm tlT;rw [qN (by omega),qP hk];simp only [List.length_cons,List.length_append];omega
   omega
 ·rw [(zIG L fun n h1 h2=>h ⟨n,h1,h2⟩).2];simp [o0]
theorem zHE (F:Fm) (S:List UInt8) (w:ZY) (hA:Fgs w F.A F.n F.L) (hc:F.n<=F.c) (ht:Tabs w) :
  Calls ZX 23 #[frV F.A F.n F.c F.re F.lo,W (bA S)] w (zHC w (rlR F.L F.re F.lo S).1 (rlR F.L F.re F.lo S).2.1 (rlR F.L F.re F.lo S).2.2):=by
 have kY:F.L.length<=17592186043904:=by rw [hA.len];exact hA.le
 have ah:ZZ w.heap.size w (w.alloc (.cells #[H F.A F.n F.c,D J F.re,D J F.lo] 24)):=(M _ _).alloc (O _) _;have hk0:Blk (w.alloc (.cells #[H F.A F.n F.c,D J F.re,D J F.lo] 24)) w.heap.size 24 #[H F.A F.n F.c,D J F.re,D J F.lo]:=Blk.new _ _ _;have HA:=qH hA;have HT:=qH ht;obtain ⟨ZQ,hE⟩:∃ZQ,zAC F.L F.re F.lo S=ZQ:=⟨_,rfl⟩
 have hcs:=zEM F.L F.re F.lo S;rw [hE] at hcs;have lE:=qH (fun wx (hx:Fgs wx F.A F.n F.L)=>zDs F.A F.n F.c F.L F.re F.lo S wx hx hc);simp only [hE] at lE;have HE:=qH hE;have HR:Hid (rlR F.L F.re F.lo S=if ZQ=0 then zAO F.L (zAI 10 S) [] else ([],0,ZQ)):=qH (by unfold rlR;rw [hE]);obtain ⟨⟨TO,TN,TE⟩,p6⟩:∃x,rlR F.L F.re F.lo S=x:=⟨_,rfl⟩
 rw [p6] at HR ⊢;simp only;have d9:=qH (fun (ZM:List Og) (n:Nat) (er:Int) (hq:(ZM,n,er)=(TO,TN,TE)) (e:Ending) (wx:ZY) (h:zHC w ZM n er e wx)=>(show zHC w TO TN TE e wx by injection hq with h1 h2;injection h2 with h2 h3;subst h1;subst h2;subst h3;exact h));have FL:=qH kY;clear hA ht hE p6 kY;go_enter Tryz.func23,Tryz.ntmps23;go_wp2_with fail
 generalize w.alloc (.cells #[H F.A F.n F.c,D J F.re,D J F.lo] 24)=Y at ah hk0 ⊢;refine (lE.out Y (HA.out.below ah)).mono ?_;rintro e Y2 ⟨rfl,ai⟩;have bt:=hk0.below ai hk0.lt;have al:=zAa ah ai ah.size;clear hk0 ah ai lE;by_cases h0:ZQ=0
 ·subst h0;have hS:=(zBZ HE.out).1;have lz:=qH (HR.out.trans (qP rfl));clear hcs HR;go_wp2_with fail
  go_loopw [1,8,9] (fun v1 v8 v9 wv=>∃(X:ZY) (R:List UInt8) (A':Option Addr) (i c':Nat) (Es:List Oe),X=wv/\v1=W (bA R)/\v8=H A' i c'/\v9=D J i/\R.length+i<=8000/\OpsOwn X Y2.heap.size A' i c' Es/\ZZ Y2.heap.size Y2 X/\Hid (Es.length=i/\(TO,TN,TE)=zAO F.L (zAI 10 R) (List.map (fun x:Oe=>x.o) Es))) (fun v1 _ _ _=>zXV v1)
  case atStart=>exact ⟨_,S,U,0,0,[],rfl,rfl,rfl,rfl,by omega,OpsOwn.none_ _ _,M _ _,qH ⟨rfl,lz.out⟩⟩
  case round =>
   obtain ⟨X,R,A',i,c',Es,hX,rfl,rfl,rfl,hle,hO,hb,HI⟩:=hrel;subst hX;have hbw:=zAa al hb al.size;have hz:w.heap.size<=Y2.heap.size:=al.size;by_cases hR:R=[]
   ·have n0:((bA R).toList==[])=Q:=by rw [zAr,hR];rfl
    have HF:=qH (d9.out (List.map (fun x:Oe=>x.o) Es) i 0 (by rw [HI.out.2,hR,zPV,List.length_map,HI.out.1]) _ X ⟨A',i,c',Es,rfl,rfl,by omega,hO.mono hz,hbw⟩);clear hR hO hb hbw HI bt;go_wp2_with fail
    go_ret3
    exact HF.out
   have n0:((bA R).toList==[])=E:=by rw [zAr];simpa using hR
   have f8:=zSg R (by omega) X (HT.out.below hbw);by_cases h10:(10:UInt8)∈R
   ·obtain ⟨h,r,wF,hh⟩:=zJA h10;rw [show Lib.cut R [10]=(h,r,Q) from by rw [wF];exact zPe hh] at f8;have f8:=qH f8;have hlr:r.length+(i+1)<=8000:=by rw [wF] at hle;simp at hle;omega
    have hlh:h.length<=20000:=by rw [wF] at hle;simp at hle;omega
    have hms:zXV (W (bA r)) < zXV (W (bA R)):=by simp only [zXV,zAH,wF];simp;omega
    have HL:=qH (show (TO,TN,TE)=if zDt F.L h=0 then zAO F.L (zAI 10 r) (List.map (fun x:Oe=>x.o) Es++[zEL F.L h]) else ([],i,zDt F.L h) by rw [HI.out.2,wF,zNX F.L hh,List.length_map,HI.out.1]);have ji:=qH HI.out.1;have DM:=qH hms;clear hR h10 wF hh HI hms;go_wp2_with fail
    refine f8.out.mono ?_;rintro e X2 ⟨rfl,bh⟩;have az:=zAa hbw bh hbw.size;have uZ:=zAa hb bh hb.size;have il:=hO.below bh;have hfx:=(bt.below hb bt.lt).below bh (bt.below hb bt.lt).lt;have jV:=zHA F h X2 (HA.out.below az) hlh (HT.out.below az);have vk:=zPU FL.out h;have Cn:=zOc F.L h;obtain ⟨ov,eov⟩:∃x,zEL F.L h=x:=⟨_,rfl⟩
    obtain ⟨er,eer⟩:∃x,zDt F.L h=x:=⟨_,rfl⟩
    rw [eov,eer] at jV HL;rw [eov] at vk;rw [eer] at Cn;have jV:=qH jV;have ir:=qH vk;have fY:Hid (ov.path.length<=1000000):=qH (by rw [<-eov];have:=zMV F.L h;omega);obtain ⟨kk,ff,⟨gf,gl,gfar,gpc⟩,path,vov⟩:=ov;obtain ⟨w0,w1,w2⟩:=cQ3 hfx;clear hO hb hbw bh f8 eov eer vk hfx hlh;go_wp2_with fail
    refine jV.out.mono ?_;rintro e X3 ⟨B2,m2,d2,rfl,hrow,cE,aM⟩;have fO:=qH cE;have cV:=zAa az aM az.size;have uX:=zAa uZ aM uZ.size;have pk:=il.below aM;have hbl:=(M X3.heap.size X3).alloc (O _) (.cells #[D J kk,D J ff,D J gf,D J gl,G gfar,D J gpc,H B2 m2 d2,G vov] 32);have hop:Blk (X3.alloc (.cells #[D J kk,D J ff,D J gf,D J gl,G gfar,D J gpc,H B2 m2 d2,G vov] 32)) X3.heap.size 32 #[D J kk,D J ff,D J gf,D J gl,G gfar,D J gpc,H B2 m2 d2,G vov]:=Blk.new _ _ _;have iP:=pk.below hbl;have hrw:=hrow.below hbl;have cz:=zAa cV hbl cV.size;have pd:=zAa uX hbl uX.size
    have pJ:=qH (fun k (hk:blk B2=Z k)=>(show k < (X3.alloc (.cells #[D J kk,D J ff,D J gf,D J gl,G gfar,D J gpc,H B2 m2 d2,G vov] 32)).heap.size/\blk A'≠Z k by
     have h1:=hrow.lt k hk
     refine ⟨by simp;omega,fun e2=>?_⟩
     have h2:=(il.row.lt k e2).2
     omega))
    have ly:=qH (show Y2.heap.size<=(X3.alloc (.cells #[D J kk,D J ff,D J gf,D J gl,G gfar,D J gpc,H B2 m2 d2,G vov] 32)).heap.size from pd.size);clear cE il az uZ aM cV uX pk hbl hrow w0 w1 w2 jV;go_upto_region 12 with fail
    generalize X3.alloc (.cells #[D J kk,D J ff,D J gf,D J gl,G gfar,D J gpc,H B2 m2 d2,G vov] 32)=X4 at hop iP hrw cz pd pJ ly ⊢;generalize X3.heap.size=a13 at hop ⊢;by_cases her:er=0
    ·subst her;have zW:=qH (HL.out.trans (qP rfl));clear Cn HL n0;obtain ⟨f0,f1,f2,f3,f4,f5,f6,f7⟩:=cQ8 hop;go_upto_region 15 with (at_builtin;refine zEK ?_)
     refine qH ?_;refine zSf (y:=⟨⟨kk,ff,⟨gf,gl,gfar,gpc⟩,path,vov⟩,B2,m2,d2⟩) (N:=i+1) (base:=Y2.heap.size) (A:=A') (n:=i) (c:=c') (Es:=Es) rfl (.tmp 44) (.tmp 46) ?_ ?_ ?_ ?_ ?_ ?_ ?_ ?_
     ·rfl
     ·exact iP.row
     ·rfl
     ·rfl
     ·rfl
     ·omega
     ·exact ly.out
     intro A2 c2 w9 hR9 b8 cl;have bn:=iP.row.belowOf b8 ly.out;have o5:m2<=1000000:=by rw [fO.out];exact fY.out
     have fq:=iP.push ⟨⟨kk,ff,⟨gf,gl,gfar,gpc⟩,path,vov⟩,B2,m2,d2⟩ ⟨ir.out.1,zDW hrw o5 ir.out.2,hrw.cap,pJ.out⟩ hR9 b8 cl;have hbz:=pd.trans bn;have HF:=qH (show (Es++[(⟨⟨kk,ff,⟨gf,gl,gfar,gpc⟩,path,vov⟩,B2,m2,d2⟩:Oe)]).length=i+1/\(TO,TN,TE)=zAO F.L (zAI 10 r) (List.map (fun x:Oe=>x.o) (Es++[(⟨⟨kk,ff,⟨gf,gl,gfar,gpc⟩,path,vov⟩,B2,m2,d2⟩:Oe)])) from ⟨by simp [ji.out],by rw [zW.out,List.map_append];rfl⟩);clear hop iP hrw cz pd b8 cl hR9 bn f0 f1 f2 f3 f4 f5 f6 f7 pJ ly;go_wp2_with fail
     go_roundw
     case rel=>exact ⟨_,r,A2,i+1,c2,_,rfl,rfl,rfl,by go_num,hlr,fq,hbz,HF⟩
     case measure=>exact DM.out
    ·have k0:(er != 0)=Q:=by simpa using her
     have HF:=qH (d9.out [] i er (by rw [HL.out,qN her]) _ X4 ⟨U,0,0,[],rfl,rfl,by omega,OpsOwn.none_ _ _,cz⟩);clear hop iP hrw cz pd Cn her;go_wp2_with fail
     go_ret3
     exact HF.out
   ·rw [zPf h10] at f8;have f8:=qH f8;have HL:=qH (show ([],i,(6:Int))=(TO,TN,TE) by rw [HI.out.2,zNW F.L h10 hR,List.length_map,HI.out.1]);clear hR h10 HI hO hb bt;go_wp2_with fail
    refine f8.out.mono ?_;rintro e X2 ⟨rfl,bh⟩;have HF:=qH (d9.out [] i 6 HL.out _ X2 ⟨U,0,0,[],rfl,rfl,by omega,OpsOwn.none_ _ _,zAa hbw bh hbw.size⟩);clear bh hbw;go_wp2_with fail
    go_ret3
    exact HF.out
 ·have HF:=qH (d9.out [] 0 ZQ (by rw [HR.out,qN h0]) _ Y2 ⟨U,0,0,[],rfl,rfl,by omega,OpsOwn.none_ _ _,al⟩);have k0:(ZQ != 0)=Q:=by simpa using h0
  clear hcs h0 al bt;go_wp2_with fail
  go_ret3
  exact HF.out
noncomputable def zBA:List (List UInt8)->Option (List Nop)
 | []=>Z []
 | S :: T=>match zAD S,zBA T with
  | some n,Z ns=>Z (n :: ns)
  | _,_=>U
theorem zEp:∀(T:List (List UInt8)) (S:List UInt8),zBA (T++[S])=match zBA T,zAD S with
  | some ns,Z n=>Z (ns++[n])
  | _,_=>U
 | [],S=>by
  cases h:zAD S<;>simp [zBA,h]
 | X :: T,S=>by
  rw [List.cons_append,zBA,zEp T S,zBA]
  cases zAD X<;>cases zBA T<;>cases zAD S<;>rfl
theorem zIH:∀{A:List (List UInt8)} (B:List (List UInt8)),zBA A=U->zBA (A++B)=U
 | [],B,h=>by simp [zBA] at h
 | X :: A,B,h=>by
  rw [List.cons_append,zBA];rw [zBA] at h
  cases hX:zAD X with
  | none=>rfl
  | some n =>
   rw [hX] at h
   cases hA:zBA A with
   | none=>rw [zIH B hA]
   | some ns=>rw [hA] at h;cases h
noncomputable def itE (L:List Fg) (S:List UInt8):Int:=if S=[] then 0 else match zBA (zAI 32 S) with | none=>6 | some ns=>if ns.any (zAy L) then 8 else 0
noncomputable def itO (L:List Fg) (S:List UInt8):List Og:=if S=[] then [] else match zBA (zAI 32 S) with | none=>[] | some ns=>if ns.any (zAy L) then [] else ns.map (oOf L)
theorem zGS {n:Nop} (h:okN n):n.path.length<=(zEv n).length:=by
 by_cases hp:n.path=[]
 ·simp [hp]
 ·have hk:n.kind=3/\∃x,n.fr=Z x:=by
   rcases h.2 with ⟨_,_,h,_⟩ | ⟨_,_,h⟩ | ⟨h,⟨x,hx,_⟩,_⟩ | ⟨_,_,h⟩ | ⟨_,_,h⟩
   ·exact absurd h hp
   ·exact absurd h hp
   ·exact ⟨h,x,hx⟩
   ·exact absurd h hp
   ·exact absurd h hp
  obtain ⟨hk,x,hx⟩:=hk;have:=zPL (P:=n.path) x;unfold zEv zPK frI;rw [qN (by omega),qP hk,hx];unfold zHW at this;simp only [List.length_append] at this ⊢;omega
def zDX (w0:ZY) (ZM:List Og) (er:Int) (e:Ending) (w':ZY):Prop :=
 ∃B m d Es,e=.returned (.tuple #[H B m d,D J er])/\List.map (fun x:Oe=>x.o) Es=ZM/\m<=1000000/\OpsOwn w' w0.heap.size B m d Es/\ZZ w0.heap.size w0 w'
theorem OpsOwn.overR {w w':ZY} {base rb:Nat} {A:Option Addr} {n c:Nat} {Es:List Oe} (h:OpsOwn w base A n c Es) (hg:w.grownBy w' (Z rb)) (hb:rb < base) (hr:∀e∈Es,∀k,blk e.A=Z k->rb < k):OpsOwn w' base A n c Es :=
 ⟨h.row.overO hg hb,fun e he=>by
  obtain ⟨h1,h2,h3,h4⟩:=h.ok e he
  exact ⟨h1,h2.kept hg (fun k hk e2=>by injection e2 with e2;have:=hr e he k hk;omega),h3,fun k hk=>⟨Nat.lt_of_lt_of_le (h4 k hk).1 hg.size,(h4 k hk).2⟩⟩⟩
theorem zWS (A:Option Addr) (n c:Nat) (re lo:Int) (w:ZY):(Instr.build 123 #[(0,.agg #[H A n c,D J re,D J lo])]).run ZX w=.ok (.agg (rdC A n c re lo U 0 0 E E)) w:=run_build w _ _ _ (by kernel_rfl)
def zRw (L:List Fg) (ws:List (List UInt8)) (i:Nat) (bad lost:Bool) (Es:List Oe):Prop :=
 Es.length=i/\((bad=E/\∃ns,zBA (ws.take i)=Z ns/\lost=ns.any (zAy L)/\List.map (fun x:Oe=>x.o) Es=ns.map (oOf L))∨(bad=Q/\zBA (ws.take i)=U))
theorem zKO {L:List Fg} {ws:List (List UInt8)} {i:Nat} {bad lost:Bool} {Es:List Oe} (h:zRw L ws i bad lost Es) {S:List UInt8} (hS:ws[i]? = Z S) {n:Nop} (hn:zAD S=Z n) (e:Oe) (he:e.o=oOf L n):zRw L ws (i+1) bad (lost||zAy L n) (Es++[e]):=by
 obtain ⟨h1,h2⟩:=h;refine ⟨by simp [h1],?_⟩;rw [List.take_add_one,hS];simp only [Option.toList_some];rw [zEp,hn];rcases h2 with ⟨rfl,ns,h3,h4,h5⟩ | ⟨rfl,h3⟩
 ·refine .inl ⟨rfl,ns++[n],by rw [h3],by rw [h4];simp,by rw [List.map_append,h5];simp [he]⟩
 ·exact .inr ⟨rfl,by rw [h3]⟩
theorem zQf {L:List Fg} {ws:List (List UInt8)} {i:Nat} {bad lost:Bool} {Es:List Oe} (h:zRw L ws i bad lost Es) {S:List UInt8} (hS:ws[i]? = Z S) (hn:zAD S=U) (e:Oe) (l:Bool):zRw L ws (i+1) Q l (Es++[e]):=by
 obtain ⟨h1,h2⟩:=h;refine ⟨by simp [h1],.inr ⟨rfl,?_⟩⟩;rw [List.take_add_one,hS];simp only [Option.toList_some];rw [zEp,hn]
 cases zBA (ws.take i)<;>rfl
theorem zMW {L:List Fg} {S:List UInt8} {i:Nat} {bad lost:Bool} {Es:List Oe} (h:zRw L (zAI 32 S) i bad lost Es) (hi:i=(zAI 32 S).length) (h0:S≠[]) :
  itE L S=(if bad then 6 else if lost then 8 else 0)/\(itE L S=0->List.map (fun x:Oe=>x.o) Es=itO L S)/\(itE L S≠0->itO L S=[]):=by
 obtain ⟨_,h2⟩:=h;rw [hi,List.take_length] at h2;unfold itE itO;rw [qN h0,qN h0];rcases h2 with ⟨rfl,ns,h3,h4,h5⟩ | ⟨rfl,h3⟩
 ·simp only [h3,<-h4]
  cases lost with
  | true=>simp
  | false=>simpa using h5
 ·simp only [h3];simp
theorem zHF (F:Fm) (S:List UInt8) (w:ZY) (hA:Fgs w F.A F.n F.L) (hS:S.length<=20000) (ht:Tabs w) :
  Calls ZX 72 #[frV F.A F.n F.c F.re F.lo,W (bA S)] w (zDX w (itO F.L S) (itE F.L S)):=by
 have kY:F.L.length<=17592186043904:=by rw [hA.len];exact hA.le
 have ah:ZZ w.heap.size w (w.alloc (.cells #[H F.A F.n F.c,D J F.re,D J F.lo] 24)):=(M _ _).alloc (O _) _;have hk0:Blk (w.alloc (.cells #[H F.A F.n F.c,D J F.re,D J F.lo] 24)) w.heap.size 24 #[H F.A F.n F.c,D J F.re,D J F.lo]:=Blk.new _ _ _;have n0:=zAp S [];by_cases h0:S=[]
 ·have n1:(S==([]:List UInt8))=Q:=by rw [h0];rfl
  rw [n1] at n0
  have HF:=qH (show zDX w (itO F.L S) (itE F.L S) (.returned (.tuple #[H U 0 0,D J 0])) (w.alloc (.cells #[H F.A F.n F.c,D J F.re,D J F.lo] 24)) by
   have h1:itE F.L S=0/\itO F.L S=[]:=by unfold itE itO;rw [qP h0,qP h0];exact ⟨rfl,rfl⟩
   rw [h1.1,h1.2]
   exact ⟨U,0,0,[],rfl,rfl,by omega,OpsOwn.none_ _ _,ah⟩)
  clear h0 n1 ah hk0 hA ht kY hS;go_enter Tryz.func72,Tryz.ntmps72;go_wp2_with fail
  go_ret2;exact HF.out
 have n1:(S==([]:List UInt8))=E:=by simpa using h0
 rw [n1] at n0;obtain ⟨ws,hws⟩:∃ZO,zAI 32 S=ZO:=⟨_,rfl⟩
 obtain ⟨n,hn⟩:∃n,ws.length=n:=⟨_,rfl⟩
 have hnl:n<=20001:=by rw [<-hn,<-hws];have:=zBp S;omega
 have hpl:∀p∈ws,p.length<=100000:=fun p hp=>by rw [<-hws] at hp;have:=zAJ 32 S p hp;omega
 have cc:=qH hpl;have HN:=qH hn;have HW:=qH hws;have H0:=qH h0;have FL:=qH kY;have eO:=qH (fun wx (hx:Tabs wx)=>zHz S (by omega) wx hx);rw [hws,hn] at eO;obtain ⟨v0,v1,v2⟩:=cQ3 hk0;have HA:=qH hA;have HT:=qH ht;clear h0 n1 hws hn hpl kY hS hA ht hk0;go_enter Tryz.func72,Tryz.ntmps72;go_upto_region 3 with fail
 generalize w.alloc (.cells #[H F.A F.n F.c,D J F.re,D J F.lo] 24)=Y at ah v0 v1 v2 ⊢;have hbl:=(M Y.heap.size Y).alloc (O _) (.cells (rdC F.A F.n F.c F.re F.lo U 0 0 E E) 123);have ay:=zAa ah hbl ah.size
 have hrx:RX (Y.alloc (.cells (rdC F.A F.n F.c F.re F.lo U 0 0 E E) 123)) Y.heap.size F ⟨[],E,E⟩ :=
  ⟨⟨U,0,0,Blk.new _ _ _,Els.nil _ _,O _,fun k hk=>by cases hk⟩,HA.out.below ay,fun h0 k hk=>by
   obtain ⟨g,o,e,hg,_⟩:=HA.out.1.2.2 h0
   rw [e] at hk
   injection hk with hk
   have iZ:g=k:=hk
   have h1:=ah.size
   omega⟩
 have hge:w.heap.size<=Y.heap.size:=ah.size;clear hbl;go_upto_region 5 with fail
 clear v0 v1 v2 ah;have vJ:=qH (eO.out (Y.alloc (.cells (rdC F.A F.n F.c F.re F.lo U 0 0 E E) 123)) (HT.out.below ay));generalize Y.alloc (.cells (rdC F.A F.n F.c F.re F.lo U 0 0 E E) 123)=ZR at ay hrx vJ ⊢;generalize Y.heap.size=rb at hrx hge ⊢;go_wp2_with fail
 refine vJ.out.mono ?_;rintro e X ⟨rfl,hX⟩;have bD:ZZ ZR.heap.size ZR X:=by rw [hX];exact (M _ _).alloc (O _) _
 have yu:∀(j:Nat) (p:List UInt8),ws[j]? = Z p->X.cell? ⟨ZR.heap.size,j,U⟩=Z (W (bA p)):=fun j p hp=>by
  rw [hX,World.cell?_alloc_at _ _ _ _ rfl];simp [hp]
 have kS:ZR.heap.size < X.heap.size:=by rw [hX];simp
 have Ab:=qH yu;have BX:=hrx.below bD;have hbw:=zAa ay bD ay.size;have hrlt:rb < X.heap.size:=BX.lt;have hzz:rb < ZR.heap.size:=hrx.lt;clear hX yu eO vJ hrx ay bD;go_wp2_with fail
 go_loopw [7,18] (fun v7 v18 wv=>∃(i:Nat) (V:ZY) (A':Option Addr) (c':Nat) (Es:List Oe) (bad lost:Bool),V=wv/\i<=n/\v18=D J i/\v7=H A' i c'/\RX V rb F ⟨[],bad,lost⟩/\OpsOwn V X.heap.size A' i c' Es/\X.grownBy V (Z rb)/\Hid (∀e∈Es,∀k,blk e.A=Z k->rb < k)/\Hid (zRw F.L ws i bad lost Es)) (fun _ v18 _=>n-(intOf v18).toNat)
 case atStart=>exact ⟨0,_,U,0,[],E,E,rfl,by omega,rfl,rfl,BX,OpsOwn.none_ _ _,zBo _ _,qH (by simp),qH ⟨rfl,.inl ⟨rfl,[],rfl,rfl,rfl⟩⟩⟩
 case round =>
  clear BX;obtain ⟨i,V,A',c',Es,bad,lost,hV,hi,rfl,rfl,hr,hO,hg,HK,HI⟩:=hrel;subst hV;by_cases hlt:i < n
  ·have j0:(0:Int)<=(i:Int):=by omega
   have j1:(i:Int) < (n:Int):=by omega
   obtain ⟨p,hp⟩:∃p,ws[i]? = Z p:=⟨ws[i]'(by rw [HN.out];exact hlt),List.getElem?_eq_getElem _⟩
   have hc:V.cell? ⟨ZR.heap.size,i,U⟩=Z (W (bA p)):=by
    rw [World.cell?_of_block (w:=X) (w':=V) (a:=⟨ZR.heap.size,i,U⟩) (hg.block _ kS (fun e=>by injection e with e;simp only at e;omega))];exact Ab.out i p hp
   have zJ:=qH (zMa rb F ⟨[],bad,lost⟩ p V hr (cc.out p (List.mem_of_getElem? hp)));have HP:=qH hp;have EV:=hr.lt;clear hp hr;go_upto_region 8 with fail
   clear hc;go_wp2_with fail
   refine zJ.out.mono ?_;intro e V2 hsc;have key:∃(o:Og) (B:Option Addr) (m d:Nat) (lp gk:Bool),e=.returned (opV o B m d)/\V.grownBy V2 (Z rb)/\RX V2 rb F ⟨[],lp,gk⟩/\Hid ((OgOk o/\Stps V2 B m o.path/\m<=d/\∀k,blk B=Z k->k < V2.heap.size/\V.heap.size<=k)/\zRw F.L ws (i+1) lp gk (Es++[(⟨o,B,m,d⟩:Oe)])):=by
    rcases hsc with ⟨nn,h1,B,m,d,h2,h3,h4,h5,h6⟩ | ⟨h1,h2,⟨l,h3⟩,h4⟩
    ·have hok:=zPS FL.out (zCu h1).1;have hpn:m<=1000000:=by
      have h7:=zCu h1;have h8:=cc.out p (List.mem_of_getElem? HP.out);rw [h7.2.2] at h8;rw [h4];show (nn.path.map (pOf F.L)).length<=_;rw [List.length_map];have h9:=zGS h7.1;omega
     exact ⟨_,B,m,d,bad,_,h2,h6,h5,qH ⟨⟨hok.1,zDW h3 hpn hok.2,h3.cap,fun k hk=>⟨(h3.lt k hk).2,(h3.lt k hk).1⟩⟩,zKO HI.out HP.out h1 _ rfl⟩⟩
    ·exact ⟨zop,U,0,0,Q,l,h2,h4,h3,qH ⟨⟨zLW.1,Stps.nil _ _,O _,fun k hk=>by cases hk⟩,zQf HI.out HP.out h1 _ l⟩⟩
   obtain ⟨o,B,m,d,lp,gk,rfl,dr,mT,HE⟩:=key;have il:=hO.overR dr (by omega) HK.out;have yH:=hO.row.lt;have jX:=qH (fun k (hk:blk A'=Z k)=>(yH k hk).2);have hgg:=zAb hg dr;have hsz:X.heap.size<=V2.heap.size:=hgg.size;obtain ⟨kk,ff,⟨gf,gl,gfar,gpc⟩,path,vov⟩:=o;clear hsc hO dr hg zJ yH;go_upto_region 9 with (at_builtin;refine zEK ?_)
   refine qH ?_;refine zSf (y:=⟨⟨kk,ff,⟨gf,gl,gfar,gpc⟩,path,vov⟩,B,m,d⟩) (N:=i+1) (base:=X.heap.size) (A:=A') (n:=i) (c:=c') (Es:=Es) rfl (.tmp 22) (.tmp 26) ?_ ?_ ?_ ?_ ?_ ?_ ?_ ?_
   ·rfl
   ·exact il.row
   ·rfl
   ·rfl
   ·rfl
   ·omega
   ·exact hsz
   intro A2 c2 w9 hR9 b8 cl;have bn:=il.row.belowOf b8 hsz;have fq:=il.push ⟨⟨kk,ff,⟨gf,gl,gfar,gpc⟩,path,vov⟩,B,m,d⟩ ⟨HE.out.1.1,HE.out.1.2.1,HE.out.1.2.2.1,fun k hk=>⟨(HE.out.1.2.2.2 k hk).1,fun e2=>by have h1:=jX.out k e2;have h2:=(HE.out.1.2.2.2 k hk).2;omega⟩⟩ hR9 b8 cl;have BY:=mT.over (bn.mono (by omega));have uJ:=zAd hgg bn
   have HK2:=qH (show ∀e∈Es++[(⟨⟨kk,ff,⟨gf,gl,gfar,gpc⟩,path,vov⟩,B,m,d⟩:Oe)],∀k,blk e.A=Z k->rb < k from fun e he k hk=>by
    rcases List.mem_append.1 he with h1 | h1
    ·exact HK.out e h1 k hk
    ·rw [List.mem_singleton.1 h1] at hk
     have h2:=(HE.out.1.2.2.2 k hk).2
     omega)
   have HI2:=qH HE.out.2;clear hR9 b8 cl bn il mT hgg hsz HE jX HI;go_wp2_with fail
   go_roundw
   case rel=>exact ⟨i+1,_,A2,c2,_,lp,gk,rfl,by omega,by go_num,rfl,BY,fq,uJ,HK2,HI2⟩
   case measure=>simp [intOf];omega
  ·have j1:¬(i:Int) < (n:Int):=by omega
   have hin:i=n:=by omega
   have hend:=zMW (L:=F.L) (S:=S) (i:=i) (bad:=bad) (lost:=lost) (Es:=Es) (by rw [HW.out];exact HI.out) (by rw [HW.out,HN.out];exact hin) H0.out;have iY:=qH hend;have qx:ZZ w.heap.size w V:=zAa hbw (zBM hg (show w.heap.size<=rb from hge) hbw.size) (O _);have hzX:w.heap.size<=X.heap.size:=hbw.size;have hil:i<=1000000:=by omega
   have HO:=qH hO;have it:=qH qx;have c4:V.cell? ⟨rb,4,U⟩=Z (G bad):=hr.bad4.1;have c5:V.cell? ⟨rb,5,U⟩=Z (G lost):=hr.lost5;clear hend hin hlt hg hr Ab HI HK hO qx
   cases bad with
   | true =>
    have HE:=qH (show itE F.L S=6/\itO F.L S=[] from ⟨iY.out.1,iY.out.2.2 (by rw [iY.out.1];simp)⟩);clear c5;go_wp2_with fail
    go_ret2;exact (show zDX w _ _ _ _ by rw [HE.out.1,HE.out.2];exact ⟨U,0,0,[],rfl,rfl,by omega,OpsOwn.none_ _ _,it.out⟩)
   | false =>
    cases lost with
    | true =>
     have HE:=qH (show itE F.L S=8/\itO F.L S=[] from ⟨iY.out.1,iY.out.2.2 (by rw [iY.out.1];simp)⟩);go_wp2_with fail
     go_ret2;exact (show zDX w _ _ _ _ by rw [HE.out.1,HE.out.2];exact ⟨U,0,0,[],rfl,rfl,by omega,OpsOwn.none_ _ _,it.out⟩)
    | false =>
     have HE:=qH (show itE F.L S=0/\List.map (fun x:Oe=>x.o) Es=itO F.L S from ⟨iY.out.1,iY.out.2.1 iY.out.1⟩);go_wp2_with fail
     go_ret2;exact (show zDX w _ _ _ _ by rw [HE.out.1];exact ⟨A',i,c',Es,rfl,HE.out.2,hil,HO.out.mono hzX,it.out⟩)
noncomputable def rbF (S:List UInt8):Sg:=if S=[] then s0 else ⟨fnA S.dropLast,0,decide (S.getLast? = Z 102),0⟩
def nmC (b:UInt8):Bool:=zHZ b||b==76||b==82
def nmL:List UInt8->Nat
 | []=>0
 | b :: r=>if nmC b then nmL r+1 else 0
noncomputable def zIb:List (List UInt8)->List Sp->Option (List Sp)
 | [],P=>Z P
 | S :: r,P=>if S=[] then U else zIb r (P++[⟨rbF S.dropLast,decide (S.getLast? = Z 111)⟩])
def ovL (R:List UInt8):Bool:=decide (R.getLast? = Z 111)
noncomputable def zQg (f:Int) (T:List (List UInt8)):Og :=
 if T.length=2 then (match zIb (zAI 44 (xa T 0)) [] with | some P=>⟨3,f,rbF (xa T (T.length-1)),P,E⟩ | none=>o0)
 else ⟨3,f,rbF (xa T (T.length-1)),[],E⟩
noncomputable def zHG (b:UInt8) (f:Int) (R:List UInt8):Og :=
 if b=45 then ⟨1,f,s0,[],E⟩
 else if b=94 then ⟨2,f,s0,[],E⟩
 else if b=33 then ⟨8,f,s0,[],E⟩
 else if b=126 then ⟨4,f,s0,[],ovL R⟩
 else if b=61 then ⟨5,f,if R=[] then s0 else rbF R.dropLast,[],ovL R⟩
 else if b=42 then ⟨6,f,⟨if R=[] then 0 else fnA R.dropLast,0,E,0⟩,[],ovL R⟩
 else if b=37 then ⟨7,f,⟨if R=[] then 0 else fnA R.dropLast,0,E,0⟩,[],ovL R⟩
 else if b=60 then zQg f (zAI 60 R)
 else ⟨0,f,s0,[],E⟩
noncomputable def zJE (S:List UInt8):Og :=
 if nmL S=S.length then o0 else zHG ((S[nmL S]?).getD 0) (fnA (S.take (nmL S))) (S.drop (nmL S+1))
theorem zKP {f:Fg} (hf:zAn f=Q) (h1:f.p=1):∀b∈zAj f,nmC b=Q/\b≠60/\b≠44:=by
 rw [zJv hf h1];obtain ⟨_,_,h3,h4⟩:=zAv.1 hf;have hd:f.d.toNat=0∨f.d.toNat=1∨f.d.toNat=2∨f.d.toNat=3∨f.d.toNat=4∨f.d.toNat=5∨f.d.toNat=6:=by omega
 intro b hb;simp only [List.mem_cons,List.not_mem_nil,or_false] at hb;rcases hb with rfl | rfl
 ·cases f.r<;>decide
 ·rcases hd with e | e | e | e | e | e | e<;>rw [e]<;>decide
theorem zQh:∀(A:List UInt8) (b:UInt8) (R:List UInt8),(∀x∈A,nmC x=Q)->nmC b=E->nmL (A++b :: R)=A.length
 | [],b,R,_,hb=>by rw [List.nil_append,nmL,qN (by rw [hb];simp)];rfl
 | x :: A,b,R,hA,hb=>by
  rw [List.cons_append,nmL,qP (hA x (List.mem_cons_self ..)),zQh A b R (fun y hy=>hA y (List.mem_cons_of_mem _ hy)) hb,List.length_cons]
theorem zVa {x:Nst} (h:simN x):rbF (brN x)=sOf AL x:=by
 have hn:=zFX h.1;have hne:brN x≠[]:=by unfold brN nfN;cases x.far<;>simp
 have hd:(brN x).dropLast=zAj x.f:=by unfold brN nfN;cases x.far<;>simp
 have hl:decide ((brN x).getLast? = Z 102)=x.far:=by unfold brN nfN;cases x.far<;>simp
 unfold rbF;rw [qN hne,hd,hl,hn];have:=h.is;rw [this];rfl
theorem zQi {x:Nst} (h:simN x):(60:UInt8) ∉ brN x/\(44:UInt8) ∉ brN x:=by
 have hf:=zKP h.1 h.2.1;unfold brN nfN;constructor
 ·intro e;rcases List.mem_append.1 e with e | e
  ·exact (hf _ e).2.1 rfl
  ·split at e<;>simp at e
 ·intro e;rcases List.mem_append.1 e with e | e
  ·exact (hf _ e).2.2 rfl
  ·split at e<;>simp at e
theorem zMX {y:Nst×Bool} (h:simN y.1):(60:UInt8) ∉ zEu y/\(44:UInt8) ∉ zEu y:=by
 have hf:=zQi h;unfold zEu zAt;constructor
 ·intro e;rcases List.mem_append.1 e with e | e
  ·exact hf.1 e
  ·split at e<;>simp at e
 ·intro e;rcases List.mem_append.1 e with e | e
  ·exact hf.2 e
  ·split at e<;>simp at e
theorem zTO:∀(ZP:List (Nst×Bool)) (P:List Sp),(∀y∈ZP,simN y.1)->zIb (ZP.map zEu) P=Z (P++ZP.map (pOf AL))
 | [],P,_=>by simp [zIb]
 | y :: ZP,P,h=>by
  have hy:=h y (List.mem_cons_self ..);have hne:zEu y≠[]:=by unfold zEu zAt;cases y.2<;>simp
  have hd:(zEu y).dropLast=brN y.1:=by unfold zEu zAt;cases y.2<;>simp
  have hl:decide ((zEu y).getLast? = Z 111)=y.2:=by unfold zEu zAt;cases y.2<;>simp
  rw [List.map_cons,zIb,qN hne,hd,hl,zVa hy,zTO ZP _ (fun z hz=>h z (List.mem_cons_of_mem _ hz))];simp [pOf]
theorem zQj {c s:UInt8} (hcs:c≠s):∀{ps:List (List UInt8)},(∀p∈ps,c ∉ p)->c ∉ Lib.join ps [s]
 | [],_=>by simp [Lib.join_nil]
 | [x],h=>by rw [Lib.join_one];exact h x (List.mem_cons_self ..)
 | x :: y :: r,h=>by
  have ih:=zQj hcs (ps:=y :: r) fun p hp=>h p (List.mem_cons_of_mem _ hp)
  rw [zGL];intro e;rcases List.mem_append.1 e with e | e
  ·rcases List.mem_append.1 e with e | e
   ·exact h x (List.mem_cons_self ..) e
   ·simp at e;exact hcs e
  ·exact ih e
theorem zVb {x:Nst} (hx:simN x) {ZP:List (Nst×Bool)} (hQ:∀y∈ZP,simN y.1) (f:Int):zQg f (zAI 60 (zHW ZP x))=⟨3,f,sOf AL x,ZP.map (pOf AL),E⟩:=by
 have hb:=zQi hx;have hr:=zVa hx;unfold zHW zQg
 cases ZP with
 | nil =>
  rw [qP rfl,List.nil_append,zDp hb.1];simp [xa,hr]
 | cons y ZP =>
  have hj:(60:UInt8) ∉ Lib.join ((y :: ZP).map zEu) [44]:=zQj (by decide) fun p hp=>by
   obtain ⟨z,hz,rfl⟩:=List.mem_map.1 hp;exact (zMX (hQ z hz)).1
  have hs:zAI 44 (Lib.join ((y :: ZP).map zEu) [44])=(y :: ZP).map zEu:=zDK (by simp) fun p hp=>by
   obtain ⟨z,hz,rfl⟩:=List.mem_map.1 hp;exact (zMX (hQ z hz)).2
  have hi:(if y :: ZP=[] then [] else Lib.join ((y :: ZP).map zEu) [44]++[60])=Lib.join ((y :: ZP).map zEu) [44]++[60]:=qN (by simp);rw [hi,List.append_assoc,List.singleton_append,zCt hj,zDp hb.1]
  simp only [List.length_cons,List.length_nil,if_true,show xa [Lib.join ((y :: ZP).map zEu) [44],brN x] 0=Lib.join ((y :: ZP).map zEu) [44] from rfl,
   show xa [Lib.join ((y :: ZP).map zEu) [44],brN x] (0+1+1-1)=brN x from rfl,hs,zTO _ _ hQ,List.nil_append,hr]
theorem zEN (A:List UInt8) (b:Bool):(A++zAt b).dropLast=A/\ovL (A++zAt b)=b/\A++zAt b≠[]:=by
 unfold ovL zAt
 cases b<;>simp
theorem zWT {n:Nop} (h:okN n) (hc:zWk n):zJE (zEv n)=oOf AL n:=by
 obtain ⟨hf,hk⟩:=h;obtain ⟨c1,c2,c3⟩:=hc;obtain ⟨k,f,fr,path,over⟩:=n;unfold zGt at hk;simp only at hf hk c1 c2 c3;have hn:=zFX hf;have hnf:=zKP hf c1;have hl:=zJv hf c1;have hlen:(zAj f).length=2:=by rw [hl];rfl
 have key:∀(b:UInt8) (R:List UInt8),nmC b=E->zJE (zAj f++b :: R)=zHG b (zAN AL f) R:=fun b R hb=>by
  unfold zJE;rw [zQh _ b R (fun x hx=>(hnf x hx).1) hb,qN (by simp)];rw [List.take_left,hn]
  congr 1
  ·simp
  ·rw [List.drop_append];simp
 have hi:zEv ⟨k,f,fr,path,over⟩=zAj f++(zCU k++zPK ⟨k,f,fr,path,over⟩):=by unfold zEv;simp
 rw [hi];unfold zPK;simp only;rcases hk with ⟨e,h1,h2,h3⟩ | ⟨e,h1,h2⟩ | ⟨e,⟨x,hx,hxo⟩,hp,h3⟩ | ⟨e,⟨x,hx,hxo⟩,hp⟩ | ⟨e,⟨g,hx,hg⟩,hp⟩
 ·subst h1;subst h2;subst h3
  rcases e with rfl | rfl | rfl
  ·exact (key 45 _ (by decide)).trans rfl
  ·exact (key 94 _ (by decide)).trans rfl
  ·exact (key 33 _ (by decide)).trans rfl
 ·subst e;subst h1;subst h2
  refine (key 126 (zAt over) (by decide)).trans ?_;have:=(zEN [] over).2.1;rw [List.nil_append] at this;unfold zHG;rw [qN (by decide),qN (by decide),qN (by decide),qP rfl,this];rfl
 ·subst e;subst h3;subst hx
  have hxs:simN x:=⟨hxo.1,c2 x rfl⟩;have hps:∀y∈path,simN y.1:=fun y hy=>⟨(hp y hy).1,c3 y hy⟩
  refine (key 60 (zHW path x) (by decide)).trans ?_;unfold zHG;rw [qN (by decide),qN (by decide),qN (by decide),qN (by decide),qN (by decide),qN (by decide),qN (by decide),qP rfl];exact zVb hxs hps _
 ·subst e;subst hp;subst hx
  have hxs:simN x:=⟨hxo.1,c2 x rfl⟩;refine (key 61 (brN x++zAt over) (by decide)).trans ?_;obtain ⟨l1,l2,l3⟩:=zEN (brN x) over;unfold zHG;rw [qN (by decide),qN (by decide),qN (by decide),qN (by decide),qP rfl];rw [l1,l2,qN l3,zVa hxs];rfl
 ·subst hp;subst hx
  have hgn:=zFX hg;obtain ⟨l1,l2,l3⟩:=zEN (zAj g) over;rcases e with rfl | rfl
  ·refine (key 42 (zAj g++zAt over) (by decide)).trans ?_;unfold zHG;rw [qN (by decide),qN (by decide),qN (by decide),qN (by decide),qN (by decide),qP rfl];rw [l1,l2,qN l3,hgn];rfl
  ·refine (key 37 (zAj g++zAt over) (by decide)).trans ?_;unfold zHG;rw [qN (by decide),qN (by decide),qN (by decide),qN (by decide),qN (by decide),qN (by decide),qP rfl];rw [l1,l2,qN l3,hgn];rfl
noncomputable def okJ (S:List UInt8):Bool:=zAf 126 (zJE S)&&zBN AL (zJE S)&&decide (zAZ AL (zJE S)=S)
theorem zMY {S:List UInt8} {n:Nop} (L:List Fg) (h:zAD S=Z n):okJ S=Q/\zRv L (zJE S)=oOf L n/\zQb L (zJE S) = !zAy L n:=by
 obtain ⟨h1,h2,rfl⟩:=zCu h;have hl:=zPX h1;obtain ⟨k1,k2⟩:=zXT (L:=AL) h1 hl;have hs:=zWT h1 h2;rw [hs];refine ⟨?_,(zQd L h1).1,(zQd L h1).2⟩;unfold okJ;rw [hs,(zMS k1).2 (by rw [k2];exact h2),<-zKH k1,k2];rw [zHD] at k1;rw [k1];simp
theorem zSm {S:List UInt8} (h:zAD S=U):okJ S=E:=by
 cases e:okJ S with
 | false=>rfl
 | true =>
  unfold okJ at e;simp only [Bool.and_eq_true,decide_eq_true_eq] at e;have h1:zAf AL.length (zJE S)=Q:=by rw [zHD];exact e.1.1
  have:=zPM (zWE zLX h1).1 ((zMS h1).1 e.1.2);rw [zKH h1,e.2,h] at this
  cases this
theorem zDu {S:List UInt8} {i:Nat} {b:UInt8} (h:S[i]? = Z b) (w:ZY):(Instr.index 9 (W (bA S)) (D J (i:Int))).run ZX w=.ok (D .u8 b.toNat) w:=by
 have hl:i < S.length:=(List.getElem?_eq_some_iff.1 h).1;have hs:i < (bA S).size:=by rw [zAH];exact hl
 obtain ⟨b',h1,h2⟩:=zPN (S:=S) (pos:=i) hl hs;rw [h] at h1;have h1:b=b':=Option.some.inj h1;rw [run_index_string w 9 (bA S) J (i:Int) Tryz.underlying9,dif_pos ⟨by omega,by omega⟩];simp only [Int.toNat_natCast];rw [h2,h1]
theorem zVc {S:List UInt8} {i j:Nat} (h:i<=j) (hj:j<=S.length) (w:ZY):(Instr.slice 9 (W (bA S)) (Z (D J (i:Int))) (Z (D J (j:Int))) U).run ZX w=.ok (W (bA ((S.take j).drop i))) w:=by
 rw [run_slice_string w 9 (bA S) J J (i:Int) (j:Int) Tryz.underlying9 (by omega) (by omega) (by rw [zAH];omega),zBE];simp
theorem zDv {S:List UInt8} {j:Nat} (hj:j<=S.length) (w:ZY):(Instr.slice 9 (W (bA S)) U (Z (D J (j:Int))) U).run ZX w=.ok (W (bA (S.take j))) w:=by
 rw [run_slice_string_h w 9 (bA S) Tryz.underlying9 J (j:Int) (by omega) (by rw [zAH];omega),zBE];simp
theorem zSn {S:List UInt8} {i:Nat} (hi:i<=S.length) (w:ZY):(Instr.slice 9 (W (bA S)) (Z (D J (i:Int))) U U).run ZX w=.ok (W (bA (S.drop i))) w:=by
 rw [run_slice_string_l w 9 (bA S) Tryz.underlying9 J (i:Int) (by omega) (by rw [zAH];omega),zBE,zAH];simp
theorem zJF {S:List UInt8} (h:¬(S≠[]/\S.length<=9/\S.head?≠Z 48/\S.all zHZ=Q)):zJB S=0:=by unfold zJB;rw [zDr h]
theorem zKQ (S:List UInt8) (w:ZY) :
  Calls ZX 131 #[W (bA S)] w fun e w'=>e=.returned (D J (zJB S))/\ZZ w.heap.size w w':=by
 have hs:=zBz S;obtain ⟨V,HC⟩:∃v,Hid (zJB S=v):=⟨_,qH rfl⟩
 rw [show zJB S=V from HC.out];obtain ⟨nS,dm⟩:∃n,S.length=n:=⟨_,rfl⟩
 rw [dm] at hs;have HB:=qH (M w.heap.size w);by_cases h0:S=[]
 ·have hr:=qH (show V=0 from HC.out.symm.trans (zJF fun h=>h.1 h0));have i0:((nS:Int)==0)=Q:=by rw [<-dm,h0];rfl
  clear h0 dm;go_enter Tryz.func131,Tryz.ntmps131;go_wp2_with fail
  go_ret;exact ⟨zGD hr.out.symm,HB.out⟩
 have i0:((nS:Int)==0)=E:=by
  have:S.length≠0:=fun e=>h0 (List.length_eq_zero_iff.1 e)
  simp only [beq_eq_false_iff_ne,ne_eq];omega
 by_cases hl:9 < nS
 ·have hr:=qH (show V=0 from HC.out.symm.trans (zJF fun h=>by omega));have i1:(9:Int) < (nS:Int):=by omega
  clear h0 dm hl;go_enter Tryz.func131,Tryz.ntmps131;go_wp2_with fail
  go_ret;exact ⟨zGD hr.out.symm,HB.out⟩
 have i1:¬(9:Int) < (nS:Int):=by omega
 obtain ⟨x,r,hx⟩:∃x r,S=x :: r:=by
  cases S with
  | nil=>exact absurd rfl h0
  | cons x r=>exact ⟨x,r,rfl⟩
 have s1:=zCX x r;rw [<-hx] at s1;by_cases h48:x=48
 ·have hr:=qH (show V=0 from HC.out.symm.trans (zJF fun h=>h.2.2.1 (by rw [hx,h48];rfl)));rw [show ((x.toNat:Nat):Int)=48 from by rw [h48];rfl] at s1;clear h0 dm hl h48 hx;go_enter Tryz.func131,Tryz.ntmps131;go_wp2_with fail
  go_ret;exact ⟨zGD hr.out.symm,HB.out⟩
 have k1:((x.toNat:Int)==48)=E:=by
  simp only [beq_eq_false_iff_ne,ne_eq];intro e;exact h48 (UInt8.toNat.inj (show x.toNat=48 by omega))
 have HS:=qH (show S≠[]/\S.length<=9/\S.head?≠Z 48 from ⟨h0,by omega,by rw [hx];simpa using h48⟩);have HN:=qH dm;have Ca:nS<=9:=by omega
 clear h0 dm hl h48 hx;go_enter Tryz.func131,Tryz.ntmps131;go_wp2_with fail
 go_loopw [3,4] (fun v3 v4 wr=>∃(pos ZS:Nat) (X:ZY),X=wr/\v3=D J ZS/\v4=D J pos/\pos<=nS/\ZZ w.heap.size w X/\Hid (ZS=zGG 0 (S.take pos))/\Hid (∀b∈S.take pos,zHZ b=Q)) (fun _ v4 _=>nS-(intOf v4).toNat)
 case atStart=>exact ⟨0,0,_,rfl,rfl,rfl,by omega,HB.out,qH rfl,qH (by simp)⟩
 case round =>
  obtain ⟨pos,ZS,X,hX,rfl,rfl,hpos,hb,HV,HD⟩:=hrel;subst hX;by_cases hp:pos < nS
  ·have j0:(pos:Int) < (nS:Int):=by omega
   obtain ⟨b,ay⟩:∃b,S[pos]? = Z b:=⟨_,List.getElem?_eq_getElem (by rw [HN.out];exact hp)⟩
   have hnx:=zDu ay;by_cases hd:zHZ b=Q
   ·obtain ⟨d1,d2⟩:=zFm hd;obtain ⟨B,hB⟩:∃B:Nat,b.toNat=B:=⟨_,rfl⟩
    rw [hB] at hnx d1 d2;have j1:¬((B:Int) < 48):=by omega
    have j2:¬((57:Int) < (B:Int)):=by omega
    have hV:ZS < 1000000000:=by
     have:=zTL _ HD.out;rw [<-HV.out] at this;have h3:(S.take pos).length<=9:=by rw [List.length_take];omega
     have:=Nat.pow_le_pow_right (n:=10) (by omega) h3;omega
    have iv:=qH (show zGG 0 (S.take (pos+1))=10*ZS+(B-48)/\∀y∈S.take (pos+1),zHZ y=Q by
     rw [zMT ay,HV.out,hB]
     refine ⟨rfl,fun y hy=>?_⟩
     rw [List.take_add_one,ay] at hy
     rcases List.mem_append.1 hy with hy | hy
     ·exact HD.out y hy
     ·simp at hy;rw [hy];exact hd)
    clear hd ay hB HV HD;go_wp2_with fail
    go_roundw
    case rel=>exact ⟨pos+1,10*ZS+(B-48),_,rfl,by congr 1;simp;omega,by go_num,by omega,hb,qH iv.out.1.symm,qH iv.out.2⟩
    case measure=>simp [intOf];omega
   ·have hr:=qH (show V=0 from HC.out.symm.trans (zJF fun h=>hd ((List.all_eq_true.1 h.2.2.2) b (List.mem_of_getElem? ay))));obtain ⟨B,hB⟩:∃B:Nat,b.toNat=B:=⟨_,rfl⟩
    rw [hB] at hnx;have rj:=qH hb;by_cases hlt:(B:Int) < 48
    ·clear hd ay hB HV HD hb;go_wp2_with fail
     go_ret;exact ⟨zGD hr.out.symm,rj.out⟩
    ·have hgt:(57:Int) < (B:Int):=by
      have:¬(48<=b.toNat/\b.toNat<=57):=fun e=>hd (by simp [zHZ,e])
      omega
     clear hd ay hB HV HD hb;go_wp2_with fail
     go_ret;exact ⟨zGD hr.out.symm,rj.out⟩
  ·have j0:¬(pos:Int) < (nS:Int):=by omega
   have hr:=qH (show V=(ZS:Int) by
    have hpe:pos=nS:=by omega
    have h1:S.take pos=S:=by rw [hpe,<-HN.out,List.take_length]
    have h2:=HD.out
    have h3:=HV.out
    rw [h1] at h2 h3
    rw [<-HC.out]
    unfold zJB zAs
    rw [qP ⟨HS.out.1,HS.out.2.1,HS.out.2.2,List.all_eq_true.2 h2⟩,h3])
   have rj:=qH hb;clear HV HD HN HS hb;go_wp2_with fail
   go_ret;exact ⟨zGD hr.out.symm,rj.out⟩
theorem zII {S:List UInt8} {v:Int} (h:zJB S=v) (w:ZY):Calls ZX 131 #[W (bA S)] w fun e w'=>e=.returned (D J v)/\ZZ w.heap.size w w':=by
 subst h;exact zKQ S w
def SplQ (c:UInt8) (S:List UInt8) (fr i:Nat) (T:List (List UInt8)):Prop :=
 (i<=S.length->fr<=i/\zAI c S=T++zAI c (S.drop fr)/\c ∉ (S.take i).drop fr)/\(i=S.length+1->T=zAI c S)
section
variable {c b:UInt8} {S:List UInt8} {fr i:Nat} {T:List (List UInt8)}
theorem zSo (hf:fr<=i) (h:S[i]? = Z b):S.drop fr=(S.take i).drop fr++b :: S.drop (i+1):=by
 have hi:=(List.getElem?_eq_some_iff.1 h).1;have h2:S.drop i=b :: S.drop (i+1):=by
  rw [List.drop_eq_getElem_cons hi]
  congr 1
  rw [List.getElem?_eq_getElem hi] at h;injection h
 rw [<-h2]
 conv=>lhs;rw [<-List.take_append_drop i S]
 rw [List.drop_append_of_le_length (by rw [List.length_take];omega)]
theorem SplQ.start:SplQ c S 0 0 []:=⟨fun _=>⟨O _,by simp,by simp⟩,fun h=>by omega⟩
theorem SplQ.hit (h:SplQ c S fr i T) (hb:S[i]? = Z c):SplQ c S (i+1) (i+1) (T++[(S.take i).drop fr]):=by
 have hi:=(List.getElem?_eq_some_iff.1 hb).1;obtain ⟨h1,h2,h3⟩:=h.1 (by omega);refine ⟨fun _=>⟨O _,?_,by simp⟩,fun e=>by omega⟩;rw [h2,zSo h1 hb,zCt h3];simp
theorem SplQ.miss (h:SplQ c S fr i T) (hb:S[i]? = Z b) (hne:b≠c):SplQ c S fr (i+1) T:=by
 have hi:=(List.getElem?_eq_some_iff.1 hb).1;obtain ⟨h1,h2,h3⟩:=h.1 (by omega);refine ⟨fun _=>⟨by omega,h2,?_⟩,fun e=>by omega⟩;rw [List.take_add_one,hb,List.drop_append_of_le_length (by rw [List.length_take];omega)];intro e;rcases List.mem_append.1 e with e | e
 ·exact h3 e
 ·simp at e;exact hne e.symm
theorem SplQ.last (h:SplQ c S fr S.length T):SplQ c S (S.length+1) (S.length+1) (T++[(S.take S.length).drop fr]):=by
 obtain ⟨h1,h2,h3⟩:=h.1 (O _);refine ⟨fun e=>by omega,fun _=>?_⟩;rw [List.take_length] at h3 ⊢;rw [h2,zDp h3]
theorem SplQ.fr_le (h:SplQ c S fr i T) (hi:i<=S.length):fr<=i:=(h.1 hi).1
end
theorem zOd (S:List UInt8) (c:UInt8) (hS:S.length<=100000) (w:ZY) :
  Calls ZX 66 #[W (bA S),D .u8 (c.toNat:Int)] w (zDe w (zAI c S)):=by
 have hs:=zBz S;obtain ⟨nS,dm⟩:∃n,S.length=n:=⟨_,rfl⟩
 rw [dm] at hs hS;have HN:=qH dm;obtain ⟨C,hC⟩:∃C:Nat,c.toNat=C:=⟨_,rfl⟩
 rw [hC];have HC:=qH hC;clear hC dm;go_enter Tryz.func66,Tryz.ntmps66;go_wp2_with fail
 go_loopw [5,6,7] (fun v5 v6 v7 wv=>∃(i fr:Nat) (X:ZY) (A:Option Addr) (m d:Nat) (T:List (List UInt8)),X=wv/\i<=nS+1/\v7=D J i/\v6=D J fr/\v5=H A m d/\Row X w.heap.size 1 A m d (T.map zDE)/\m<=i/\ZZ w.heap.size w X/\Hid (SplQ c S fr i T)) (fun _ _ v7 _=>nS+1-(intOf v7).toNat)
 case atStart=>exact ⟨0,0,_,U,0,0,[],rfl,by omega,rfl,rfl,rfl,Row.none_ _ _ _,O _,M _ _,qH SplQ.start⟩
 case round =>
  obtain ⟨i,fr,X,A,m,d,T,hX,hi,rfl,rfl,rfl,hR,hm,hb,HQ⟩:=hrel;subst hX;have hz:w.heap.size<=X.heap.size:=hb.size;by_cases hlt:i<=nS
  ·have j0:(i:Int)<=(nS:Int):=by omega
   have hfr:fr<=i:=HQ.out.fr_le (by rw [HN.out];exact hlt);have hsl:=zVc (S:=S) (i:=fr) (j:=i) hfr (by rw [HN.out];exact hlt);by_cases he:i=nS
   ·have j1:((i:Int)==(nS:Int))=Q:=by rw [he];simp
    have nX:=qH (show SplQ c S (i+1) (i+1) (T++[(S.take i).drop fr]) by
     have h1:i=S.length:=by rw [HN.out];exact he
     have h2:=HQ.out
     rw [h1] at h2 ⊢
     exact h2.last)
    obtain ⟨P,hP⟩:∃P,(S.take i).drop fr=P:=⟨_,rfl⟩
    rw [hP] at hsl nX;clear hP HQ he;go_wp2_with (at_builtin;refine zLD rfl _ _ rfl hR P rfl rfl (m+1) rfl (by omega) hz ?_;intro A2 c2 w9 hR9 bn)
    have co:=hb.trans bn;clear hR hb bn;go_wp2_with fail
    go_roundw
    case rel=>exact ⟨i+1,i+1,_,A2,m+1,c2,T++[P],rfl,by omega,by go_num,by go_num,rfl,hR9,by omega,co,nX⟩
    case measure=>simp [intOf];omega
   ·have j1:((i:Int)==(nS:Int))=E:=by simp only [beq_eq_false_iff_ne,ne_eq];omega
    obtain ⟨b,ay⟩:∃b,S[i]? = Z b:=⟨_,List.getElem?_eq_getElem (by rw [HN.out];omega)⟩
    have hnx:=zDu ay;by_cases hq:b=c
    ·have j2:((b.toNat:Int)==(C:Int))=Q:=by rw [hq,HC.out];simp
     have nX:=qH (HQ.out.hit (by rw [ay,hq]));obtain ⟨P,hP⟩:∃P,(S.take i).drop fr=P:=⟨_,rfl⟩
     rw [hP] at hsl nX;generalize b.toNat=B at hnx j2;clear hP HQ he ay hq;go_wp2_with (at_builtin;refine zLD rfl _ _ rfl hR P rfl rfl (m+1) rfl (by omega) hz ?_;intro A2 c2 w9 hR9 bn)
     have co:=hb.trans bn;clear hR hb bn;go_wp2_with fail
     go_roundw
     case rel=>exact ⟨i+1,i+1,_,A2,m+1,c2,T++[P],rfl,by omega,by go_num,by go_num,rfl,hR9,by omega,co,nX⟩
     case measure=>simp [intOf];omega
    ·have j2:((b.toNat:Int)==(C:Int))=E:=by
      simp only [beq_eq_false_iff_ne,ne_eq];intro e;exact hq (UInt8.toNat.inj (by rw [HC.out];omega))
     have nX:=qH (HQ.out.miss ay hq);generalize b.toNat=B at hnx j2;clear HQ he ay hq hsl;go_wp2_with fail
     go_roundw
     case rel=>exact ⟨i+1,fr,_,A,m,d,T,rfl,by omega,by go_num,rfl,rfl,hR,by omega,hb,nX⟩
     case measure=>simp [intOf];omega
  ·have j0:¬(i:Int)<=(nS:Int):=by omega
   have hT:=qH (show T=zAI c S from HQ.out.2 (by rw [HN.out];omega));clear HQ;go_wp2_with fail
   go_ret;exact ⟨A,m,d,rfl,by rw [<-hT.out];exact hR,by omega,hb⟩
theorem zFu {S:List UInt8} {c:UInt8} {T:List (List UInt8)} (h:zAI c S=T) (hS:S.length<=100000) (w:ZY) :
  Calls ZX 66 #[W (bA S),D .u8 (c.toNat:Int)] w (zDe w T):=by
 subst h;exact zOd S c hS w
noncomputable def rsE (L:List Fg) (re lo:Int) (S:List UInt8):Int:=if zAC L re lo S=0 then itE L S else zAC L re lo S
noncomputable def rsO (L:List Fg) (re lo:Int) (S:List UInt8):List Og:=if zAC L re lo S=0 then itO L S else []
theorem zHH (F:Fm) (S:List UInt8) (w:ZY) (hA:Fgs w F.A F.n F.L) (hc:F.n<=F.c) (ht:Tabs w) :
  Calls ZX 31 #[frV F.A F.n F.c F.re F.lo,W (bA S)] w (zDX w (rsO F.L F.re F.lo S) (rsE F.L F.re F.lo S)):=by
 have ah:ZZ w.heap.size w (w.alloc (.cells #[H F.A F.n F.c,D J F.re,D J F.lo] 24)):=(M _ _).alloc (O _) _;have hk0:Blk (w.alloc (.cells #[H F.A F.n F.c,D J F.re,D J F.lo] 24)) w.heap.size 24 #[H F.A F.n F.c,D J F.re,D J F.lo]:=Blk.new _ _ _;have HA:=qH hA;have HT:=qH ht;obtain ⟨ZQ,hE⟩:∃ZQ,zAC F.L F.re F.lo S=ZQ:=⟨_,rfl⟩
 have lE:=qH (fun wx (hx:Fgs wx F.A F.n F.L)=>zDs F.A F.n F.c F.L F.re F.lo S wx hx hc);simp only [hE] at lE;have HE:=qH hE;clear hA ht hE;go_enter Tryz.func31,Tryz.ntmps31;go_wp2_with fail
 generalize w.alloc (.cells #[H F.A F.n F.c,D J F.re,D J F.lo] 24)=Y at ah hk0 ⊢;refine (lE.out Y (HA.out.below ah)).mono ?_;rintro e Y2 ⟨rfl,ai⟩;have bt:=hk0.below ai hk0.lt;have al:=zAa ah ai ah.size;clear hk0 ah ai lE;by_cases h0:ZQ=0
 ·subst h0;have hS:=(zBZ HE.out).1;have HR:=qH (show rsE F.L F.re F.lo S=itE F.L S/\rsO F.L F.re F.lo S=itO F.L S by unfold rsE rsO;rw [HE.out];exact ⟨rfl,rfl⟩);have jV:=qH (zHF F S Y2 (HA.out.below al) (by omega) (HT.out.below al));obtain ⟨v0,v1,v2⟩:=cQ3 bt;have hz:w.heap.size<=Y2.heap.size:=al.size;have rj:=qH al;clear hS bt al;go_wp2_with fail
  refine jV.out.mono ?_;rintro e Y3 ⟨B,m,d,Es,rfl,hO,hm,hE,bh⟩;have HF:=qH (show zDX w (rsO F.L F.re F.lo S) (rsE F.L F.re F.lo S) (.returned (.tuple #[H B m d,D J (itE F.L S)])) Y3 by rw [HR.out.1,HR.out.2];exact ⟨B,m,d,Es,rfl,hO,hm,hE.mono hz,zAa rj.out bh rj.out.size⟩);clear hO hE bh hm HR;go_wp2_with fail
  go_ret2;exact HF.out
 ·have HF:=qH (show zDX w (rsO F.L F.re F.lo S) (rsE F.L F.re F.lo S) (.returned (.tuple #[H U 0 0,D J ZQ])) Y2 by
   have h1:rsE F.L F.re F.lo S=ZQ/\rsO F.L F.re F.lo S=[]:=by unfold rsE rsO;rw [HE.out,qN h0,qN h0];exact ⟨rfl,rfl⟩
   rw [h1.1,h1.2]
   exact ⟨U,0,0,[],rfl,rfl,by omega,OpsOwn.none_ _ _,al⟩)
  have k0:(ZQ != 0)=Q:=by simpa using h0
  clear bt al h0;go_wp2_with fail
  go_ret2;exact HF.out
theorem zXW (w:ZY):(Instr.build 183 #[]).run ZX w=.ok (.agg #[]) w:=run_build w _ _ _ (by kernel_rfl)
theorem zXX (w:ZY):(Instr.build 184 #[]).run ZX w=.ok (.agg #[]) w:=run_build w _ _ _ (by kernel_rfl)
def zKb (k:Int):Value:=if k=1 then .iface 183 (.agg #[]) else if k=2 then .iface 184 (.agg #[]) else .nilIface
theorem zKR (k:Int) (w:ZY):Calls ZX 89 #[D J k] w fun e w'=>e=.returned (zKb k)/\w'=w:=by
 by_cases h1:k=1
 ·subst h1;go_enter Tryz.func89,Tryz.ntmps89;go_wp2_with fail
  go_ret;exact ⟨rfl,rfl⟩
 ·by_cases h2:k=2
  ·subst h2;go_enter Tryz.func89,Tryz.ntmps89;go_wp2_with fail
   go_ret;exact ⟨rfl,rfl⟩
  ·have HV:=qH (show zKb k=.nilIface by unfold zKb;rw [qN h1,qN h2]);have m1:(k==1)=E:=by simpa using h1
   have m2:(k==2)=E:=by simpa using h2
   rw [HV.out];clear h1 h2;go_enter Tryz.func89,Tryz.ntmps89;go_wp2_with fail
   go_ret;exact ⟨rfl,rfl⟩
theorem zOe (A:Option Addr) (n c:Nat) (L:List Fg) (re lo:Int) (o:Og) (B:Option Addr) (m d:Nat) (b:Nat) (w:ZY) (hA:Fgs w A n L) (hk:Blk w b 24 #[H A n c,D J re,D J lo]) (hO:OpIn w o B m d) (hr:zAf n o=Q) :
  Calls ZX 141 #[opV o B m d,.pointer (Z ⟨b,0,U⟩)] w fun e w'=>e=.returned (G (!zBN L o))/\ZZ w.heap.size w w':=by
 have ah:ZZ w.heap.size w (w.alloc (.cells #[D J o.kind,D J o.f,D J o.fr.f,D J o.fr.l,G o.fr.far,D J o.fr.pc,H B m d,G o.over] 32)):=(M _ _).alloc (O _) _;have hk2:=hk.alloc (.cells #[D J o.kind,D J o.f,D J o.fr.f,D J o.fr.l,G o.fr.far,D J o.fr.pc,H B m d,G o.over] 32);have y0:=(hk2.cell 0).trans rfl;have y1:=(hk2.cell 1).trans rfl;have y2:=(hk2.cell 2).trans rfl;have HC:=qH (zKt A n c L re lo o B m d _ (hA.below ah) (hO.below ah) hr);go_enter Tryz.func141,Tryz.ntmps141;go_wp2_with fail
 refine HC.out.mono ?_;rintro e w2 ⟨rfl,ai⟩;have al:=zAa ah ai ah.size;clear y0 y1 y2;go_wp2_with fail
 go_ret;exact ⟨rfl,al⟩
theorem zVd {L:List Fg} {o:Og} {q:Bool} (h:zBN L o=q) (A:Option Addr) (n c:Nat) (re lo:Int) (B:Option Addr) (m d:Nat) (b:Nat) (w:ZY) (hA:Fgs w A n L) (hk:Blk w b 24 #[H A n c,D J re,D J lo]) (hO:OpIn w o B m d) (hr:zAf n o=Q) :
  Calls ZX 141 #[opV o B m d,.pointer (Z ⟨b,0,U⟩)] w fun e w'=>e=.returned (G (!q))/\ZZ w.heap.size w w':=by
 subst h;exact zOe A n c L re lo o B m d b w hA hk hO hr
theorem zVe {L:List Fg} {Es:List Oe} (h:∀j,j < Es.length->zBN L (oa Es j).o=Q):(Es.all fun x=>zBN L x.o)=Q:=by
 rw [List.all_eq_true];intro x hx;obtain ⟨i,hi⟩:=List.getElem?_of_mem hx;have hlt:=(List.getElem?_eq_some_iff.1 hi).1;have h3:=zBC hlt;rw [hi] at h3;injection h3 with h3
 rw [h3];exact h i hlt
theorem zOf {L:List Fg} {Es:List Oe} {i:Nat} (hi:i < Es.length) (h:zBN L (oa Es i).o=E):(Es.all fun x=>zBN L x.o)=E:=by
 cases e:(Es.all fun x=>zBN L x.o) with
 | false=>rfl
 | true=>rw [List.all_eq_true] at e;have:=e _ (List.mem_of_getElem? (zBC hi));rw [h] at this;cases this
theorem zGc (A:Option Addr) (n c:Nat) (L:List Fg) (re lo:Int) (b:Nat) (B:Option Addr) (m d:Nat) (Es:List Oe) (w:ZY) (hA:Fgs w A n L) (hk:Blk w b 24 #[H A n c,D J re,D J lo]) (hP:Oprs w B m Es) (hf:∀i,i < Es.length->zAf n (oa Es i).o=Q) :
  Calls ZX 174 #[H B m d,.func (.func 141) #[] #[.pointer (Z ⟨b,0,U⟩)]] w
   fun e w'=>∃k:Int,e=.returned (D J k)/\zOO (Es.all fun x=>zBN L x.o) k/\ZZ w.heap.size w w':=by
 have hle:=hP.le;have aL:=qH hP.len;have HF:=qH hf;clear hf;go_enter Tryz.func174,Tryz.ntmps174;go_wp2_with fail
 go_loopw [8] (fun v wr=>∃i:Nat,i<=m/\v=D J i/\ZZ w.heap.size w wr/\Hid (∀j:Nat,j < i->zBN L (oa Es j).o=Q)) (fun v _=>m-(intOf v).toNat)
 case atStart=>exact ⟨0,Nat.zero_le _,rfl,M _ _,qH (fun j hj=>by omega)⟩
 case round =>
  obtain ⟨i,hi,rfl,hbr,HS⟩:=hrel;by_cases hlt:i < m
  ·obtain ⟨g,p,rfl,hg,⟨x0,x1,x2,x3,x4,x5,x6,x7⟩,hin⟩:=(hP.below hbr).at_ hlt;have j0:(0:Int)<=(i:Int):=by omega
   have j1:(i:Int) < (m:Int):=by omega
   have hil:i < Es.length:=by rw [aL.out];exact hlt
   obtain ⟨q,hq⟩:∃q,zBN L (oa Es i).o=q:=⟨_,rfl⟩
   have HQ:=qH hq;have HC:=qH (zVd hq A n c re lo _ _ _ b wr (hA.below hbr) (hk.below hbr hk.lt) hin (HF.out i hil));have lC:=qH hil;clear hq hil hin;generalize oa Es i=x at x0 x1 x2 x3 x4 x5 x6 x7 HC;obtain ⟨⟨kk,ff,⟨gf,gl,gfar,gpc⟩,path,vov⟩,B2,m2,d2⟩:=x;simp only at x0 x1 x2 x3 x4 x5 x6 x7
   cases q with
   | true =>
    have cR:=qH (show ∀j:Nat,j < i+1->zBN L (oa Es j).o=Q from fun j hj=>by
     rcases Nat.decEq j i with e | e
     ·exact HS.out j (by omega)
     ·subst e;exact HQ.out)
    clear HS HQ lC;go_wp2_with fail
    refine HC.out.mono ?_;rintro e w5 ⟨rfl,az⟩;have aM:=zAa hbr az hbr.size;clear x0 x1 x2 x3 x4 x5 x6 x7;go_wp2_with fail
    go_roundw
    case rel=>exact ⟨i+1,by omega,by go_num,aM,cR⟩
    case measure=>simp [intOf];omega
   | false =>
    have hr:=qH (show zOO (Es.all fun x=>zBN L x.o) (i:Int) by rw [zOf lC.out HQ.out];unfold zOO;rw [qN (by decide)];omega);clear HS HQ lC;go_wp2_with fail
    refine HC.out.mono ?_;rintro e w5 ⟨rfl,az⟩;have aM:=zAa hbr az hbr.size;clear x0 x1 x2 x3 x4 x5 x6 x7;go_wp2_with fail
    go_ret;exact ⟨_,rfl,hr.out,aM⟩
  ·have j1:¬(i:Int) < (m:Int):=by omega
   have hr:=qH (show zOO (Es.all fun x=>zBN L x.o) (-1) by rw [zVe (fun j hj=>HS.out j (by rw [aL.out] at hj;omega))];unfold zOO;rw [qP rfl]);clear HS;go_wp2_with fail
   go_ret;exact ⟨_,rfl,hr.out,hbr⟩
theorem zEw (A:Option Addr) (n c:Nat) (L:List Fg) (re lo:Int) (b:Nat) (B:Option Addr) (m d:Nat) (Es:List Oe) (w:ZY) (hA:Fgs w A n L) (hk:Blk w b 24 #[H A n c,D J re,D J lo]) (hP:Oprs w B m Es) (hf:∀i,i < Es.length->zAf n (oa Es i).o=Q) :
  Calls ZX 140 #[H B m d,.func (.func 141) #[] #[.pointer (Z ⟨b,0,U⟩)]] w
   fun e w'=>e=.returned (G (!(Es.all fun x=>zBN L x.o)))/\ZZ w.heap.size w w':=by
 have HC:=qH (zGc A n c L re lo b B m d Es w hA hk hP hf);go_enter Tryz.func140,Tryz.ntmps140;go_wp2_with fail
 refine HC.out.mono ?_;rintro e w2 ⟨k,rfl,hk2,ai⟩;have HK:=qH hk2;clear hk2;go_wp2_with fail
 go_ret;refine ⟨zBJ ?_,ai⟩;have h:=HK.out;unfold zOO at h
 cases hq:(Es.all fun x=>zBN L x.o) with
 | true=>rw [hq,qP rfl] at h;simp [h]
 | false=>rw [hq] at h;simp at h;simp [h]
theorem zWU (w:ZY):(Instr.typeAssert (.iface 184 (.agg #[])) 138 184 Q).run ZX w=.ok (.tuple #[.agg #[],G Q]) w:=by kernel_rfl
theorem zYk (w:ZY):(Instr.typeAssert (.iface 183 (.agg #[])) 138 184 Q).run ZX w=.ok (.tuple #[.agg #[],G E]) w:=by kernel_rfl
def zTP (L:List Fg) (k:Int) (Es:List Oe):Bool:=if k=2 then Es.all (fun x=>zBN L x.o) else Q
theorem zFv (A:Option Addr) (n c:Nat) (L:List Fg) (re lo:Int) (k:Int) (hk:k=1∨k=2) (B:Option Addr) (m d:Nat) (Es:List Oe) (w:ZY) (hA:Fgs w A n L) (hP:Oprs w B m Es) (hf:∀i,i < Es.length->zAf n (oa Es i).o=Q) :
  Calls ZX 90 #[zKb k,frV A n c re lo,H B m d] w fun e w'=>e=.returned (G (zTP L k Es))/\ZZ w.heap.size w w':=by
 have ah:ZZ w.heap.size w (w.alloc (.cells #[H A n c,D J re,D J lo] 24)):=(M _ _).alloc (O _) _;have hk0:Blk (w.alloc (.cells #[H A n c,D J re,D J lo] 24)) w.heap.size 24 #[H A n c,D J re,D J lo]:=Blk.new _ _ _;have HC:=qH (zEw A n c L re lo w.heap.size B m d Es _ (hA.below ah) hk0 (hP.below ah) hf);have ty:=zWU;have tn:=zYk;rcases hk with rfl | rfl
 ·rw [show zKb 1=.iface 183 (.agg #[]) from rfl];go_enter Tryz.func90,Tryz.ntmps90;go_wp2_with fail
  go_ret;exact ⟨rfl,ah⟩
 ·rw [show zKb 2=.iface 184 (.agg #[]) from rfl];have HR:=qH (show zTP L 2 Es=(Es.all fun x=>zBN L x.o) from rfl);go_enter Tryz.func90,Tryz.ntmps90;go_wp2_with fail
  refine HC.out.mono ?_;rintro e w2 ⟨rfl,ai⟩;have al:=zAa ah ai ah.size;go_wp2_with fail
  go_ret;exact ⟨zBJ (by rw [HR.out]),al⟩
