/-
  Lemmas for NotesLong, part 25: contracts and plain facts. Conditions: those that each theorem names.
-/
import Derived.Test.YtlmdfmnbcndhoaaGreatDoorLg24
import Derived.Test.YtlmdfmnbcndhoaaGreatDoorLg21
namespace Go.Proofs.YtlmdfmnbcndhoaaGreatDoor
open Go.RowKit
noncomputable def rlR (L:List Fg) (re lo:Int) (S:List UInt8):List Og×Nat×Int:=if zAK L re lo S=0 then zBZ L (zBo 10 S) [] else ([],0,zAK L re lo S)
def zVL:Value→Nat
 | .string s=>s.size
 | _=>0
theorem zNS (L:List Fg) (S:List UInt8):zES L S=0∨zES L S=6∨zES L S=8:=by
 unfold zES;split
 ·omega
 ·split<;>omega
theorem zPC {w:World} {base:Nat} {B:Option Addr} {m d:Nat} {P:List Sp} (h:Row w base 5 B m d (P.flatMap zIk)) (hm:m≤1000000) (hok:∀x∈P,SgOk x.s):Stps w B m P:=⟨h.els (fun _=>rfl) (by omega) (by omega),hok⟩
theorem zRw (L:List Fg) (S:List UInt8):(zHN L S).path.length≤2*S.length+2:=by
 by_cases h:∃n,okN n∧S=zDE n
 ·obtain ⟨n,h1,rfl⟩:=h;rw [(zGX L h1).2]
  cases zAF L n with
  | true=>simp [o0]
  | false =>
   show (n.path.map (pOf L)).length≤_;rw [List.length_map];have h2:=zGn (zDE n);rw [zEo] at h2;have h3:n.path.length≤(zJr n).length:=by
    by_cases hp:n.path=[]
    ·simp [hp]
    ·have hk:n.kind=3:=by
      rcases h1.2 with ⟨_,_,h,_⟩ | ⟨_,_,h⟩ | ⟨h,_⟩ | ⟨_,_,h⟩ | ⟨_,_,h⟩
      ·exact absurd h hp
      ·exact absurd h hp
      ·exact h
      ·exact absurd h hp
      ·exact absurd h hp
     have:=zMG n.path;unfold zJr tlT;rw [if_neg (by omega),if_pos hk];simp only [List.length_cons,List.length_append];omega
   omega
 ·rw [(zML L fun n h1 h2=>h ⟨n,h1,h2⟩).2];simp [o0]
set_option maxHeartbeats 12800000 in
set_option maxRecDepth 100000 in
theorem zHQ (F:Fm) (S:List UInt8) (w:World) (hA:Fgs w F.A F.n F.L) (hc:F.n≤F.c) (ht:Tabs w) :
  Calls Tryz.prog 23 #[frV F.A F.n F.c F.re F.lo,.string (bA S)] w (zPB w (rlR F.L F.re F.lo S).1 (rlR F.L F.re F.lo S).2.1 (rlR F.L F.re F.lo S).2.2):=by
 have hFL:F.L.length≤17592186043904:=by rw [hA.len];exact hA.le
 have hb0:Below w.heap.size w (w.alloc (.cells #[.slice F.A F.n F.c,.int .i64 F.re,.int .i64 F.lo] 24)):=(Below.refl _ _).alloc (Nat.le_refl _) _;have hk0:Blk (w.alloc (.cells #[.slice F.A F.n F.c,.int .i64 F.re,.int .i64 F.lo] 24)) w.heap.size 24 #[.slice F.A F.n F.c,.int .i64 F.re,.int .i64 F.lo]:=Blk.new _ _ _;have HA:=Lib.hid hA;have HT:=Lib.hid ht;obtain ⟨E,hE⟩:∃E,zAK F.L F.re F.lo S=E:=⟨_,rfl⟩
 have hcs:=zET F.L F.re F.lo S;rw [hE] at hcs;have HBG:=Lib.hid (fun wx (hx:Fgs wx F.A F.n F.L)=>zDv F.A F.n F.c F.L F.re F.lo S wx hx hc);simp only [hE] at HBG;have HE:=Lib.hid hE;have HR:Hid (rlR F.L F.re F.lo S=if E=0 then zBZ F.L (zBo 10 S) [] else ([],0,E)):=Lib.hid (by unfold rlR;rw [hE]);obtain ⟨⟨TO,TN,TE⟩,hTR⟩:∃x,rlR F.L F.re F.lo S=x:=⟨_,rfl⟩
 rw [hTR] at HR ⊢;simp only;have GIV:=Lib.hid (fun (O:List Og) (n:Nat) (er:Int) (hq:(O,n,er)=(TO,TN,TE)) (e:Ending) (wx:World) (h:zPB w O n er e wx)=>(show zPB w TO TN TE e wx by injection hq with h1 h2;injection h2 with h2 h3;subst h1;subst h2;subst h3;exact h));have FL:=Lib.hid hFL;clear hA ht hE hTR hFL;go_enter Tryz.func23,Tryz.ntmps23;go_wp2_with fail
 generalize w.alloc (.cells #[.slice F.A F.n F.c,.int .i64 F.re,.int .i64 F.lo] 24)=Y at hb0 hk0 ⊢;refine (HBG.out Y (HA.out.below hb0)).mono ?_;rintro e Y2 ⟨rfl,hb2⟩;have hf2:=hk0.below hb2 hk0.lt;have hb3:=zAa hb0 hb2 hb0.size;clear hk0 hb0 hb2 HBG;by_cases h0:E=0
 ·subst h0;have hS:=(zCh HE.out).1;have HR2:=Lib.hid (HR.out.trans (if_pos rfl));clear hcs HR;go_wp2_with fail
  go_loopw [1,8,9] (fun v1 v8 v9 wv=>∃(X:World) (R:List UInt8) (A':Option Addr) (i c':Nat) (Es:List Oe),X=wv∧v1=.string (bA R)∧v8=.slice A' i c'∧v9=.int .i64 i∧R.length+i≤8000∧OpsOwn X Y2.heap.size A' i c' Es∧Below Y2.heap.size Y2 X∧Hid (Es.length=i∧(TO,TN,TE)=zBZ F.L (zBo 10 R) (List.map (fun x:Oe=>x.o) Es))) (fun v1 _ _ _=>zVL v1)
  case atStart=>exact ⟨_,S,none,0,0,[],rfl,rfl,rfl,rfl,by omega,OpsOwn.none_ _ _,Below.refl _ _,Lib.hid ⟨rfl,HR2.out⟩⟩
  case round =>
   obtain ⟨X,R,A',i,c',Es,hX,rfl,rfl,rfl,hle,hO,hb,HI⟩:=hrel;subst hX;have hbw:=zAa hb3 hb hb3.size;have hz:w.heap.size≤Y2.heap.size:=hb3.size;by_cases hR:R=[]
   ·have n0:((bA R).toList==[])=true:=by rw [zAE,hR];rfl
    have HF:=Lib.hid (GIV.out (List.map (fun x:Oe=>x.o) Es) i 0 (by rw [HI.out.2,hR,zPA,List.length_map,HI.out.1]) _ X ⟨A',i,c',Es,rfl,rfl,by omega,hO.mono hz,hbw⟩);clear hR hO hb hbw HI hf2;go_wp2_with fail
    go_ret3
    exact HF.out
   have n0:((bA R).toList==[])=false:=by rw [zAE];simpa using hR
   have HCU:=zRv R (by omega) X (HT.out.below hbw);by_cases h10:(10:UInt8)∈R
   ·obtain ⟨h,r,hRe,hh⟩:=zJG h10;rw [show Lib.cut R [10]=(h,r,true) from by rw [hRe];exact zOK hh] at HCU;have HCU:=Lib.hid HCU;have hlr:r.length+(i+1)≤8000:=by rw [hRe] at hle;simp at hle;omega
    have hlh:h.length≤20000:=by rw [hRe] at hle;simp at hle;omega
    have hms:zVL (.string (bA r)) < zVL (.string (bA R)):=by simp only [zVL,zBc,hRe];simp;omega
    have HL:=Lib.hid (show (TO,TN,TE)=if zES F.L h=0 then zBZ F.L (zBo 10 r) (List.map (fun x:Oe=>x.o) Es++[zHN F.L h]) else ([],i,zES F.L h) by rw [HI.out.2,hRe,zNR F.L hh,List.length_map,HI.out.1]);have HLE:=Lib.hid HI.out.1;have HMS:=Lib.hid hms;clear hR h10 hRe hh HI hms;go_wp2_with fail
    refine HCU.out.mono ?_;rintro e X2 ⟨rfl,hb4⟩;have hb5:=zAa hbw hb4 hbw.size;have hb5y:=zAa hb hb4 hb.size;have hO2:=hO.below hb4;have hfx:=(hf2.below hb hf2.lt).below hb4 (hf2.below hb hf2.lt).lt;have HPA:=zHO F h X2 (HA.out.below hb5) hlh (HT.out.below hb5);have hPO:=zTL FL.out h;have hcE:=zNS F.L h;obtain ⟨ov,eov⟩:∃x,zHN F.L h=x:=⟨_,rfl⟩
    obtain ⟨er,eer⟩:∃x,zES F.L h=x:=⟨_,rfl⟩
    rw [eov,eer] at HPA HL;rw [eov] at hPO;rw [eer] at hcE;have HPA:=Lib.hid HPA;have HPO:=Lib.hid hPO;have HPN:Hid (ov.path.length≤1000000):=Lib.hid (by rw [←eov];have:=zRw F.L h;omega);obtain ⟨kk,ff,⟨gf,gl,gfar,gpc⟩,path,vov⟩:=ov;obtain ⟨w0,w1,w2⟩:=cQ3 hfx;clear hO hb hbw hb4 HCU eov eer hPO hfx hlh;go_wp2_with fail
    refine HPA.out.mono ?_;rintro e X3 ⟨B2,m2,d2,rfl,hrow,hm2,hb6⟩;have HM2:=Lib.hid hm2;have hb7:=zAa hb5 hb6 hb5.size;have hb7y:=zAa hb5y hb6 hb5y.size;have hO3:=hO2.below hb6;have hbl:=(Below.refl X3.heap.size X3).alloc (Nat.le_refl _) (.cells #[.int .i64 kk,.int .i64 ff,.int .i64 gf,.int .i64 gl,.bool gfar,.int .i64 gpc,.slice B2 m2 d2,.bool vov] 32);have hop:Blk (X3.alloc (.cells #[.int .i64 kk,.int .i64 ff,.int .i64 gf,.int .i64 gl,.bool gfar,.int .i64 gpc,.slice B2 m2 d2,.bool vov] 32)) X3.heap.size 32 #[.int .i64 kk,.int .i64 ff,.int .i64 gf,.int .i64 gl,.bool gfar,.int .i64 gpc,.slice B2 m2 d2,.bool vov]:=Blk.new _ _ _;have hO4:=hO3.below hbl;have hrw:=hrow.below hbl;have hb8:=zAa hb7 hbl hb7.size;have hb8y:=zAa hb7y hbl hb7y.size
    have HPB:=Lib.hid (fun k (hk:blk B2=some k)=>(show k < (X3.alloc (.cells #[.int .i64 kk,.int .i64 ff,.int .i64 gf,.int .i64 gl,.bool gfar,.int .i64 gpc,.slice B2 m2 d2,.bool vov] 32)).heap.size∧blk A'≠some k by
     have h1:=hrow.lt k hk
     refine ⟨by simp;omega,fun e2=>?_⟩
     have h2:=(hO2.row.lt k e2).2
     omega))
    have HSZ:=Lib.hid (show Y2.heap.size≤(X3.alloc (.cells #[.int .i64 kk,.int .i64 ff,.int .i64 gf,.int .i64 gl,.bool gfar,.int .i64 gpc,.slice B2 m2 d2,.bool vov] 32)).heap.size from hb8y.size);clear hm2 hO2 hb5 hb5y hb6 hb7 hb7y hO3 hbl hrow w0 w1 w2 HPA;go_upto_region 12 with fail
    generalize X3.alloc (.cells #[.int .i64 kk,.int .i64 ff,.int .i64 gf,.int .i64 gl,.bool gfar,.int .i64 gpc,.slice B2 m2 d2,.bool vov] 32)=X4 at hop hO4 hrw hb8 hb8y HPB HSZ ⊢;generalize X3.heap.size=a13 at hop ⊢;by_cases her:er=0
    ·subst her;have HL2:=Lib.hid (HL.out.trans (if_pos rfl));clear hcE HL n0;obtain ⟨f0,f1,f2,f3,f4,f5,f6,f7⟩:=cQ8 hop;go_upto_region 15 with (at_builtin;refine zHL ?_)
     refine Lib.hid ?_;refine zVk (y:=⟨⟨kk,ff,⟨gf,gl,gfar,gpc⟩,path,vov⟩,B2,m2,d2⟩) (N:=i+1) (base:=Y2.heap.size) (A:=A') (n:=i) (c:=c') (Es:=Es) rfl (.tmp 44) (.tmp 46) ?_ ?_ ?_ ?_ ?_ ?_ ?_ ?_
     ·rfl
     ·exact hO4.row
     ·rfl
     ·rfl
     ·rfl
     ·omega
     ·exact HSZ.out
     intro A2 c2 w9 hR9 hg9 hl9;have hb9:=hO4.row.belowOf hg9 HSZ.out;have hm2k:m2≤1000000:=by rw [HM2.out];exact HPN.out
     have hO9:=hO4.push ⟨⟨kk,ff,⟨gf,gl,gfar,gpc⟩,path,vov⟩,B2,m2,d2⟩ ⟨HPO.out.1,zPC hrw hm2k HPO.out.2,hrw.cap,HPB.out⟩ hR9 hg9 hl9;have hbz:=hb8y.trans hb9;have HF:=Lib.hid (show (Es++[(⟨⟨kk,ff,⟨gf,gl,gfar,gpc⟩,path,vov⟩,B2,m2,d2⟩:Oe)]).length=i+1∧(TO,TN,TE)=zBZ F.L (zBo 10 r) (List.map (fun x:Oe=>x.o) (Es++[(⟨⟨kk,ff,⟨gf,gl,gfar,gpc⟩,path,vov⟩,B2,m2,d2⟩:Oe)])) from ⟨by simp [HLE.out],by rw [HL2.out,List.map_append];rfl⟩);clear hop hO4 hrw hb8 hb8y hg9 hl9 hR9 hb9 f0 f1 f2 f3 f4 f5 f6 f7 HPB HSZ;go_wp2_with fail
     go_roundw
     case rel=>exact ⟨_,r,A2,i+1,c2,_,rfl,rfl,rfl,by go_num,hlr,hO9,hbz,HF⟩
     case measure=>exact HMS.out
    ·have k0:(er != 0)=true:=by simpa using her
     have HF:=Lib.hid (GIV.out [] i er (by rw [HL.out,if_neg her]) _ X4 ⟨none,0,0,[],rfl,rfl,by omega,OpsOwn.none_ _ _,hb8⟩);clear hop hO4 hrw hb8 hb8y hcE her;go_wp2_with fail
     go_ret3
     exact HF.out
   ·rw [zOL h10] at HCU;have HCU:=Lib.hid HCU;have HL:=Lib.hid (show ([],i,(6:Int))=(TO,TN,TE) by rw [HI.out.2,zNQ F.L h10 hR,List.length_map,HI.out.1]);clear hR h10 HI hO hb hf2;go_wp2_with fail
    refine HCU.out.mono ?_;rintro e X2 ⟨rfl,hb4⟩;have HF:=Lib.hid (GIV.out [] i 6 HL.out _ X2 ⟨none,0,0,[],rfl,rfl,by omega,OpsOwn.none_ _ _,zAa hbw hb4 hbw.size⟩);clear hb4 hbw;go_wp2_with fail
    go_ret3
    exact HF.out
 ·have HF:=Lib.hid (GIV.out [] 0 E (by rw [HR.out,if_neg h0]) _ Y2 ⟨none,0,0,[],rfl,rfl,by omega,OpsOwn.none_ _ _,hb3⟩);have k0:(E != 0)=true:=by simpa using h0
  clear hcs h0 hb3 hf2;go_wp2_with fail
  go_ret3
  exact HF.out
noncomputable def zDj:List (List UInt8)→Option (List Nop)
 | []=>some []
 | S :: T=>match zAH S,zDj T with
  | some n,some ns=>some (n :: ns)
  | _,_=>none
theorem zGo:∀(T:List (List UInt8)) (S:List UInt8),zDj (T++[S])=match zDj T,zAH S with
  | some ns,some n=>some (ns++[n])
  | _,_=>none
 | [],S=>by
  cases h:zAH S<;>simp [zDj,h]
 | X :: T,S=>by
  rw [List.cons_append,zDj,zGo T S,zDj]
  cases zAH X<;>cases zDj T<;>cases zAH S<;>rfl
noncomputable def itE (L:List Fg) (S:List UInt8):Int:=if S=[] then 0 else match zDj (zBo 32 S) with | none=>6 | some ns=>if ns.any (zAF L) then 8 else 0
noncomputable def itO (L:List Fg) (S:List UInt8):List Og:=if S=[] then [] else match zDj (zBo 32 S) with | none=>[] | some ns=>if ns.any (zAF L) then [] else ns.map (oOf L)
theorem zMM {n:Nop} (h:okN n):n.path.length≤(zHI n).length:=by
 by_cases hp:n.path=[]
 ·simp [hp]
 ·have hk:n.kind=3∧∃x,n.fr=some x:=by
   rcases h.2 with ⟨_,_,h,_⟩ | ⟨_,_,h⟩ | ⟨h,⟨x,hx,_⟩,_⟩ | ⟨_,_,h⟩ | ⟨_,_,h⟩
   ·exact absurd h hp
   ·exact absurd h hp
   ·exact ⟨h,x,hx⟩
   ·exact absurd h hp
   ·exact absurd h hp
  obtain ⟨hk,x,hx⟩:=hk;have:=zPw (P:=n.path) x;unfold zHI zSL frI;rw [if_neg (by omega),if_pos hk,hx];unfold zJB at this;simp only [List.length_append] at this ⊢;omega
def zGp (w0:World) (O:List Og) (er:Int) (e:Ending) (w':World):Prop :=
 ∃B m d Es,e=.returned (.tuple #[.slice B m d,.int .i64 er])∧List.map (fun x:Oe=>x.o) Es=O∧m≤1000000∧OpsOwn w' w0.heap.size B m d Es∧Below w0.heap.size w0 w'
theorem OpsOwn.overR {w w':World} {base rb:Nat} {A:Option Addr} {n c:Nat} {Es:List Oe} (h:OpsOwn w base A n c Es) (hg:w.grownBy w' (some rb)) (hb:rb < base) (hr:∀e∈Es,∀k,blk e.A=some k→rb < k):OpsOwn w' base A n c Es :=
 ⟨h.row.overO hg hb,fun e he=>by
  obtain ⟨h1,h2,h3,h4⟩:=h.ok e he
  exact ⟨h1,h2.kept hg (fun k hk e2=>by injection e2 with e2;have:=hr e he k hk;omega),h3,fun k hk=>⟨Nat.lt_of_lt_of_le (h4 k hk).1 hg.size,(h4 k hk).2⟩⟩⟩
def zTM (L:List Fg) (ws:List (List UInt8)) (i:Nat) (bad lost:Bool) (Es:List Oe):Prop :=
 Es.length=i∧((bad=false∧∃ns,zDj (ws.take i)=some ns∧lost=ns.any (zAF L)∧List.map (fun x:Oe=>x.o) Es=ns.map (oOf L))∨(bad=true∧zDj (ws.take i)=none))
theorem zPD {L:List Fg} {ws:List (List UInt8)} {i:Nat} {bad lost:Bool} {Es:List Oe} (h:zTM L ws i bad lost Es) {S:List UInt8} (hS:ws[i]? = some S) {n:Nop} (hn:zAH S=some n) (e:Oe) (he:e.o=oOf L n):zTM L ws (i+1) bad (lost||zAF L n) (Es++[e]):=by
 obtain ⟨h1,h2⟩:=h;refine ⟨by simp [h1],?_⟩;rw [List.take_add_one,hS];simp only [Option.toList_some];rw [zGo,hn];rcases h2 with ⟨rfl,ns,h3,h4,h5⟩ | ⟨rfl,h3⟩
 ·refine .inl ⟨rfl,ns++[n],by rw [h3],by rw [h4];simp,by rw [List.map_append,h5];simp [he]⟩
 ·exact .inr ⟨rfl,by rw [h3]⟩
theorem zPE {L:List Fg} {ws:List (List UInt8)} {i:Nat} {bad lost:Bool} {Es:List Oe} (h:zTM L ws i bad lost Es) {S:List UInt8} (hS:ws[i]? = some S) (hn:zAH S=none) (e:Oe) (l:Bool):zTM L ws (i+1) true l (Es++[e]):=by
 obtain ⟨h1,h2⟩:=h;refine ⟨by simp [h1],.inr ⟨rfl,?_⟩⟩;rw [List.take_add_one,hS];simp only [Option.toList_some];rw [zGo,hn]
 cases zDj (ws.take i)<;>rfl
theorem zRx {L:List Fg} {S:List UInt8} {i:Nat} {bad lost:Bool} {Es:List Oe} (h:zTM L (zBo 32 S) i bad lost Es) (hi:i=(zBo 32 S).length) (h0:S≠[]) :
  itE L S=(if bad then 6 else if lost then 8 else 0)∧(itE L S=0→List.map (fun x:Oe=>x.o) Es=itO L S)∧(itE L S≠0→itO L S=[]):=by
 obtain ⟨_,h2⟩:=h;rw [hi,List.take_length] at h2;unfold itE itO;rw [if_neg h0,if_neg h0];rcases h2 with ⟨rfl,ns,h3,h4,h5⟩ | ⟨rfl,h3⟩
 ·simp only [h3,←h4]
  cases lost with
  | true=>simp
  | false=>simpa using h5
 ·simp only [h3];simp
set_option maxHeartbeats 12800000 in
set_option maxRecDepth 100000 in
theorem zHR (F:Fm) (S:List UInt8) (w:World) (hA:Fgs w F.A F.n F.L) (hS:S.length≤20000) (ht:Tabs w) :
  Calls Tryz.prog 72 #[frV F.A F.n F.c F.re F.lo,.string (bA S)] w (zGp w (itO F.L S) (itE F.L S)):=by
 have hFL:F.L.length≤17592186043904:=by rw [hA.len];exact hA.le
 have hb0:Below w.heap.size w (w.alloc (.cells #[.slice F.A F.n F.c,.int .i64 F.re,.int .i64 F.lo] 24)):=(Below.refl _ _).alloc (Nat.le_refl _) _;have hk0:Blk (w.alloc (.cells #[.slice F.A F.n F.c,.int .i64 F.re,.int .i64 F.lo] 24)) w.heap.size 24 #[.slice F.A F.n F.c,.int .i64 F.re,.int .i64 F.lo]:=Blk.new _ _ _;have n0:=zAJ S [];by_cases h0:S=[]
 ·have n1:(S==([]:List UInt8))=true:=by rw [h0];rfl
  rw [n1] at n0
  have HF:=Lib.hid (show zGp w (itO F.L S) (itE F.L S) (.returned (.tuple #[.slice none 0 0,.int .i64 0])) (w.alloc (.cells #[.slice F.A F.n F.c,.int .i64 F.re,.int .i64 F.lo] 24)) by
   have h1:itE F.L S=0∧itO F.L S=[]:=by unfold itE itO;rw [if_pos h0,if_pos h0];exact ⟨rfl,rfl⟩
   rw [h1.1,h1.2]
   exact ⟨none,0,0,[],rfl,rfl,by omega,OpsOwn.none_ _ _,hb0⟩)
  clear h0 n1 hb0 hk0 hA ht hFL hS;go_enter Tryz.func72,Tryz.ntmps72;go_wp2_with fail
  go_ret2;exact HF.out
 have n1:(S==([]:List UInt8))=false:=by simpa using h0
 rw [n1] at n0;obtain ⟨ws,hws⟩:∃W,zBo 32 S=W:=⟨_,rfl⟩
 obtain ⟨n,hn⟩:∃n,ws.length=n:=⟨_,rfl⟩
 have hnl:n≤20001:=by rw [←hn,←hws];have:=zCz S;omega
 have hpl:∀p∈ws,p.length≤100000:=fun p hp=>by rw [←hws] at hp;have:=zCy 32 S p hp;omega
 have HPL:=Lib.hid hpl;have HN:=Lib.hid hn;have HW:=Lib.hid hws;have H0:=Lib.hid h0;have FL:=Lib.hid hFL;have HSP:=Lib.hid (fun wx (hx:Tabs wx)=>zHM S (by omega) wx hx);rw [hws,hn] at HSP;obtain ⟨v0,v1,v2⟩:=cQ3 hk0;have HA:=Lib.hid hA;have HT:=Lib.hid ht;clear h0 n1 hws hn hpl hFL hS hA ht hk0;go_enter Tryz.func72,Tryz.ntmps72;go_upto_region 3 with fail
 generalize w.alloc (.cells #[.slice F.A F.n F.c,.int .i64 F.re,.int .i64 F.lo] 24)=Y at hb0 v0 v1 v2 ⊢;have hbl:=(Below.refl Y.heap.size Y).alloc (Nat.le_refl _) (.cells (rdC F.A F.n F.c F.re F.lo none 0 0 false false) 123);have hb1:=zAa hb0 hbl hb0.size
 have hrx:RX (Y.alloc (.cells (rdC F.A F.n F.c F.re F.lo none 0 0 false false) 123)) Y.heap.size F ⟨[],false,false⟩ :=
  ⟨⟨none,0,0,Blk.new _ _ _,Els.nil _ _,Nat.le_refl _,fun k hk=>by cases hk⟩,HA.out.below hb1,fun h0 k hk=>by
   obtain ⟨g,o,e,hg,_⟩:=HA.out.1.2.2 h0
   rw [e] at hk
   injection hk with hk
   have hk':g=k:=hk
   have h1:=hb0.size
   omega⟩
 have hge:w.heap.size≤Y.heap.size:=hb0.size;clear hbl;go_upto_region 5 with fail
 clear v0 v1 v2 hb0;have HSP2:=Lib.hid (HSP.out (Y.alloc (.cells (rdC F.A F.n F.c F.re F.lo none 0 0 false false) 123)) (HT.out.below hb1));generalize Y.alloc (.cells (rdC F.A F.n F.c F.re F.lo none 0 0 false false) 123)=Z at hb1 hrx HSP2 ⊢;generalize Y.heap.size=rb at hrx hge ⊢;go_wp2_with fail
 refine HSP2.out.mono ?_;rintro e X ⟨rfl,hX⟩;have hbX:Below Z.heap.size Z X:=by rw [hX];exact (Below.refl _ _).alloc (Nat.le_refl _) _
 have hcX:∀(j:Nat) (p:List UInt8),ws[j]? = some p→X.cell? ⟨Z.heap.size,j,none⟩=some (.string (bA p)):=fun j p hp=>by
  rw [hX,World.cell?_alloc_at _ _ _ _ rfl];simp [hp]
 have hlX:Z.heap.size < X.heap.size:=by rw [hX];simp
 have HCX:=Lib.hid hcX;have hrX:=hrx.below hbX;have hbw:=zAa hb1 hbX hb1.size;have hrlt:rb < X.heap.size:=hrX.lt;have hzz:rb < Z.heap.size:=hrx.lt;clear hX hcX HSP HSP2 hrx hb1 hbX;go_wp2_with fail
 go_loopw [7,18] (fun v7 v18 wv=>∃(i:Nat) (V:World) (A':Option Addr) (c':Nat) (Es:List Oe) (bad lost:Bool),V=wv∧i≤n∧v18=.int .i64 i∧v7=.slice A' i c'∧RX V rb F ⟨[],bad,lost⟩∧OpsOwn V X.heap.size A' i c' Es∧X.grownBy V (some rb)∧Hid (∀e∈Es,∀k,blk e.A=some k→rb < k)∧Hid (zTM F.L ws i bad lost Es)) (fun _ v18 _=>n-(intOf v18).toNat)
 case atStart=>exact ⟨0,_,none,0,[],false,false,rfl,by omega,rfl,rfl,hrX,OpsOwn.none_ _ _,zBx _ _,Lib.hid (by simp),Lib.hid ⟨rfl,.inl ⟨rfl,[],rfl,rfl,rfl⟩⟩⟩
 case round =>
  clear hrX;obtain ⟨i,V,A',c',Es,bad,lost,hV,hi,rfl,rfl,hr,hO,hg,HK,HI⟩:=hrel;subst hV;by_cases hlt:i < n
  ·have j0:(0:Int)≤(i:Int):=by omega
   have j1:(i:Int) < (n:Int):=by omega
   obtain ⟨p,hp⟩:∃p,ws[i]? = some p:=⟨ws[i]'(by rw [HN.out];exact hlt),List.getElem?_eq_getElem _⟩
   have hc:V.cell? ⟨Z.heap.size,i,none⟩=some (.string (bA p)):=by
    rw [World.cell?_of_block (w:=X) (w':=V) (a:=⟨Z.heap.size,i,none⟩) (hg.block _ hlX (fun e=>by injection e with e;simp only at e;omega))];exact HCX.out i p hp
   have HSC:=Lib.hid (zLM rb F ⟨[],bad,lost⟩ p V hr (HPL.out p (List.mem_of_getElem? hp)));have HP:=Lib.hid hp;have hrV:=hr.lt;clear hp hr;go_upto_region 8 with fail
   clear hc;go_wp2_with fail
   refine HSC.out.mono ?_;intro e V2 hsc;have key:∃(o:Og) (B:Option Addr) (m d:Nat) (bad2 lost2:Bool),e=.returned (opV o B m d)∧V.grownBy V2 (some rb)∧RX V2 rb F ⟨[],bad2,lost2⟩∧Hid ((OgOk o∧Stps V2 B m o.path∧m≤d∧∀k,blk B=some k→k < V2.heap.size∧V.heap.size≤k)∧zTM F.L ws (i+1) bad2 lost2 (Es++[(⟨o,B,m,d⟩:Oe)])):=by
    rcases hsc with ⟨nn,h1,B,m,d,h2,h3,h4,h5,h6⟩ | ⟨h1,h2,⟨l,h3⟩,h4⟩
    ·have hok:=zSM FL.out (zGi h1).1;have hpn:m≤1000000:=by
      have h7:=zGi h1;have h8:=HPL.out p (List.mem_of_getElem? HP.out);rw [h7.2.2] at h8;rw [h4];show (nn.path.map (pOf F.L)).length≤_;rw [List.length_map];have h9:=zMM h7.1;omega
     exact ⟨_,B,m,d,bad,_,h2,h6,h5,Lib.hid ⟨⟨hok.1,zPC h3 hpn hok.2,h3.cap,fun k hk=>⟨(h3.lt k hk).2,(h3.lt k hk).1⟩⟩,zPD HI.out HP.out h1 _ rfl⟩⟩
    ·exact ⟨zop,none,0,0,true,l,h2,h4,h3,Lib.hid ⟨⟨zTK.1,Stps.nil _ _,Nat.le_refl _,fun k hk=>by cases hk⟩,zPE HI.out HP.out h1 _ l⟩⟩
   obtain ⟨o,B,m,d,bad2,lost2,rfl,hg2,hr2,HE⟩:=key;have hO2:=hO.overR hg2 (by omega) HK.out;have hO2L:=hO.row.lt;have HAL:=Lib.hid (fun k (hk:blk A'=some k)=>(hO2L k hk).2);have hgg:=zAb hg hg2;have hsz:X.heap.size≤V2.heap.size:=hgg.size;obtain ⟨kk,ff,⟨gf,gl,gfar,gpc⟩,path,vov⟩:=o;clear hsc hO hg2 hg HSC hO2L;go_upto_region 9 with (at_builtin;refine zHL ?_)
   refine Lib.hid ?_;refine zVk (y:=⟨⟨kk,ff,⟨gf,gl,gfar,gpc⟩,path,vov⟩,B,m,d⟩) (N:=i+1) (base:=X.heap.size) (A:=A') (n:=i) (c:=c') (Es:=Es) rfl (.tmp 22) (.tmp 26) ?_ ?_ ?_ ?_ ?_ ?_ ?_ ?_
   ·rfl
   ·exact hO2.row
   ·rfl
   ·rfl
   ·rfl
   ·omega
   ·exact hsz
   intro A2 c2 w9 hR9 hg9 hl9;have hb9:=hO2.row.belowOf hg9 hsz;have hO9:=hO2.push ⟨⟨kk,ff,⟨gf,gl,gfar,gpc⟩,path,vov⟩,B,m,d⟩ ⟨HE.out.1.1,HE.out.1.2.1,HE.out.1.2.2.1,fun k hk=>⟨(HE.out.1.2.2.2 k hk).1,fun e2=>by have h1:=HAL.out k e2;have h2:=(HE.out.1.2.2.2 k hk).2;omega⟩⟩ hR9 hg9 hl9;have hr9:=hr2.over (hb9.mono (by omega));have hg10:=zAd hgg hb9
   have HK2:=Lib.hid (show ∀e∈Es++[(⟨⟨kk,ff,⟨gf,gl,gfar,gpc⟩,path,vov⟩,B,m,d⟩:Oe)],∀k,blk e.A=some k→rb < k from fun e he k hk=>by
    rcases List.mem_append.1 he with h1 | h1
    ·exact HK.out e h1 k hk
    ·rw [List.mem_singleton.1 h1] at hk
     have h2:=(HE.out.1.2.2.2 k hk).2
     omega)
   have HI2:=Lib.hid HE.out.2;clear hR9 hg9 hl9 hb9 hO2 hr2 hgg hsz HE HAL HI;go_wp2_with fail
   go_roundw
   case rel=>exact ⟨i+1,_,A2,c2,_,bad2,lost2,rfl,by omega,by go_num,rfl,hr9,hO9,hg10,HK2,HI2⟩
   case measure=>simp [intOf];omega
  ·have j1:¬(i:Int) < (n:Int):=by omega
   have hin:i=n:=by omega
   have hend:=zRx (L:=F.L) (S:=S) (i:=i) (bad:=bad) (lost:=lost) (Es:=Es) (by rw [HW.out];exact HI.out) (by rw [HW.out,HN.out];exact hin) H0.out;have HEND:=Lib.hid hend;have hbV:Below w.heap.size w V:=zAa hbw (zBV hg (show w.heap.size≤rb from hge) hbw.size) (Nat.le_refl _);have hzX:w.heap.size≤X.heap.size:=hbw.size;have hil:i≤1000000:=by omega
   have HO:=Lib.hid hO;have HBV:=Lib.hid hbV;have c4:V.cell? ⟨rb,4,none⟩=some (.bool bad):=hr.bad4.1;have c5:V.cell? ⟨rb,5,none⟩=some (.bool lost):=hr.lost5;clear hend hin hlt hg hr HCX HI HK hO hbV
   cases bad with
   | true =>
    have HE:=Lib.hid (show itE F.L S=6∧itO F.L S=[] from ⟨HEND.out.1,HEND.out.2.2 (by rw [HEND.out.1];simp)⟩);clear c5;go_wp2_with fail
    go_ret2;exact (show zGp w _ _ _ _ by rw [HE.out.1,HE.out.2];exact ⟨none,0,0,[],rfl,rfl,by omega,OpsOwn.none_ _ _,HBV.out⟩)
   | false =>
    cases lost with
    | true =>
     have HE:=Lib.hid (show itE F.L S=8∧itO F.L S=[] from ⟨HEND.out.1,HEND.out.2.2 (by rw [HEND.out.1];simp)⟩);go_wp2_with fail
     go_ret2;exact (show zGp w _ _ _ _ by rw [HE.out.1,HE.out.2];exact ⟨none,0,0,[],rfl,rfl,by omega,OpsOwn.none_ _ _,HBV.out⟩)
    | false =>
     have HE:=Lib.hid (show itE F.L S=0∧List.map (fun x:Oe=>x.o) Es=itO F.L S from ⟨HEND.out.1,HEND.out.2.1 HEND.out.1⟩);go_wp2_with fail
     go_ret2;exact (show zGp w _ _ _ _ by rw [HE.out.1];exact ⟨A',i,c',Es,rfl,HE.out.2,hil,HO.out.mono hzX,HBV.out⟩)
noncomputable def rsE (L:List Fg) (re lo:Int) (S:List UInt8):Int:=if zAK L re lo S=0 then itE L S else zAK L re lo S
noncomputable def rsO (L:List Fg) (re lo:Int) (S:List UInt8):List Og:=if zAK L re lo S=0 then itO L S else []
set_option maxHeartbeats 6400000 in
theorem zHS (F:Fm) (S:List UInt8) (w:World) (hA:Fgs w F.A F.n F.L) (hc:F.n≤F.c) (ht:Tabs w) :
  Calls Tryz.prog 31 #[frV F.A F.n F.c F.re F.lo,.string (bA S)] w (zGp w (rsO F.L F.re F.lo S) (rsE F.L F.re F.lo S)):=by
 have hb0:Below w.heap.size w (w.alloc (.cells #[.slice F.A F.n F.c,.int .i64 F.re,.int .i64 F.lo] 24)):=(Below.refl _ _).alloc (Nat.le_refl _) _;have hk0:Blk (w.alloc (.cells #[.slice F.A F.n F.c,.int .i64 F.re,.int .i64 F.lo] 24)) w.heap.size 24 #[.slice F.A F.n F.c,.int .i64 F.re,.int .i64 F.lo]:=Blk.new _ _ _;have HA:=Lib.hid hA;have HT:=Lib.hid ht;obtain ⟨E,hE⟩:∃E,zAK F.L F.re F.lo S=E:=⟨_,rfl⟩
 have HBG:=Lib.hid (fun wx (hx:Fgs wx F.A F.n F.L)=>zDv F.A F.n F.c F.L F.re F.lo S wx hx hc);simp only [hE] at HBG;have HE:=Lib.hid hE;clear hA ht hE;go_enter Tryz.func31,Tryz.ntmps31;go_wp2_with fail
 generalize w.alloc (.cells #[.slice F.A F.n F.c,.int .i64 F.re,.int .i64 F.lo] 24)=Y at hb0 hk0 ⊢;refine (HBG.out Y (HA.out.below hb0)).mono ?_;rintro e Y2 ⟨rfl,hb2⟩;have hf2:=hk0.below hb2 hk0.lt;have hb3:=zAa hb0 hb2 hb0.size;clear hk0 hb0 hb2 HBG;by_cases h0:E=0
 ·subst h0;have hS:=(zCh HE.out).1;have HR:=Lib.hid (show rsE F.L F.re F.lo S=itE F.L S∧rsO F.L F.re F.lo S=itO F.L S by unfold rsE rsO;rw [HE.out];exact ⟨rfl,rfl⟩);have HPA:=Lib.hid (zHR F S Y2 (HA.out.below hb3) (by omega) (HT.out.below hb3));obtain ⟨v0,v1,v2⟩:=cQ3 hf2;have hz:w.heap.size≤Y2.heap.size:=hb3.size;have HB3:=Lib.hid hb3;clear hS hf2 hb3;go_wp2_with fail
  refine HPA.out.mono ?_;rintro e Y3 ⟨B,m,d,Es,rfl,hO,hm,hE,hb4⟩;have HF:=Lib.hid (show zGp w (rsO F.L F.re F.lo S) (rsE F.L F.re F.lo S) (.returned (.tuple #[.slice B m d,.int .i64 (itE F.L S)])) Y3 by rw [HR.out.1,HR.out.2];exact ⟨B,m,d,Es,rfl,hO,hm,hE.mono hz,zAa HB3.out hb4 HB3.out.size⟩);clear hO hE hb4 hm HR;go_wp2_with fail
  go_ret2;exact HF.out
 ·have HF:=Lib.hid (show zGp w (rsO F.L F.re F.lo S) (rsE F.L F.re F.lo S) (.returned (.tuple #[.slice none 0 0,.int .i64 E])) Y2 by
   have h1:rsE F.L F.re F.lo S=E∧rsO F.L F.re F.lo S=[]:=by unfold rsE rsO;rw [HE.out,if_neg h0,if_neg h0];exact ⟨rfl,rfl⟩
   rw [h1.1,h1.2]
   exact ⟨none,0,0,[],rfl,rfl,by omega,OpsOwn.none_ _ _,hb3⟩)
  have k0:(E != 0)=true:=by simpa using h0
  clear hf2 hb3 h0;go_wp2_with fail
  go_ret2;exact HF.out
def zJX (k:Int):Value:=if k=1 then .iface 183 (.agg #[]) else if k=2 then .iface 184 (.agg #[]) else .nilIface
theorem zKB (k:Int) (w:World):Calls Tryz.prog 89 #[.int .i64 k] w fun e w'=>e=.returned (zJX k)∧w'=w:=by
 by_cases h1:k=1
 ·subst h1;go_enter Tryz.func89,Tryz.ntmps89;go_wp2_with fail
  go_ret;exact ⟨rfl,rfl⟩
 ·by_cases h2:k=2
  ·subst h2;go_enter Tryz.func89,Tryz.ntmps89;go_wp2_with fail
   go_ret;exact ⟨rfl,rfl⟩
  ·have HV:=Lib.hid (show zJX k=.nilIface by unfold zJX;rw [if_neg h1,if_neg h2]);have m1:(k==1)=false:=by simpa using h1
   have m2:(k==2)=false:=by simpa using h2
   rw [HV.out];clear h1 h2;go_enter Tryz.func89,Tryz.ntmps89;go_wp2_with fail
   go_ret;exact ⟨rfl,rfl⟩
set_option maxHeartbeats 800000 in
theorem zNT (A:Option Addr) (n c:Nat) (L:List Fg) (re lo:Int) (o:Og) (B:Option Addr) (m d:Nat) (b:Nat) (w:World) (hA:Fgs w A n L) (hk:Blk w b 24 #[.slice A n c,.int .i64 re,.int .i64 lo]) (hO:OpIn w o B m d) (hr:zAp n o=true) :
  Calls Tryz.prog 141 #[opV o B m d,.pointer (some ⟨b,0,none⟩)] w fun e w'=>e=.returned (.bool (!zDF L o))∧Below w.heap.size w w':=by
 have hb0:Below w.heap.size w (w.alloc (.cells #[.int .i64 o.kind,.int .i64 o.f,.int .i64 o.fr.f,.int .i64 o.fr.l,.bool o.fr.far,.int .i64 o.fr.pc,.slice B m d,.bool o.over] 32)):=(Below.refl _ _).alloc (Nat.le_refl _) _;have hk2:=hk.alloc (.cells #[.int .i64 o.kind,.int .i64 o.f,.int .i64 o.fr.f,.int .i64 o.fr.l,.bool o.fr.far,.int .i64 o.fr.pc,.slice B m d,.bool o.over] 32);have y0:=(hk2.cell 0).trans rfl;have y1:=(hk2.cell 1).trans rfl;have y2:=(hk2.cell 2).trans rfl;have HC:=Lib.hid (zKl A n c L re lo o B m d _ (hA.below hb0) (hO.below hb0) hr);go_enter Tryz.func141,Tryz.ntmps141;go_wp2_with fail
 refine HC.out.mono ?_;rintro e w2 ⟨rfl,hb2⟩;have hb3:=zAa hb0 hb2 hb0.size;clear y0 y1 y2;go_wp2_with fail
 go_ret;exact ⟨rfl,hb3⟩
theorem zTN {L:List Fg} {o:Og} {q:Bool} (h:zDF L o=q) (A:Option Addr) (n c:Nat) (re lo:Int) (B:Option Addr) (m d:Nat) (b:Nat) (w:World) (hA:Fgs w A n L) (hk:Blk w b 24 #[.slice A n c,.int .i64 re,.int .i64 lo]) (hO:OpIn w o B m d) (hr:zAp n o=true) :
  Calls Tryz.prog 141 #[opV o B m d,.pointer (some ⟨b,0,none⟩)] w fun e w'=>e=.returned (.bool (!q))∧Below w.heap.size w w':=by
 subst h;exact zNT A n c L re lo o B m d b w hA hk hO hr
theorem zTO {L:List Fg} {Es:List Oe} (h:∀j,j < Es.length→zDF L (oa Es j).o=true):(Es.all fun x=>zDF L x.o)=true:=by
 rw [List.all_eq_true];intro x hx;obtain ⟨i,hi⟩:=List.getElem?_of_mem hx;have hlt:=(List.getElem?_eq_some_iff.1 hi).1;have h3:=zCX hlt;rw [hi] at h3;injection h3 with h3
 rw [h3];exact h i hlt
theorem zNU {L:List Fg} {Es:List Oe} {i:Nat} (hi:i < Es.length) (h:zDF L (oa Es i).o=false):(Es.all fun x=>zDF L x.o)=false:=by
 cases e:(Es.all fun x=>zDF L x.o) with
 | false=>rfl
 | true=>rw [List.all_eq_true] at e;have:=e _ (List.mem_of_getElem? (zCX hi));rw [h] at this;cases this
set_option maxHeartbeats 3200000 in
theorem zGq (A:Option Addr) (n c:Nat) (L:List Fg) (re lo:Int) (b:Nat) (B:Option Addr) (m d:Nat) (Es:List Oe) (w:World) (hA:Fgs w A n L) (hk:Blk w b 24 #[.slice A n c,.int .i64 re,.int .i64 lo]) (hP:Oprs w B m Es) (hf:∀i,i < Es.length→zAp n (oa Es i).o=true) :
  Calls Tryz.prog 174 #[.slice B m d,.func (.func 141) #[] #[.pointer (some ⟨b,0,none⟩)]] w
   fun e w'=>∃k:Int,e=.returned (.int .i64 k)∧zOr (Es.all fun x=>zDF L x.o) k∧Below w.heap.size w w':=by
 have hle:=hP.le;have HLEN:=Lib.hid hP.len;have HF:=Lib.hid hf;clear hf;go_enter Tryz.func174,Tryz.ntmps174;go_wp2_with fail
 go_loopw [8] (fun v wr=>∃i:Nat,i≤m∧v=.int .i64 i∧Below w.heap.size w wr∧Hid (∀j:Nat,j < i→zDF L (oa Es j).o=true)) (fun v _=>m-(intOf v).toNat)
 case atStart=>exact ⟨0,Nat.zero_le _,rfl,Below.refl _ _,Lib.hid (fun j hj=>by omega)⟩
 case round =>
  obtain ⟨i,hi,rfl,hbr,HS⟩:=hrel;by_cases hlt:i < m
  ·obtain ⟨g,p,rfl,hg,⟨x0,x1,x2,x3,x4,x5,x6,x7⟩,hin⟩:=(hP.below hbr).at_ hlt;have j0:(0:Int)≤(i:Int):=by omega
   have j1:(i:Int) < (m:Int):=by omega
   have hil:i < Es.length:=by rw [HLEN.out];exact hlt
   obtain ⟨q,hq⟩:∃q,zDF L (oa Es i).o=q:=⟨_,rfl⟩
   have HQ:=Lib.hid hq;have HC:=Lib.hid (zTN hq A n c re lo _ _ _ b wr (hA.below hbr) (hk.below hbr hk.lt) hin (HF.out i hil));have HIL:=Lib.hid hil;clear hq hil hin;generalize oa Es i=x at x0 x1 x2 x3 x4 x5 x6 x7 HC;obtain ⟨⟨kk,ff,⟨gf,gl,gfar,gpc⟩,path,vov⟩,B2,m2,d2⟩:=x;simp only at x0 x1 x2 x3 x4 x5 x6 x7
   cases q with
   | true =>
    have HS1:=Lib.hid (show ∀j:Nat,j < i+1→zDF L (oa Es j).o=true from fun j hj=>by
     rcases Nat.decEq j i with e | e
     ·exact HS.out j (by omega)
     ·subst e;exact HQ.out)
    clear HS HQ HIL;go_wp2_with fail
    refine HC.out.mono ?_;rintro e w5 ⟨rfl,hb5⟩;have hb6:=zAa hbr hb5 hbr.size;clear x0 x1 x2 x3 x4 x5 x6 x7;go_wp2_with fail
    go_roundw
    case rel=>exact ⟨i+1,by omega,by go_num,hb6,HS1⟩
    case measure=>simp [intOf];omega
   | false =>
    have hr:=Lib.hid (show zOr (Es.all fun x=>zDF L x.o) (i:Int) by rw [zNU HIL.out HQ.out];unfold zOr;rw [if_neg (by decide)];omega);clear HS HQ HIL;go_wp2_with fail
    refine HC.out.mono ?_;rintro e w5 ⟨rfl,hb5⟩;have hb6:=zAa hbr hb5 hbr.size;clear x0 x1 x2 x3 x4 x5 x6 x7;go_wp2_with fail
    go_ret;exact ⟨_,rfl,hr.out,hb6⟩
  ·have j1:¬(i:Int) < (m:Int):=by omega
   have hr:=Lib.hid (show zOr (Es.all fun x=>zDF L x.o) (-1) by rw [zTO (fun j hj=>HS.out j (by rw [HLEN.out] at hj;omega))];unfold zOr;rw [if_pos rfl]);clear HS;go_wp2_with fail
   go_ret;exact ⟨_,rfl,hr.out,hbr⟩
theorem zEy (A:Option Addr) (n c:Nat) (L:List Fg) (re lo:Int) (b:Nat) (B:Option Addr) (m d:Nat) (Es:List Oe) (w:World) (hA:Fgs w A n L) (hk:Blk w b 24 #[.slice A n c,.int .i64 re,.int .i64 lo]) (hP:Oprs w B m Es) (hf:∀i,i < Es.length→zAp n (oa Es i).o=true) :
  Calls Tryz.prog 140 #[.slice B m d,.func (.func 141) #[] #[.pointer (some ⟨b,0,none⟩)]] w
   fun e w'=>e=.returned (.bool (!(Es.all fun x=>zDF L x.o)))∧Below w.heap.size w w':=by
 have HC:=Lib.hid (zGq A n c L re lo b B m d Es w hA hk hP hf);go_enter Tryz.func140,Tryz.ntmps140;go_wp2_with fail
 refine HC.out.mono ?_;rintro e w2 ⟨k,rfl,hk2,hb2⟩;have HK:=Lib.hid hk2;clear hk2;go_wp2_with fail
 go_ret;refine ⟨zDI ?_,hb2⟩;have h:=HK.out;unfold zOr at h
 cases hq:(Es.all fun x=>zDF L x.o) with
 | true=>rw [hq,if_pos rfl] at h;simp [h]
 | false=>rw [hq] at h;simp at h;simp [h]
theorem zVl (w:World):(Instr.typeAssert (.iface 184 (.agg #[])) 138 184 true).run Tryz.prog w=.ok (.tuple #[.agg #[],.bool true]) w:=by kernel_rfl
theorem zWd (w:World):(Instr.typeAssert (.iface 183 (.agg #[])) 138 184 true).run Tryz.prog w=.ok (.tuple #[.agg #[],.bool false]) w:=by kernel_rfl
def zSN (L:List Fg) (k:Int) (Es:List Oe):Bool:=if k=2 then Es.all (fun x=>zDF L x.o) else true
set_option maxHeartbeats 1600000 in
set_option maxRecDepth 100000 in
theorem zFC (A:Option Addr) (n c:Nat) (L:List Fg) (re lo:Int) (k:Int) (hk:k=1∨k=2) (B:Option Addr) (m d:Nat) (Es:List Oe) (w:World) (hA:Fgs w A n L) (hP:Oprs w B m Es) (hf:∀i,i < Es.length→zAp n (oa Es i).o=true) :
  Calls Tryz.prog 90 #[zJX k,frV A n c re lo,.slice B m d] w fun e w'=>e=.returned (.bool (zSN L k Es))∧Below w.heap.size w w':=by
 have hb0:Below w.heap.size w (w.alloc (.cells #[.slice A n c,.int .i64 re,.int .i64 lo] 24)):=(Below.refl _ _).alloc (Nat.le_refl _) _;have hk0:Blk (w.alloc (.cells #[.slice A n c,.int .i64 re,.int .i64 lo] 24)) w.heap.size 24 #[.slice A n c,.int .i64 re,.int .i64 lo]:=Blk.new _ _ _;have HC:=Lib.hid (zEy A n c L re lo w.heap.size B m d Es _ (hA.below hb0) hk0 (hP.below hb0) hf);have ty:=zVl;have tn:=zWd;rcases hk with rfl | rfl
 ·rw [show zJX 1=.iface 183 (.agg #[]) from rfl];go_enter Tryz.func90,Tryz.ntmps90;go_wp2_with fail
  go_ret;exact ⟨rfl,hb0⟩
 ·rw [show zJX 2=.iface 184 (.agg #[]) from rfl];have HR:=Lib.hid (show zSN L 2 Es=(Es.all fun x=>zDF L x.o) from rfl);go_enter Tryz.func90,Tryz.ntmps90;go_wp2_with fail
  refine HC.out.mono ?_;rintro e w2 ⟨rfl,hb2⟩;have hb3:=zAa hb0 hb2 hb0.size;go_wp2_with fail
  go_ret;exact ⟨zDI (by rw [HR.out]),hb3⟩
end Go.Proofs.YtlmdfmnbcndhoaaGreatDoor
