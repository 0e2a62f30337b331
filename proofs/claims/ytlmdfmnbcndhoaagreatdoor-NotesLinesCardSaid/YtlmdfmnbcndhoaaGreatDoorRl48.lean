/-
  Lemmas, part 48. Conditions: each theorem's own.
-/
import Derived.Test.YtlmdfmnbcndhoaaGreatDoorRl47
import Derived.Test.YtlmdfmnbcndhoaaGreatDoorRl25
import Derived.Test.YtlmdfmnbcndhoaaGreatDoorRl40
import Derived.Test.YtlmdfmnbcndhoaaGreatDoorRl38
import Derived.Test.YtlmdfmnbcndhoaaGreatDoorRl46
import Derived.Test.YtlmdfmnbcndhoaaGreatDoorRl08
namespace Go.Proofs.YtlmdfmnbcndhoaaGreatDoor
open Go.RowKit
theorem zQF {A:Option Addr} {n c:Nat} {L:List Fg} {re lo:Int} {S:List UInt8} {E:Int} {o:Og} (hE:zDe L S=E) (hO:zEt L S=o) (hS:¬8000 < S.length) (w:World) (hA:Fgs w A n L) (hv:frB L re lo=true) :
  Calls Tryz.prog 20 #[frV A n c re lo,.string (bA S)] w (OpErr w o E):=by
 obtain ⟨h1,h2⟩:=zWH hv hS;have:=zHQ A n c L re lo S w hA hv;rw [h1,h2,hE,hO] at this;exact this
set_option maxHeartbeats 12800000 in
set_option maxRecDepth 100000 in
theorem zHS (A:Option Addr) (n c:Nat) (L:List Fg) (re lo:Int) (S:List UInt8) (w:World) (hA:Fgs w A n L) (hv:frB L re lo=true) :
  Calls Tryz.prog 26 #[frV A n c re lo,.string (bA S)] w (zGc w (rlR L re lo S).1 (rlR L re lo S).2.1 (rlR L re lo S).2.2):=by
 have nJ:L.length≤17592186043904:=by rw [hA.len];exact hA.le
 have hs:=zCD S;obtain ⟨nS,eN⟩:∃k,S.length=k:=⟨_,rfl⟩
 rw [eN] at hs;have HN:=qH eN;have HA:=qH hA;have FL:=qH nJ;have HB:=qH (Below.refl w.heap.size w);obtain ⟨⟨TO,TN,TE⟩,pB⟩:∃x,rlR L re lo S=x:=⟨_,rfl⟩
 have Dk:=qH pB;rw [pB];simp only;have fm:=qH (fun (O:List Og) (n:Nat) (er:Int) (hq:(O,n,er)=(TO,TN,TE)) (e:Ending) (wx:World) (h:zGc w O n er e wx)=>(show zGc w TO TN TE e wx by injection hq with h1 h2;injection h2 with h2 h3;subst h1;subst h2;subst h3;exact h));have HV:=qH hv;clear eN hA pB hv nJ;go_enter Tryz.func26,Tryz.ntmps26;have q1:=(Below.refl w.heap.size w).alloc (Nat.le_refl _) (.cells #[.slice A n c,.int .i64 re,.int .i64 lo] 24);have oX:=HB.out.size;replace HB:=qH (zAa HB.out q1 HB.out.size);have ap:=Blk.new w 24 #[.slice A n c,.int .i64 re,.int .i64 lo];clear q1;go_upto_region 1 with fail
 generalize w.alloc (.cells #[.slice A n c,.int .i64 re,.int .i64 lo] 24)=X at ap HB ⊢;obtain ⟨aQ,oD⟩:∃a,w.heap.size=a:=⟨_,rfl⟩
 replace oX:w.heap.size≤aQ:=Nat.le_of_eq oD;rw [oD] at ap ⊢;clear oD;by_cases h8:8000 < nS
 ·have i0:(8000:Int) < (nS:Int):=by omega
  have HF:=qH (fm.out [] 0 7 (by rw [←Dk.out];exact (zVj HV.out (by rw [HN.out];exact h8)).symm) _ X ⟨none,0,0,[],rfl,rfl,by omega,OpsOwn.none_ _ _,HB.out⟩);clear ap h8;go_wp2_with fail
  go_ret3
  exact HF.out
 have i0:¬(8000:Int) < (nS:Int):=by omega
 obtain ⟨T,hT⟩:∃T,zAR 10 S=T:=⟨_,rfl⟩
 have gC:=qH (show (TO,TN,TE)=zAQ L T [] by rw [←Dk.out,zSG HV.out (by rw [HN.out];exact h8),hT]);have Gt:=qH (show 0 < T.length by rw [←hT];exact zSH 10 S);have vl:=qH (show T.length≤8001 by rw [←hT];have:=zSD 10 S;rw [HN.out] at this;omega);have Dj:=qH (show ∀p∈T,¬8000 < p.length from fun p hp=>by rw [←hT] at hp;have:=zBt 10 S p hp;rw [HN.out] at this;omega);have gK:=qH (fun w=>zMI hT (by rw [HN.out];omega) w);clear h8 hT Dk;go_wp2_with fail
 refine (gK.out _).mono ?_;rintro e Y ⟨B1,m,d1,rfl,ao,tW,hb⟩;have yy:∀k,blk B1=some k→k≠aQ:=fun k hk=>Nat.ne_of_gt (Nat.lt_of_lt_of_le ap.lt (ao.lt k hk).1)
 have jp:=HB.out.size;replace ap:=ap.below hb ap.lt;replace HB:=qH (zAa HB.out hb HB.out.size);replace ao:=ao.mono jp;clear hb jp;have eZ:=qH (show T.length=m by have:=ao.len;simpa using this);have mu:m≤8001:=by rw [←eZ.out];exact vl.out
 have hm0:0 < m:=by rw [←eZ.out];exact Gt.out
 obtain ⟨ga,oa,rfl,_,hga⟩:=ao.form hm0;have jN:=qH (ao.txts (by omega));have qv:=qH ap;clear tW gK vl Gt ao ap hga;go_wp2_with fail
 go_loopw [8,9] (fun v8 v9 wv=>∃(V:World) (A':Option Addr) (i c':Nat) (Es:List Oe),V=wv∧v8=.slice A' i c'∧v9=.int .i64 i∧i+1≤m∧OpsOwn V Y.heap.size A' i c' Es∧Below Y.heap.size Y V∧Hid (Es.length=i∧(TO,TN,TE)=zAQ L (T.drop i) (List.map (fun x:Oe=>x.o) Es))) (fun _ v9 _=>m-(intOf v9).toNat)
 case atStart=>exact ⟨_,none,0,0,[],rfl,rfl,rfl,hm0,OpsOwn.none_ _ _,Below.refl _ _,qH ⟨rfl,gC.out⟩⟩
 case round =>
  obtain ⟨X1,A',i,c',Es,hX,rfl,rfl,hi,hO,hb,HI⟩:=hrel;subst hX;have hz:w.heap.size≤Y.heap.size:=HB.out.size;have gW:=qH (zAa HB.out hb hz);replace qv:=qH (qv.out.below hb qv.out.lt);replace jN:=qH (jN.out.below hb);have Gn:=qH hb;have vq:=qH hO;have j9:IntKind.i64.wrap ((i:Int)+1)=(i:Int)+1:=IntWalk.i64_in _ (by omega);clear hb hO gC;by_cases hlt:i+1 < m
  ·have j1:(i:Int)+1 < (m:Int):=by omega
   have EM:i+1 < T.length:=by rw [eZ.out];exact hlt
   have hst:=zMe L EM (List.map (fun x:Oe=>x.o) Es);have hwd:=Dj.out (xa T i) (List.mem_of_getElem? (zWI (by omega)));obtain ⟨hgx,x0⟩:=jN.out.cell (j:=i) (show i < m by omega);obtain ⟨P,hP⟩:∃P,xa T i=P:=⟨_,rfl⟩
   rw [hP] at hst hwd x0;obtain ⟨o,ho⟩:∃o,zEt L P=o:=⟨_,rfl⟩
   obtain ⟨er,her⟩:∃er,zDe L P=er:=⟨_,rfl⟩
   have uJ:=zPv FL.out P;have jF:=zMG L P;rw [ho,her] at hst;rw [ho] at uJ jF;have GU:=qH (show ∀wx,Below X1.heap.size X1 wx→Calls Tryz.prog 20 #[frV A n c re lo,.string (bA P)] wx (OpErr wx o er) from fun wx hx=>zQF her ho hwd wx (HA.out.below (zAa gW.out hx gW.out.size)) HV.out);have mO:=qH (HI.out.2.trans hst);have iI:=qH HI.out.1;have jO:=qH uJ;have gD:=qH (show o.path.length≤1000000 by omega);clear hst hwd hP ho her uJ jF HI EM;obtain ⟨okind,of,⟨off,ofl,offar,ofpc⟩,opath,oover⟩:=o;have i1:i < m:=by omega
   have i2:(0:Int)≤(i:Int):=by omega
   have i3:(i:Int) < (m:Int):=by omega
   have tc:=qH (show ga < X1.heap.size∧X1.cell? ⟨ga,oa+i,none⟩=some (.string (bA P)) from ⟨hgx,x0⟩);clear hgx x0;have KP:=qH (show ∀wx,Below X1.heap.size X1 wx→(Below X1.heap.size X1 wx∧wx.cell? ⟨aQ,0,none⟩=some (.slice A n c)∧wx.cell? ⟨aQ,1,none⟩=some (.int .i64 re)∧wx.cell? ⟨aQ,2,none⟩=some (.int .i64 lo)∧wx.cell? ⟨ga,oa+i,none⟩=some (.string (bA P))) from fun wx h=>⟨h,((qv.out.below h qv.out.lt).cell 0).trans rfl,((qv.out.below h qv.out.lt).cell 1).trans rfl,((qv.out.below h qv.out.lt).cell 2).trans rfl,(h.cell (p:=⟨ga,oa+i,none⟩) tc.out.1).trans tc.out.2⟩);have uW:=(KP.out X1 (Below.refl _ _)).2.1;have uV:=(KP.out X1 (Below.refl _ _)).2.2.1;have yw:=(KP.out X1 (Below.refl _ _)).2.2.2.1;have yv:=(KP.out X1 (Below.refl _ _)).2.2.2.2;go_upto_region 8 with fail
   go_cut [10,11] (fun mR nU wv=>∃(V:World) (b4:Nat) (B:Option Addr) (m2 d2:Nat),V=wv∧mR=.pointer (some ⟨b4,0,none⟩)∧nU=.int .i64 er∧m2=opath.length∧Blk V b4 32 #[.int .i64 okind,.int .i64 of,.int .i64 off,.int .i64 ofl,.bool offar,.int .i64 ofpc,.slice B m2 d2,.bool oover]∧X1.heap.size≤b4∧Below X1.heap.size X1 V∧Row V X1.heap.size 5 B m2 d2 (opath.flatMap zCa))
   case first =>
    go_region_held3 (fun wx=>Below X1.heap.size X1 wx∧wx.cell? ⟨aQ,0,none⟩=some (.slice A n c)∧wx.cell? ⟨aQ,1,none⟩=some (.int .i64 re)∧wx.cell? ⟨aQ,2,none⟩=some (.int .i64 lo)∧wx.cell? ⟨ga,oa+i,none⟩=some (.string (bA P))) (first | (with_reducible refine KP.out _ ?_;repeat (first | with_reducible assumption | with_reducible exact And.left (by assumption) | ((with_reducible refine zAd ?_ ?_ _ _ _ _ _ _ _ _);rotate_left;(focus first | omega | (simp;done) | (simp;omega))) | with_reducible exact Below.refl _ _ | with_reducible apply Below.drew | ((with_reducible refine zDI ?_ ?_);focus (first | omega | (simp;done) | (simp;omega))))))
     (first | (go_at_call 20;refine (GU.out _ (And.left (by assumption))).mono ?_;rintro e wd ⟨B,m2,d2,rfl,nW,db,hbd⟩;have gE:=qH db;clear db;have hbq:Below X1.heap.size X1 wd:=zAa (And.left (by assumption)) hbd (Below.size (And.left (by assumption)));have zO:=Below.size hbq;have El:=nW.mono (show X1.heap.size≤_ from Below.size (And.left (by assumption)));(try (refine (fun (bF:Blk wd X1.heap.size 32 #[.int .i64 0,.int .i64 0,.int .i64 0,.int .i64 0,.bool false,.int .i64 0,.slice none 0 0,.bool false])=>?_) (Blk.below ?_ hbd ?_);rotate_left;(focus first | exact Blk.drew (Blk.new _ _ _) | exact Blk.new _ _ _);(focus first | (simp;done) | (simp;omega));have zu:wd.cell? ⟨X1.heap.size,0,none⟩=some (.int .i64 0):=(bF.cell 0).trans rfl;have Ay:=bF.frozen 0;have zr:wd.cell? ⟨X1.heap.size,1,none⟩=some (.int .i64 0):=(bF.cell 1).trans rfl;have Ax:=bF.frozen 1;have zq:wd.cell? ⟨X1.heap.size,2,none⟩=some (.int .i64 0):=(bF.cell 2).trans rfl;have Aw:=bF.frozen 2;have zo:wd.cell? ⟨X1.heap.size,3,none⟩=some (.int .i64 0):=(bF.cell 3).trans rfl;have Av:=bF.frozen 3;have A6:wd.cell? ⟨X1.heap.size,4,none⟩=some (.bool false):=(bF.cell 4).trans rfl;have CW:=bF.frozen 4;have A5:wd.cell? ⟨X1.heap.size,5,none⟩=some (.int .i64 0):=(bF.cell 5).trans rfl;have CV:=bF.frozen 5;have A4:wd.cell? ⟨X1.heap.size,6,none⟩=some (.slice none 0 0):=(bF.cell 6).trans rfl;have CU:=bF.frozen 6;have AZ:wd.cell? ⟨X1.heap.size,7,none⟩=some (.bool false):=(bF.cell 7).trans rfl;have CT:=bF.frozen 7;have frB:∀k,blk B=some k→k≠X1.heap.size:=(fun k hk=>Nat.ne_of_gt (by have h9:=(nW.lt k hk).1;simp at h9;omega))))))
    all_goals
     go_wp2_with fail
     go_meet
    all_goals refine ⟨_,_,B,m2,d2,rfl,rfl,rfl,gE.out,?_,?_,?_,?_⟩
    all_goals first
     | with_reducible exact Blk.new _ _ _
     | with_reducible exact zO
     | with_reducible exact hbq.alloc zO _
     | with_reducible exact Blk.store8 bF (.int .i64 okind) (.int .i64 of) (.int .i64 off) (.int .i64 ofl) (.bool offar) (.int .i64 ofpc) (.slice B m2 d2) (.bool oover)
     | with_reducible exact Nat.le_refl _
     | with_reducible exact zAd hbq (Nat.le_refl _) (.int .i64 okind) (.int .i64 of) (.int .i64 off) (.int .i64 ofl) (.bool offar) (.int .i64 ofpc) (.slice B m2 d2) (.bool oover)
     | with_reducible exact El.alloc _
     | with_reducible exact El.store8of frB (.int .i64 okind) (.int .i64 of) (.int .i64 off) (.int .i64 ofl) (.bool offar) (.int .i64 ofpc) (.slice B m2 d2) (.bool oover)
   case rest =>
    obtain ⟨V,b4,B,m2,d2,hV,rfl,rfl,db,ab,hge,hbv,zA⟩:=hcut;subst hV;have gE:=qH db;clear db KP uW uV yw yv GU;by_cases h0:er=0
    ·subst h0;have zc:=qH (mO.out.trans (if_pos rfl));have mB:=vq.out.below hbv;have tV:m2≤1000000:=by rw [gE.out];exact gD.out
     have hzz:Y.heap.size≤X1.heap.size:=Gn.out.size;have qr:=qH (show Y.heap.size≤V.heap.size from Nat.le_trans hzz hbv.size)
     have qu:=qH (show ∀k,blk B=some k→k < V.heap.size∧blk A'≠some k from fun k hk=>by
      have h1:=zA.lt k hk
      refine ⟨h1.2,fun e2=>?_⟩
      have h2:=(vq.out.row.lt k e2).2
      omega)
     have qt:=qH zA;have cm:=zAa Gn.out hbv hzz;have f0:V.cell? ⟨b4,0,none⟩=some (.int .i64 okind):=(ab.cell 0).trans rfl;have f1:V.cell? ⟨b4,1,none⟩=some (.int .i64 of):=(ab.cell 1).trans rfl;have f2:V.cell? ⟨b4,2,none⟩=some (.int .i64 off):=(ab.cell 2).trans rfl;have f3:V.cell? ⟨b4,3,none⟩=some (.int .i64 ofl):=(ab.cell 3).trans rfl;have f4:V.cell? ⟨b4,4,none⟩=some (.bool offar):=(ab.cell 4).trans rfl;have f5:V.cell? ⟨b4,5,none⟩=some (.int .i64 ofpc):=(ab.cell 5).trans rfl;have f6:V.cell? ⟨b4,6,none⟩=some (.slice B m2 d2):=(ab.cell 6).trans rfl;have f7:V.cell? ⟨b4,7,none⟩=some (.bool oover):=(ab.cell 7).trans rfl;clear zA ab;go_upto_region 7 with (at_builtin;refine zEV ?_)
     refine qH ?_;refine zUj (y:=⟨⟨okind,of,⟨off,ofl,offar,ofpc⟩,opath,oover⟩,B,m2,d2⟩) (N:=i+1) (base:=Y.heap.size) (A:=A') (n:=i) (c:=c') (Es:=Es) rfl (.tmp 37) (.tmp 39) ?_ ?_ ?_ ?_ ?_ ?_ ?_ ?_
     ·rfl
     ·exact mB.row
     ·rfl
     ·rfl
     ·rfl
     ·omega
     ·exact qr.out
     intro A2 c2 w9 hR9 cl ck;have aS:=mB.row.belowOf cl qr.out;have fH:=mB.push ⟨⟨okind,of,⟨off,ofl,offar,ofpc⟩,opath,oover⟩,B,m2,d2⟩ ⟨jO.out.1,zHo qt.out tV jO.out.2,qt.out.cap,qu.out⟩ hR9 cl ck;have hbz:=cm.trans aS;have HF:=qH (show (Es++[(⟨⟨okind,of,⟨off,ofl,offar,ofpc⟩,opath,oover⟩,B,m2,d2⟩:Oe)]).length=i+1∧(TO,TN,TE)=zAQ L (T.drop (i+1)) (List.map (fun x:Oe=>x.o) (Es++[(⟨⟨okind,of,⟨off,ofl,offar,ofpc⟩,opath,oover⟩,B,m2,d2⟩:Oe)])) from ⟨by simp [iI.out],by rw [zc.out,List.map_append];rfl⟩);clear mB cl ck hR9 aS cm hbv f0 f1 f2 f3 f4 f5 f6 f7;go_wp2_with fail
     go_roundw
     case rel=>exact ⟨_,A2,i+1,c2,_,rfl,rfl,by go_num,hlt,fH,hbz,HF⟩
     case measure=>simp [intOf];omega
    ·have k0:(er != 0)=true:=by simpa using h0
     have HF:=qH (fm.out [] i er (by rw [mO.out,if_neg h0,List.length_map,iI.out]) _ V ⟨none,0,0,[],rfl,rfl,by omega,OpsOwn.none_ _ _,zAa gW.out hbv gW.out.size⟩);clear ab zA hbv h0;go_wp2_with fail
     go_ret3
     exact HF.out
  ·have j1:¬(i:Int)+1 < (m:Int):=by omega
   have him:i+1=m:=by omega
   have hlast:=zMf L (T:=T) (i:=i) (by rw [eZ.out];exact him) (List.map (fun x:Oe=>x.o) Es);obtain ⟨hgx,x0⟩:=jN.out.cell (j:=i) (show i < m by omega);obtain ⟨P,hP⟩:∃P,xa T i=P:=⟨_,rfl⟩
   rw [hP] at hlast x0;have q2:(m:Int)-1=(i:Int):=by omega
   have q4:IntKind.i64.wrap (i:Int)=(i:Int):=IntWalk.i64_in _ (by omega);have i1:i < m:=by omega
   have i2:(0:Int)≤(i:Int):=by omega
   have i3:(i:Int) < (m:Int):=by omega
   by_cases h0:P=[]
   ·have n0:((bA P).toList==[])=true:=by rw [zAr,h0];rfl
    have n1:(bA P).toList.isEmpty=true:=by rw [zAr,h0];rfl
    have HF:=qH (fm.out (List.map (fun x:Oe=>x.o) Es) i 0 (by rw [HI.out.2,hlast,if_pos h0,List.length_map,HI.out.1]) _ X1 ⟨A',i,c',Es,rfl,rfl,by omega,vq.out.mono hz,gW.out⟩);clear hlast hP h0 him;go_wp2_with fail
    go_ret3
    exact HF.out
   ·have n0:((bA P).toList==[])=false:=by rw [zAr];simpa using h0
    have n1:(bA P).toList.isEmpty=false:=by rw [zAr];simpa using h0
    have HF:=qH (fm.out [] i 6 (by rw [HI.out.2,hlast,if_neg h0,List.length_map,HI.out.1]) _ X1 ⟨none,0,0,[],rfl,rfl,by omega,OpsOwn.none_ _ _,gW.out⟩);clear hlast hP h0 him;go_wp2_with fail
    go_ret3
    exact HF.out
section
variable {L:List Fg} {re lo:Int}
theorem zHE {O:List Og} (h:zAF L re lo O=0):frB L re lo=true∧frOk L re lo∧∀o∈O,zAg L.length o=true:=by
 rcases zCA L re lo O with ⟨_,h1,h2⟩ | h2
 ·exact ⟨zCB.2 h1,h1,h2⟩
 ·rw [h2] at h;cases h
end
theorem zFo {n:Nat} {b:Bool} (h:decide (n≤60)=b) (A:Option Addr) (c:Nat) (re lo:Int) (w:World) :
  Calls Tryz.prog 15 #[frV A n c re lo] w fun e w'=>e=.returned (.bool b)∧Below w.heap.size w w':=by
 subst h;exact zQm A n c re lo w
theorem zMg {Es:List Oe} {most:Nat} {b:Bool} (h:zQp most Es=b) (A:Option Addr) (n c:Nat) (w:World) (hA:Oprs w A n Es) (hm:most≤1000) :
  Calls Tryz.prog 21 #[.slice A n c,.int .i64 (most:Int)] w fun e w'=>e=.returned (.bool b)∧Below w.heap.size w w':=by
 subst h;exact zUT A n c Es most w hA hm
theorem zSI {A:Option Addr} {n c:Nat} {L:List Fg} {re lo:Int} {B:Option Addr} {m:Nat} {Es:List Oe} {E:Int} {S:List UInt8} (hE:zAF L re lo (ogs Es)=E) (hS:(if E=0 then zBD L (ogs Es) else [])=S) (d:Nat) (w:World) (hA:Fgs w A n L) (hc:n≤c) (hO:Oprs w B m Es) (hm:m≤10000) (hf:zTJ Es) (ht:Tabs w) :
  Calls Tryz.prog 22 #[frV A n c re lo,.slice B m d] w fun e w'=>e=.returned (.tuple #[.string (bA S),.int .i64 E])∧Below w.heap.size w w':=by
 subst hE;subst hS;exact zGQ A n c L re lo B m d Es w hA hc hO hm hf ht
theorem zIr {Es Ds:List Oe} (h:ogs Es=ogs Ds) (A:Option Addr) (n c:Nat) (B:Option Addr) (m d:Nat) (w:World) (hA:Oprs w A n Es) (hB:Oprs w B m Ds) :
  Calls Tryz.prog 27 #[.slice A n c,.slice B m d] w fun e w'=>e=.returned (.bool true)∧Below w.heap.size w w':=by
 have:=zKE A n c Es B m d Ds w hA hB;rw [decide_eq_true h] at this;exact this
theorem zVk {most:Nat} {Es:List Oe} (h:zQp most Es=true):zTJ Es:=fun e he=>Nat.le_trans ((zJs h).2 e he) (by omega)
theorem zKQ {A:Option Addr} {n c:Nat} {L:List Fg} {re lo:Int} {S:List UInt8} {O:List Og} {k:Nat} {E:Int} (h:rlR L re lo S=(O,k,E)) (w:World) (hA:Fgs w A n L) (hc:n≤c) (ht:Tabs w) :
  Calls Tryz.prog 23 #[frV A n c re lo,.string (bA S)] w (zGc w O k E):=by
 have:=zDG ⟨A,n,c,L,re,lo⟩ S w hA hc ht;simp only at this;rw [h] at this;exact this
theorem zVl (S:List UInt8):((bA S).toList==(bA S).toList)=true:=beq_self_eq_true _
end Go.Proofs.YtlmdfmnbcndhoaaGreatDoor
