/-
  Lemmas, part 44. Conditions: each theorem's own.
-/
import Derived.Test.YtlmdfmnbcndhoaaGreatDoorRi41
import Derived.Test.YtlmdfmnbcndhoaaGreatDoorRi42
import Derived.Test.YtlmdfmnbcndhoaaGreatDoorRi43
namespace Go.Proofs.YtlmdfmnbcndhoaaGreatDoor
open Go.RowKit
theorem zSc {S:List UInt8} {o:Og} (h:zIU S=o) (hS:S.length≤8000) (w:World):Calls Tryz.prog 73 #[.string (bA S)] w (OpG w o):=by
 subst h;exact zQf S w hS
theorem zQg (L:List Fg) (T:List (List UInt8)):zQm L T 0 false false []:=⟨rfl,.inl ⟨rfl,[],by simp [zBy],rfl,rfl⟩⟩
set_option maxHeartbeats 12800000 in
set_option maxRecDepth 100000 in
theorem zHH (A:Option Addr) (n c:Nat) (L:List Fg) (re lo:Int) (S:List UInt8) (w:World) (hA:Fgs w A n L) (hv:frB L re lo=true) :
  Calls Tryz.prog 32 #[frV A n c re lo,.string (bA S)] w (zDj w (rsO L re lo S) (rsE L re lo S)):=by
 have hFL:L.length≤17592186043904:=by rw [hA.len];exact hA.le
 have hs:=zCo S;obtain ⟨nS,hnS⟩:∃k,S.length=k:=⟨_,rfl⟩
 rw [hnS] at hs;have HN:=qH hnS;have HA:=qH hA;have FL:=qH hFL;have HB:=qH (Below.refl w.heap.size w);obtain ⟨TO,hTO⟩:∃x,rsO L re lo S=x:=⟨_,rfl⟩
 obtain ⟨TE,hTE⟩:∃x,rsE L re lo S=x:=⟨_,rfl⟩
 have HTR:=qH (And.intro hTE hTO);rw [hTO,hTE];have GIV:=qH (fun (O:List Og) (er:Int) (h1:er=TE) (h2:O=TO) (e:Ending) (wx:World) (h:zDj w O er e wx)=>(show zDj w TO TE e wx by subst h1;subst h2;exact h));have HV:=qH hv;have bff:=zRW;clear hnS hA hTO hTE hv hFL;go_enter Tryz.func32,Tryz.ntmps32;have q1:=(Below.refl w.heap.size w).alloc (Nat.le_refl _) (.cells #[.slice A n c,.int .i64 re,.int .i64 lo] 24);have ge_fr:=HB.out.size;replace HB:=qH (zAa HB.out q1 HB.out.size);have k_fr:=Blk.new w 24 #[.slice A n c,.int .i64 re,.int .i64 lo];clear q1;go_upto_region 1 with fail
 generalize w.alloc (.cells #[.slice A n c,.int .i64 re,.int .i64 lo] 24)=X at k_fr HB ⊢;obtain ⟨a_fr,hz_fr⟩:∃a,w.heap.size=a:=⟨_,rfl⟩
 replace ge_fr:w.heap.size≤a_fr:=Nat.le_of_eq hz_fr;rw [hz_fr] at k_fr ⊢;clear hz_fr;by_cases h8:8000 < nS
 ·have i0:(8000:Int) < (nS:Int):=by omega
  have HF:=qH (by have h9:=zUu (L:=L) HV.out (show 8000 < S.length by rw [HN.out];exact h8);exact GIV.out [] 7 (by rw [←HTR.out.1,h9.1]) (by rw [←HTR.out.2,h9.2]) (.returned (.tuple #[.slice none 0 0,.int .i64 7])) X ⟨none,0,0,[],rfl,rfl,by omega,OpsOwn.none_ _ _,HB.out⟩);clear k_fr h8;go_wp2_with fail
  go_ret2;exact HF.out
 have i0:¬(8000:Int) < (nS:Int):=by omega
 have HIT:=qH (show TE=itE L S∧TO=itO L S by
  have h9:=zWL (L:=L) HV.out (show ¬8000 < S.length by rw [HN.out];exact h8)
  rw [←HTR.out.1,←HTR.out.2];exact h9)
 by_cases hS0:S=[]
 ·have n0:((bA S).toList==[])=true:=by rw [zAs,hS0];rfl
  have n1:(bA S).toList.isEmpty=true:=by rw [zAs,hS0];rfl
  have HF:=qH (GIV.out [] 0 (by rw [HIT.out.1,hS0,(zSK L).1]) (by rw [HIT.out.2,hS0,(zSK L).2]) (.returned (.tuple #[.slice none 0 0,.int .i64 0])) X ⟨none,0,0,[],rfl,rfl,by omega,OpsOwn.none_ _ _,HB.out⟩);clear k_fr h8 hS0;go_wp2_with fail
  go_ret2;exact HF.out
 have n0:((bA S).toList==[])=false:=by rw [zAs];simpa using hS0
 have n1:(bA S).toList.isEmpty=false:=by rw [zAs];simpa using hS0
 obtain ⟨T,hT⟩:∃T,zAH 32 S=T:=⟨_,rfl⟩
 have HTS:=qH hT;have HS0:=qH hS0;have HTL:=qH (show T.length≤8001 by rw [←hT];have:=zGq 32 S;rw [HN.out] at this;omega);have HTW:=qH (show ∀p∈T,p.length≤8000 from fun p hp=>by rw [←hT] at hp;have:=zAX 32 S p hp;rw [HN.out] at this;omega);have HSP:=qH (fun w=>zIV hT (by rw [HN.out];omega) w);clear h8 hT hS0 HTR;go_wp2_with fail
 refine (HSP.out _).mono ?_;rintro e Y ⟨B1,m,d1,rfl,r_wd,hm1,hb⟩;have fr_wd_fr:∀k,blk B1=some k→k≠a_fr:=fun k hk=>Nat.ne_of_gt (Nat.lt_of_lt_of_le k_fr.lt (r_wd.lt k hk).1)
 have gr_wd:=HB.out.size;replace k_fr:=k_fr.below hb k_fr.lt;replace HB:=qH (zAa HB.out hb HB.out.size);replace r_wd:=r_wd.mono gr_wd;clear hb gr_wd;have HLT:=qH (show T.length=m by have:=r_wd.len;simpa using this);have hm9:m≤8001:=by rw [←HLT.out];exact HTL.out
 have HTX:=qH (r_wd.txts (by omega));clear hm1 HSP HTL r_wd;go_wp2_with fail
 have HBY:=HB;have KFY:=qH k_fr;have HTY:=HTX;clear HB k_fr HTX;go_loopw [7,8,9] (fun v7 v8 v9 wv=>∃(V:World) (A':Option Addr) (i c':Nat) (Es:List Oe) (ms:Bool),V=wv∧v7=.slice A' i c'∧v8=.bool ms∧v9=.int .i64 i∧i≤m∧OpsOwn V Y.heap.size A' i c' Es∧Below Y.heap.size Y V∧Hid (zQm L T i false ms Es)) (fun _ _ v9 _=>m-(intOf v9).toNat)
 case atStart=>exact ⟨_,none,0,0,[],false,rfl,rfl,rfl,rfl,Nat.zero_le _,OpsOwn.none_ _ _,Below.refl _ _,qH (zQg L T)⟩
 case round =>
  obtain ⟨X1,A',i,c',Es,ms,hX,rfl,rfl,rfl,hi,hO,hb,HI⟩:=hrel;subst hX;have hz:w.heap.size≤Y.heap.size:=HBY.out.size;have HB:=qH (zAa HBY.out hb hz);have k_fr:=KFY.out.below hb KFY.out.lt;have HTX:=qH (HTY.out.below hb);have HYX:=qH hb;have HOX:=qH hO;clear hb hO HTY KFY HBY;by_cases hlt:i < m
  ·have j1:(i:Int) < (m:Int):=by omega
   have j2:(0:Int)≤(i:Int):=by omega
   have hxg:=zIfQ (T:=T) (i:=i) (by rw [HLT.out];exact hlt);have hwd:=HTW.out (xa T i) (List.mem_of_getElem? hxg);have hBo:∃gw ow,B1=some ⟨gw,ow,none⟩:=HTX.out.is (by omega)
   obtain ⟨ga,oa,rfl⟩:=hBo;obtain ⟨hgx,x0⟩:=HTX.out.cell (j:=i) hlt;obtain ⟨P,hP⟩:∃P,xa T i=P:=⟨_,rfl⟩
   rw [hP] at hwd x0 hxg;have HX0:=qH (show ga < X1.heap.size∧X1.cell? ⟨ga,oa+i,none⟩=some (.string (bA P)) from ⟨hgx,x0⟩);have HXG:=qH hxg;obtain ⟨o,ho⟩:∃o,zIU P=o:=⟨_,rfl⟩
   have hok:=zVP P;rw [ho] at hok;have HGS:=qH (fun w=>zSc ho hwd w);obtain ⟨r,hr⟩:∃b,zAh 126 o=b:=⟨_,rfl⟩
   obtain ⟨cn,hcn⟩:∃b,zCl AL o=b:=⟨_,rfl⟩
   obtain ⟨W,hW⟩:∃W,zBc AL o=W:=⟨_,rfl⟩
   obtain ⟨o',ho'⟩:∃x,zSo L o=x:=⟨_,rfl⟩
   obtain ⟨b',hb'⟩:∃x,zSp L o=x:=⟨_,rfl⟩
   have HNO:=qH (show (r&&cn&&decide (W=P))=false→TE=6∧TO=[] from fun h=>by
    have h1:zAy P=none:=by
     cases hs:zAy P with
     | none=>rfl
     | some n =>
      have:=(zMd L hs).1
      unfold okJ at this
      rw [ho,hr,hcn,hW,h] at this;cases this
    rw [HIT.out.1,HIT.out.2]
    exact zUt (i:=i) (P:=P) (by rw [HTS.out];exact HXG.out) h1 HS0.out)
   have HYES:=qH (show (r&&cn&&decide (W=P))=true→∃n0,zAy P=some n0∧o'=oOf L n0∧b' = !zAx L n0 from fun h=>by
    cases hs:zAy P with
    | none =>
     have:=zRb hs
     unfold okJ at this
     rw [ho,hr,hcn,hW,h] at this;cases this
    | some n =>
     obtain ⟨_,h2,h3⟩:=zMd L hs
     rw [ho,ho'] at h2
     rw [ho,hb'] at h3
     exact ⟨n,rfl,h2,h3⟩)
   have HOK:=qH hok;have HR:=qH hr;have HCN:=qH hcn;have HW:=qH hW;have HO':=qH ho';have HB':=qH hb';have HWD:=qH hwd;clear hok hr hcn hW ho ho' hb' hwd hP hxg hgx HTX HTW;obtain ⟨okind,of,⟨off,ofl,offar,ofpc⟩,opath,oover⟩:=o;obtain ⟨pkind,pf,⟨pff,pfl,pffar,pfpc⟩,ppath,pover⟩:=o';go_wp2_with fail
   refine (HGS.out _).mono ?_;rintro e Y0 ⟨B,m1,e1,rfl,r_o,hm,hb⟩;have HM:=qH hm;have hm19:m1≤10000:=by have h1:=HOK.out.2;have h2:=HWD.out;rw [hm];simp only at h1 ⊢;omega
   clear hm HGS x0;have fr_o_fr:∀k,blk B=some k→k≠a_fr:=fun k hk=>Nat.ne_of_gt (Nat.lt_of_lt_of_le k_fr.lt (r_o.lt k hk).1)
   have HY0:=qH (zAa (Below.refl X1.heap.size X1) hb (Nat.le_refl _));replace k_fr:=k_fr.below hb k_fr.lt;replace HB:=qH (zAa HB.out hb HB.out.size);clear hb;have hx0:=HY0.out.size;have q2:=(Below.refl Y0.heap.size Y0).alloc (Nat.le_refl _) (.cells #[.int .i64 okind,.int .i64 of,.int .i64 off,.int .i64 ofl,.bool offar,.int .i64 ofpc,.slice B m1 e1,.bool oover] 32);have lt_fr_op:=k_fr.lt;have fr_o_op:∀k,blk B=some k→k≠Y0.heap.size:=fun k hk=>Nat.ne_of_lt (r_o.lt k hk).2
   have ge_op:=HB.out.size;replace k_fr:=k_fr.below q2 k_fr.lt;replace r_o:=r_o.below q2;replace HB:=qH (zAa HB.out q2 HB.out.size);have k_op:=Blk.new Y0 32 #[.int .i64 okind,.int .i64 of,.int .i64 off,.int .i64 ofl,.bool offar,.int .i64 ofpc,.slice B m1 e1,.bool oover];clear q2;go_upto_region 12 with fail
   have HXZ:=qH (zAa HY0.out ((Below.refl Y0.heap.size Y0).alloc (Nat.le_refl _) (.cells #[.int .i64 okind,.int .i64 of,.int .i64 off,.int .i64 ofl,.bool offar,.int .i64 ofpc,.slice B m1 e1,.bool oover] 32)) hx0);clear HY0;generalize (Y0.alloc (.cells #[.int .i64 okind,.int .i64 of,.int .i64 off,.int .i64 ofl,.bool offar,.int .i64 ofpc,.slice B m1 e1,.bool oover] 32))=Z at HXZ k_fr k_op r_o HB ⊢;generalize hz_op:Y0.heap.size=a_op at k_op ge_op lt_fr_op fr_o_op hx0 ⊢;clear hz_op;have HOP:=qH (show OpIn Z ⟨okind,of,⟨off,ofl,offar,ofpc⟩,opath,oover⟩ B m1 e1 from ⟨HOK.out.1.1,zHa r_o (by omega) HOK.out.1.2,r_o.cap⟩);obtain ⟨q,hq⟩:∃q,(r&&cn&&decide (W=P))=q:=⟨_,rfl⟩
   have HQ:=qH hq;clear hq;have KOP:=qH k_op;go_cut [52] (fun v52 wv=>v52=.bool (!q)∧∃V:World,V=wv∧Below Z.heap.size Z V)
   case first =>
    have HXZ2:=qH (show ga < Z.heap.size∧Z.cell? ⟨ga,oa+i,none⟩=some (.string (bA P)) from ⟨Nat.lt_of_lt_of_le HX0.out.1 HXZ.out.size,(HXZ.out.cell (p:=⟨ga,oa+i,none⟩) HX0.out.1).trans HX0.out.2⟩);clear k_fr k_op r_o;clear hs HN FL GIV HIT n0 n1 i0 HTS HS0 HLT HI HYX HOX HX0 HXG HWD HB' HO' HNO HYES HM fr_o_fr fr_o_op fr_wd_fr hx0 ge_op lt_fr_op HXZ HB HV HA hm9 hz hi HOK ge_fr;have KP:=qH (show ∀wx,Below Z.heap.size Z wx→(Below Z.heap.size Z wx∧wx.cell? ⟨a_op,0,none⟩=some (.int .i64 okind)∧wx.cell? ⟨a_op,1,none⟩=some (.int .i64 of)∧wx.cell? ⟨a_op,2,none⟩=some (.int .i64 off)∧wx.cell? ⟨a_op,3,none⟩=some (.int .i64 ofl)∧wx.cell? ⟨a_op,4,none⟩=some (.bool offar)∧wx.cell? ⟨a_op,5,none⟩=some (.int .i64 ofpc)∧wx.cell? ⟨a_op,6,none⟩=some (.slice B m1 e1)∧wx.cell? ⟨a_op,7,none⟩=some (.bool oover)∧wx.cell? ⟨ga,oa+i,none⟩=some (.string (bA P))) from fun wx h=>⟨h,((KOP.out.below h KOP.out.lt).cell 0).trans rfl,((KOP.out.below h KOP.out.lt).cell 1).trans rfl,((KOP.out.below h KOP.out.lt).cell 2).trans rfl,((KOP.out.below h KOP.out.lt).cell 3).trans rfl,((KOP.out.below h KOP.out.lt).cell 4).trans rfl,((KOP.out.below h KOP.out.lt).cell 5).trans rfl,((KOP.out.below h KOP.out.lt).cell 6).trans rfl,((KOP.out.below h KOP.out.lt).cell 7).trans rfl,(h.cell (p:=⟨ga,oa+i,none⟩) HXZ2.out.1).trans HXZ2.out.2⟩);have hbq:Below Z.heap.size Z Z.drew:=(Below.refl _ _).drew
    cases r with
    | false =>
     have hqf:q=false:=by rw [←HQ.out];rfl
     subst hqf;refine wp_region_held_drew (S:=(fun wx=>Below Z.heap.size Z wx∧wx.cell? ⟨a_op,0,none⟩=some (.int .i64 okind)∧wx.cell? ⟨a_op,1,none⟩=some (.int .i64 of)∧wx.cell? ⟨a_op,2,none⟩=some (.int .i64 off)∧wx.cell? ⟨a_op,3,none⟩=some (.int .i64 ofl)∧wx.cell? ⟨a_op,4,none⟩=some (.bool offar)∧wx.cell? ⟨a_op,5,none⟩=some (.int .i64 ofpc)∧wx.cell? ⟨a_op,6,none⟩=some (.slice B m1 e1)∧wx.cell? ⟨a_op,7,none⟩=some (.bool oover)∧wx.cell? ⟨ga,oa+i,none⟩=some (.string (bA P)))) (by kernel_rfl) ?_ (fun hS=>?_)
     ·exact KP.out _ hbq
     refine wpAnyH_take (i:=0) (v:=?_) rfl (by kernel_rfl) (by kernel_rfl) (by kernel_rfl) (fun _ _ _ h=>h) (Or.inl ⟨by rfl,?_⟩) (by assumption) ?_
     rotate_left
     ·(intro wq hSw;(try dsimp only at hSw);go_simp;try (with_reducible rfl))
     (try simp only [Act.put,List.setIfInBounds_toArray,List.set_cons_zero,List.set_cons_succ,List.getElem_toArray,List.getElem_cons_zero])
     refine wpAnyH_ready (rs:=[1]) (by kernel_rfl) (by simp) ?_;refine AllReadyH.cons rfl (fun K hK=>?_) AllReadyH.nil;go_simp
     go_at_call 56
     refine (zCz _).mono ?_;rintro e wa ⟨A2,c2,rfl,hRa,hba⟩;replace hbq:Below Z.heap.size Z wa:=zAa hbq hba hbq.size;have HF:=qH (zEa hRa);clear hRa hba;go_wp2_with fail
     refine hK.out _ _ ?_ (fun hS=>?_)
     ·exact KP.out _ hbq
     clear hK K
     (try simp only [Act.put,List.setIfInBounds_toArray,List.set_cons_zero,List.set_cons_succ,List.getElem_toArray,List.getElem_cons_zero,List.getElem_cons_succ])
     refine wpAnyH_take (i:=2) (v:=?_) rfl (by kernel_rfl) (by kernel_rfl) (by kernel_rfl) (fun _ _ _ h=>h) (Or.inl ⟨by rfl,?_⟩) (by assumption) ?_
     rotate_left
     ·(intro wq hSw;(try dsimp only at hSw);go_simp;try (with_reducible rfl))
     (try simp only [Act.put,List.setIfInBounds_toArray,List.set_cons_zero,List.set_cons_succ,List.getElem_toArray,List.getElem_cons_zero,List.getElem_cons_succ])
     refine wpAnyH_take (i:=3) (v:=?_) rfl (by kernel_rfl) (by kernel_rfl) (by kernel_rfl) (fun _ _ _ h=>h) (Or.inl ⟨by rfl,?_⟩) (by assumption) ?_
     rotate_left
     ·(intro wq hSw;(try dsimp only at hSw);go_simp;try (with_reducible rfl))
     (try simp only [Act.put,List.setIfInBounds_toArray,List.set_cons_zero,List.set_cons_succ,List.getElem_toArray,List.getElem_cons_zero,List.getElem_cons_succ])
     refine wpAnyH_ready (rs:=[4]) (by kernel_rfl) (by simp) ?_;refine AllReadyH.cons rfl (fun K hK=>?_) AllReadyH.nil;go_simp
     go_at_call 55
     refine (zHo HR.out B m1 e1 _ (HOP.out.below hbq)).mono ?_;rintro e wr ⟨rfl,hbr0⟩;replace hbq:Below Z.heap.size Z wr:=zAa hbq hbr0 hbq.size;clear hbr0;go_wp2_with fail
     refine hK.out _ _ ?_ (fun hS=>?_)
     ·exact KP.out _ hbq
     clear hK K
     (try simp only [Act.put,List.setIfInBounds_toArray,List.set_cons_zero,List.set_cons_succ,List.getElem_toArray,List.getElem_cons_zero,List.getElem_cons_succ])
     refine wpAnyH_take (i:=5) (v:=?_) rfl (by kernel_rfl) (by kernel_rfl) (by kernel_rfl) (fun _ _ _ h=>h) (Or.inl ⟨by rfl,?_⟩) (by assumption) ?_
     rotate_left
     ·(intro wq hSw;(try dsimp only at hSw);go_simp;try (with_reducible rfl))
     (try simp only [Act.put,List.setIfInBounds_toArray,List.set_cons_zero,List.set_cons_succ,List.getElem_toArray,List.getElem_cons_zero,List.getElem_cons_succ])
     refine wpAnyH_take (i:=6) (v:=?_) rfl (by kernel_rfl) (by kernel_rfl) (by kernel_rfl) (fun _ _ _ h=>h) (Or.inl ⟨by rfl,?_⟩) (by assumption) ?_
     rotate_left
     ·(intro wq hSw;(try dsimp only at hSw);go_simp;try (with_reducible rfl))
     (try simp only [Act.put,List.setIfInBounds_toArray,List.set_cons_zero,List.set_cons_succ,List.getElem_toArray,List.getElem_cons_zero,List.getElem_cons_succ])
     refine wpAnyH_take (i:=7) (v:=undef) rfl (by kernel_rfl) (by kernel_rfl) (by kernel_rfl) (fun _ _ _ h=>h) (Or.inr ⟨by rfl,rfl⟩) (by assumption) ?_
     (try simp only [Act.put,List.setIfInBounds_toArray,List.set_cons_zero,List.set_cons_succ,List.getElem_toArray,List.getElem_cons_zero,List.getElem_cons_succ])
     refine wpAnyH_take (i:=8) (v:=undef) rfl (by kernel_rfl) (by kernel_rfl) (by kernel_rfl) (fun _ _ _ h=>h) (Or.inr ⟨by rfl,rfl⟩) (by assumption) ?_
     (try simp only [Act.put,List.setIfInBounds_toArray,List.set_cons_zero,List.set_cons_succ,List.getElem_toArray,List.getElem_cons_zero,List.getElem_cons_succ])
     refine wpAnyH_take (i:=9) (v:=undef) rfl (by kernel_rfl) (by kernel_rfl) (by kernel_rfl) (fun _ _ _ h=>h) (Or.inr ⟨by rfl,rfl⟩) (by assumption) ?_
     (try simp only [Act.put,List.setIfInBounds_toArray,List.set_cons_zero,List.set_cons_succ,List.getElem_toArray,List.getElem_cons_zero,List.getElem_cons_succ])
     refine wpAnyH_take (i:=10) (v:=undef) rfl (by kernel_rfl) (by kernel_rfl) (by kernel_rfl) (fun _ _ _ h=>h) (Or.inr ⟨by rfl,rfl⟩) (by assumption) ?_
     (try simp only [Act.put,List.setIfInBounds_toArray,List.set_cons_zero,List.set_cons_succ,List.getElem_toArray,List.getElem_cons_zero,List.getElem_cons_succ])
     refine wpAnyH_take (i:=11) (v:=?_) rfl (by kernel_rfl) (by kernel_rfl) (by kernel_rfl) (fun _ _ _ h=>h) (Or.inl ⟨by rfl,?_⟩) (by assumption) ?_
     rotate_left
     ·(intro wq hSw;(try dsimp only at hSw);go_simp;try (with_reducible rfl))
     (try simp only [Act.put,List.setIfInBounds_toArray,List.set_cons_zero,List.set_cons_succ,List.getElem_toArray,List.getElem_cons_zero,List.getElem_cons_succ])
     refine wpAnyH_take (i:=12) (v:=?_) rfl (by kernel_rfl) (by kernel_rfl) (by kernel_rfl) (fun _ _ _ h=>h) (Or.inl ⟨by rfl,?_⟩) (by assumption) ?_
     rotate_left
     ·(intro wq hSw;(try dsimp only at hSw);go_simp;try (with_reducible rfl))
     (try simp only [Act.put,List.setIfInBounds_toArray,List.set_cons_zero,List.set_cons_succ,List.getElem_toArray,List.getElem_cons_zero,List.getElem_cons_succ])
     refine wpAnyH_take (i:=13) (v:=undef) rfl (by kernel_rfl) (by kernel_rfl) (by kernel_rfl) (fun _ _ _ h=>h) (Or.inr ⟨by rfl,rfl⟩) (by assumption) ?_
     (try simp only [Act.put,List.setIfInBounds_toArray,List.set_cons_zero,List.set_cons_succ,List.getElem_toArray,List.getElem_cons_zero,List.getElem_cons_succ])
     refine wpAnyH_take (i:=14) (v:=undef) rfl (by kernel_rfl) (by kernel_rfl) (by kernel_rfl) (fun _ _ _ h=>h) (Or.inr ⟨by rfl,rfl⟩) (by assumption) ?_
     (try simp only [Act.put,List.setIfInBounds_toArray,List.set_cons_zero,List.set_cons_succ,List.getElem_toArray,List.getElem_cons_zero,List.getElem_cons_succ])
     refine wpAnyH_take (i:=15) (v:=undef) rfl (by kernel_rfl) (by kernel_rfl) (by kernel_rfl) (fun _ _ _ h=>h) (Or.inr ⟨by rfl,rfl⟩) (by assumption) ?_
     (try simp only [Act.put,List.setIfInBounds_toArray,List.set_cons_zero,List.set_cons_succ,List.getElem_toArray,List.getElem_cons_zero,List.getElem_cons_succ])
     refine wpAnyH_take (i:=16) (v:=undef) rfl (by kernel_rfl) (by kernel_rfl) (by kernel_rfl) (fun _ _ _ h=>h) (Or.inr ⟨by rfl,rfl⟩) (by assumption) ?_
     (try simp only [Act.put,List.setIfInBounds_toArray,List.set_cons_zero,List.set_cons_succ,List.getElem_toArray,List.getElem_cons_zero,List.getElem_cons_succ])
     refine wpAnyH_take (i:=17) (v:=undef) rfl (by kernel_rfl) (by kernel_rfl) (by kernel_rfl) (fun _ _ _ h=>h) (Or.inr ⟨by rfl,rfl⟩) (by assumption) ?_
     (try simp only [Act.put,List.setIfInBounds_toArray,List.set_cons_zero,List.set_cons_succ,List.getElem_toArray,List.getElem_cons_zero,List.getElem_cons_succ])
     refine wpAnyH_take (i:=18) (v:=undef) rfl (by kernel_rfl) (by kernel_rfl) (by kernel_rfl) (fun _ _ _ h=>h) (Or.inr ⟨by rfl,rfl⟩) (by assumption) ?_
     (try simp only [Act.put,List.setIfInBounds_toArray,List.set_cons_zero,List.set_cons_succ,List.getElem_toArray,List.getElem_cons_zero,List.getElem_cons_succ])
     refine wpAnyH_take (i:=19) (v:=undef) rfl (by kernel_rfl) (by kernel_rfl) (by kernel_rfl) (fun _ _ _ h=>h) (Or.inr ⟨by rfl,rfl⟩) (by assumption) ?_
     (try simp only [Act.put,List.setIfInBounds_toArray,List.set_cons_zero,List.set_cons_succ,List.getElem_toArray,List.getElem_cons_zero,List.getElem_cons_succ])
     refine wpAnyH_take (i:=20) (v:=undef) rfl (by kernel_rfl) (by kernel_rfl) (by kernel_rfl) (fun _ _ _ h=>h) (Or.inr ⟨by rfl,rfl⟩) (by assumption) ?_
     (try simp only [Act.put,List.setIfInBounds_toArray,List.set_cons_zero,List.set_cons_succ,List.getElem_toArray,List.getElem_cons_zero,List.getElem_cons_succ])
     refine wpAnyH_take (i:=21) (v:=?_) rfl (by kernel_rfl) (by kernel_rfl) (by kernel_rfl) (fun _ _ _ h=>h) (Or.inl ⟨by rfl,?_⟩) (by assumption) ?_
     rotate_left
     ·(intro wq hSw;(try dsimp only at hSw);go_simp;try (with_reducible rfl))
     (try simp only [Act.put,List.setIfInBounds_toArray,List.set_cons_zero,List.set_cons_succ,List.getElem_toArray,List.getElem_cons_zero,List.getElem_cons_succ])
     refine wpAnyH_done (by kernel_rfl) ?_ _;go_wp2_with fail
     go_meet
     case rel=>exact ⟨rfl,_,rfl,hbq⟩
    | true =>
     cases cn with
     | false =>
      have hqf:q=false:=by rw [←HQ.out];rfl
      subst hqf;refine wp_region_held_drew (S:=(fun wx=>Below Z.heap.size Z wx∧wx.cell? ⟨a_op,0,none⟩=some (.int .i64 okind)∧wx.cell? ⟨a_op,1,none⟩=some (.int .i64 of)∧wx.cell? ⟨a_op,2,none⟩=some (.int .i64 off)∧wx.cell? ⟨a_op,3,none⟩=some (.int .i64 ofl)∧wx.cell? ⟨a_op,4,none⟩=some (.bool offar)∧wx.cell? ⟨a_op,5,none⟩=some (.int .i64 ofpc)∧wx.cell? ⟨a_op,6,none⟩=some (.slice B m1 e1)∧wx.cell? ⟨a_op,7,none⟩=some (.bool oover)∧wx.cell? ⟨ga,oa+i,none⟩=some (.string (bA P)))) (by kernel_rfl) ?_ (fun hS=>?_)
      ·exact KP.out _ hbq
      refine wpAnyH_take (i:=0) (v:=?_) rfl (by kernel_rfl) (by kernel_rfl) (by kernel_rfl) (fun _ _ _ h=>h) (Or.inl ⟨by rfl,?_⟩) (by assumption) ?_
      rotate_left
      ·(intro wq hSw;(try dsimp only at hSw);go_simp;try (with_reducible rfl))
      (try simp only [Act.put,List.setIfInBounds_toArray,List.set_cons_zero,List.set_cons_succ,List.getElem_toArray,List.getElem_cons_zero])
      refine wpAnyH_ready (rs:=[1]) (by kernel_rfl) (by simp) ?_;refine AllReadyH.cons rfl (fun K hK=>?_) AllReadyH.nil;go_simp
      go_at_call 56
      refine (zCz _).mono ?_;rintro e wa ⟨A2,c2,rfl,hRa,hba⟩;replace hbq:Below Z.heap.size Z wa:=zAa hbq hba hbq.size;have HF:=qH (zEa hRa);clear hRa hba;go_wp2_with fail
      refine hK.out _ _ ?_ (fun hS=>?_)
      ·exact KP.out _ hbq
      clear hK K
      (try simp only [Act.put,List.setIfInBounds_toArray,List.set_cons_zero,List.set_cons_succ,List.getElem_toArray,List.getElem_cons_zero,List.getElem_cons_succ])
      refine wpAnyH_take (i:=2) (v:=?_) rfl (by kernel_rfl) (by kernel_rfl) (by kernel_rfl) (fun _ _ _ h=>h) (Or.inl ⟨by rfl,?_⟩) (by assumption) ?_
      rotate_left
      ·(intro wq hSw;(try dsimp only at hSw);go_simp;try (with_reducible rfl))
      (try simp only [Act.put,List.setIfInBounds_toArray,List.set_cons_zero,List.set_cons_succ,List.getElem_toArray,List.getElem_cons_zero,List.getElem_cons_succ])
      refine wpAnyH_take (i:=3) (v:=?_) rfl (by kernel_rfl) (by kernel_rfl) (by kernel_rfl) (fun _ _ _ h=>h) (Or.inl ⟨by rfl,?_⟩) (by assumption) ?_
      rotate_left
      ·(intro wq hSw;(try dsimp only at hSw);go_simp;try (with_reducible rfl))
      (try simp only [Act.put,List.setIfInBounds_toArray,List.set_cons_zero,List.set_cons_succ,List.getElem_toArray,List.getElem_cons_zero,List.getElem_cons_succ])
      refine wpAnyH_ready (rs:=[4]) (by kernel_rfl) (by simp) ?_;refine AllReadyH.cons rfl (fun K hK=>?_) AllReadyH.nil;go_simp
      go_at_call 55
      refine (zHo HR.out B m1 e1 _ (HOP.out.below hbq)).mono ?_;rintro e wr ⟨rfl,hbr0⟩;replace hbq:Below Z.heap.size Z wr:=zAa hbq hbr0 hbq.size;clear hbr0;go_wp2_with fail
      refine hK.out _ _ ?_ (fun hS=>?_)
      ·exact KP.out _ hbq
      clear hK K
      (try simp only [Act.put,List.setIfInBounds_toArray,List.set_cons_zero,List.set_cons_succ,List.getElem_toArray,List.getElem_cons_zero,List.getElem_cons_succ])
      refine wpAnyH_take (i:=5) (v:=?_) rfl (by kernel_rfl) (by kernel_rfl) (by kernel_rfl) (fun _ _ _ h=>h) (Or.inl ⟨by rfl,?_⟩) (by assumption) ?_
      rotate_left
      ·(intro wq hSw;(try dsimp only at hSw);go_simp;try (with_reducible rfl))
      (try simp only [Act.put,List.setIfInBounds_toArray,List.set_cons_zero,List.set_cons_succ,List.getElem_toArray,List.getElem_cons_zero,List.getElem_cons_succ])
      refine wpAnyH_take (i:=6) (v:=?_) rfl (by kernel_rfl) (by kernel_rfl) (by kernel_rfl) (fun _ _ _ h=>h) (Or.inl ⟨by rfl,?_⟩) (by assumption) ?_
      rotate_left
      ·(intro wq hSw;(try dsimp only at hSw);go_simp;try (with_reducible rfl))
      (try simp only [Act.put,List.setIfInBounds_toArray,List.set_cons_zero,List.set_cons_succ,List.getElem_toArray,List.getElem_cons_zero,List.getElem_cons_succ])
      refine wpAnyH_take (i:=8) (v:=?_) rfl (by kernel_rfl) (by kernel_rfl) (by kernel_rfl) (fun _ _ _ h=>h) (Or.inl ⟨by rfl,?_⟩) (by assumption) ?_
      rotate_left
      ·(intro wq hSw;(try dsimp only at hSw);go_simp;try (with_reducible rfl))
      (try simp only [Act.put,List.setIfInBounds_toArray,List.set_cons_zero,List.set_cons_succ,List.getElem_toArray,List.getElem_cons_zero,List.getElem_cons_succ])
      refine wpAnyH_ready (rs:=[7]) (by kernel_rfl) (by simp) ?_;refine AllReadyH.cons rfl (fun K hK=>?_) AllReadyH.nil;go_simp
      go_at_call 56
      refine (zCz _).mono ?_;rintro e wa ⟨A2,c2,rfl,hRa,hba⟩;replace hbq:Below Z.heap.size Z wa:=zAa hbq hba hbq.size;have HF:=qH (zEa hRa);clear hRa hba;go_wp2_with fail
      refine hK.out _ _ ?_ (fun hS=>?_)
      ·exact KP.out _ hbq
      clear hK K
      (try simp only [Act.put,List.setIfInBounds_toArray,List.set_cons_zero,List.set_cons_succ,List.getElem_toArray,List.getElem_cons_zero,List.getElem_cons_succ])
      refine wpAnyH_ready (rs:=[9]) (by kernel_rfl) (by simp) ?_;refine AllReadyH.cons rfl (fun K hK=>?_) AllReadyH.nil;go_simp
      go_at_call 29
      refine (zPV HCN.out B m1 e1 _ HF.out (HOP.out.below hbq) HR.out).mono ?_;rintro e wc ⟨rfl,hbc0⟩;replace hbq:Below Z.heap.size Z wc:=zAa hbq hbc0 hbq.size;clear hbc0;go_wp2_with fail
      refine hK.out _ _ ?_ (fun hS=>?_)
      ·exact KP.out _ hbq
      clear hK K
      (try simp only [Act.put,List.setIfInBounds_toArray,List.set_cons_zero,List.set_cons_succ,List.getElem_toArray,List.getElem_cons_zero,List.getElem_cons_succ])
      refine wpAnyH_take (i:=10) (v:=?_) rfl (by kernel_rfl) (by kernel_rfl) (by kernel_rfl) (fun _ _ _ h=>h) (Or.inl ⟨by rfl,?_⟩) (by assumption) ?_
      rotate_left
      ·(intro wq hSw;(try dsimp only at hSw);go_simp;try (with_reducible rfl))
      (try simp only [Act.put,List.setIfInBounds_toArray,List.set_cons_zero,List.set_cons_succ,List.getElem_toArray,List.getElem_cons_zero,List.getElem_cons_succ])
      refine wpAnyH_take (i:=11) (v:=?_) rfl (by kernel_rfl) (by kernel_rfl) (by kernel_rfl) (fun _ _ _ h=>h) (Or.inl ⟨by rfl,?_⟩) (by assumption) ?_
      rotate_left
      ·(intro wq hSw;(try dsimp only at hSw);go_simp;try (with_reducible rfl))
      (try simp only [Act.put,List.setIfInBounds_toArray,List.set_cons_zero,List.set_cons_succ,List.getElem_toArray,List.getElem_cons_zero,List.getElem_cons_succ])
      refine wpAnyH_take (i:=12) (v:=?_) rfl (by kernel_rfl) (by kernel_rfl) (by kernel_rfl) (fun _ _ _ h=>h) (Or.inl ⟨by rfl,?_⟩) (by assumption) ?_
      rotate_left
      ·(intro wq hSw;(try dsimp only at hSw);go_simp;try (with_reducible rfl))
      (try simp only [Act.put,List.setIfInBounds_toArray,List.set_cons_zero,List.set_cons_succ,List.getElem_toArray,List.getElem_cons_zero,List.getElem_cons_succ])
      refine wpAnyH_take (i:=13) (v:=undef) rfl (by kernel_rfl) (by kernel_rfl) (by kernel_rfl) (fun _ _ _ h=>h) (Or.inr ⟨by rfl,rfl⟩) (by assumption) ?_
      (try simp only [Act.put,List.setIfInBounds_toArray,List.set_cons_zero,List.set_cons_succ,List.getElem_toArray,List.getElem_cons_zero,List.getElem_cons_succ])
      refine wpAnyH_take (i:=14) (v:=undef) rfl (by kernel_rfl) (by kernel_rfl) (by kernel_rfl) (fun _ _ _ h=>h) (Or.inr ⟨by rfl,rfl⟩) (by assumption) ?_
      (try simp only [Act.put,List.setIfInBounds_toArray,List.set_cons_zero,List.set_cons_succ,List.getElem_toArray,List.getElem_cons_zero,List.getElem_cons_succ])
      refine wpAnyH_take (i:=15) (v:=undef) rfl (by kernel_rfl) (by kernel_rfl) (by kernel_rfl) (fun _ _ _ h=>h) (Or.inr ⟨by rfl,rfl⟩) (by assumption) ?_
      (try simp only [Act.put,List.setIfInBounds_toArray,List.set_cons_zero,List.set_cons_succ,List.getElem_toArray,List.getElem_cons_zero,List.getElem_cons_succ])
      refine wpAnyH_take (i:=16) (v:=undef) rfl (by kernel_rfl) (by kernel_rfl) (by kernel_rfl) (fun _ _ _ h=>h) (Or.inr ⟨by rfl,rfl⟩) (by assumption) ?_
      (try simp only [Act.put,List.setIfInBounds_toArray,List.set_cons_zero,List.set_cons_succ,List.getElem_toArray,List.getElem_cons_zero,List.getElem_cons_succ])
      refine wpAnyH_take (i:=17) (v:=undef) rfl (by kernel_rfl) (by kernel_rfl) (by kernel_rfl) (fun _ _ _ h=>h) (Or.inr ⟨by rfl,rfl⟩) (by assumption) ?_
      (try simp only [Act.put,List.setIfInBounds_toArray,List.set_cons_zero,List.set_cons_succ,List.getElem_toArray,List.getElem_cons_zero,List.getElem_cons_succ])
      refine wpAnyH_take (i:=18) (v:=undef) rfl (by kernel_rfl) (by kernel_rfl) (by kernel_rfl) (fun _ _ _ h=>h) (Or.inr ⟨by rfl,rfl⟩) (by assumption) ?_
      (try simp only [Act.put,List.setIfInBounds_toArray,List.set_cons_zero,List.set_cons_succ,List.getElem_toArray,List.getElem_cons_zero,List.getElem_cons_succ])
      refine wpAnyH_take (i:=19) (v:=undef) rfl (by kernel_rfl) (by kernel_rfl) (by kernel_rfl) (fun _ _ _ h=>h) (Or.inr ⟨by rfl,rfl⟩) (by assumption) ?_
      (try simp only [Act.put,List.setIfInBounds_toArray,List.set_cons_zero,List.set_cons_succ,List.getElem_toArray,List.getElem_cons_zero,List.getElem_cons_succ])
      refine wpAnyH_take (i:=20) (v:=undef) rfl (by kernel_rfl) (by kernel_rfl) (by kernel_rfl) (fun _ _ _ h=>h) (Or.inr ⟨by rfl,rfl⟩) (by assumption) ?_
      (try simp only [Act.put,List.setIfInBounds_toArray,List.set_cons_zero,List.set_cons_succ,List.getElem_toArray,List.getElem_cons_zero,List.getElem_cons_succ])
      refine wpAnyH_take (i:=21) (v:=?_) rfl (by kernel_rfl) (by kernel_rfl) (by kernel_rfl) (fun _ _ _ h=>h) (Or.inl ⟨by rfl,?_⟩) (by assumption) ?_
      rotate_left
      ·(intro wq hSw;(try dsimp only at hSw);go_simp;try (with_reducible rfl))
      (try simp only [Act.put,List.setIfInBounds_toArray,List.set_cons_zero,List.set_cons_succ,List.getElem_toArray,List.getElem_cons_zero,List.getElem_cons_succ])
      refine wpAnyH_done (by kernel_rfl) ?_ _;go_wp2_with fail
      go_meet
      case rel=>exact ⟨rfl,_,rfl,hbq⟩
     | true =>
      have n1:((bA W).toList==(bA P).toList)=q:=by rw [←HQ.out,zBD,Bool.true_and,Bool.true_and];by_cases e:W=P<;>simp [e]
      refine wp_region_held_drew (S:=(fun wx=>Below Z.heap.size Z wx∧wx.cell? ⟨a_op,0,none⟩=some (.int .i64 okind)∧wx.cell? ⟨a_op,1,none⟩=some (.int .i64 of)∧wx.cell? ⟨a_op,2,none⟩=some (.int .i64 off)∧wx.cell? ⟨a_op,3,none⟩=some (.int .i64 ofl)∧wx.cell? ⟨a_op,4,none⟩=some (.bool offar)∧wx.cell? ⟨a_op,5,none⟩=some (.int .i64 ofpc)∧wx.cell? ⟨a_op,6,none⟩=some (.slice B m1 e1)∧wx.cell? ⟨a_op,7,none⟩=some (.bool oover)∧wx.cell? ⟨ga,oa+i,none⟩=some (.string (bA P)))) (by kernel_rfl) ?_ (fun hS=>?_)
      ·exact KP.out _ hbq
      refine wpAnyH_take (i:=0) (v:=?_) rfl (by kernel_rfl) (by kernel_rfl) (by kernel_rfl) (fun _ _ _ h=>h) (Or.inl ⟨by rfl,?_⟩) (by assumption) ?_
      rotate_left
      ·(intro wq hSw;(try dsimp only at hSw);go_simp;try (with_reducible rfl))
      (try simp only [Act.put,List.setIfInBounds_toArray,List.set_cons_zero,List.set_cons_succ,List.getElem_toArray,List.getElem_cons_zero])
      refine wpAnyH_ready (rs:=[1]) (by kernel_rfl) (by simp) ?_;refine AllReadyH.cons rfl (fun K hK=>?_) AllReadyH.nil;go_simp
      go_at_call 56
      refine (zCz _).mono ?_;rintro e wa ⟨A2,c2,rfl,hRa,hba⟩;replace hbq:Below Z.heap.size Z wa:=zAa hbq hba hbq.size;have HF:=qH (zEa hRa);clear hRa hba;go_wp2_with fail
      refine hK.out _ _ ?_ (fun hS=>?_)
      ·exact KP.out _ hbq
      clear hK K
      (try simp only [Act.put,List.setIfInBounds_toArray,List.set_cons_zero,List.set_cons_succ,List.getElem_toArray,List.getElem_cons_zero,List.getElem_cons_succ])
      refine wpAnyH_take (i:=2) (v:=?_) rfl (by kernel_rfl) (by kernel_rfl) (by kernel_rfl) (fun _ _ _ h=>h) (Or.inl ⟨by rfl,?_⟩) (by assumption) ?_
      rotate_left
      ·(intro wq hSw;(try dsimp only at hSw);go_simp;try (with_reducible rfl))
      (try simp only [Act.put,List.setIfInBounds_toArray,List.set_cons_zero,List.set_cons_succ,List.getElem_toArray,List.getElem_cons_zero,List.getElem_cons_succ])
      refine wpAnyH_take (i:=3) (v:=?_) rfl (by kernel_rfl) (by kernel_rfl) (by kernel_rfl) (fun _ _ _ h=>h) (Or.inl ⟨by rfl,?_⟩) (by assumption) ?_
      rotate_left
      ·(intro wq hSw;(try dsimp only at hSw);go_simp;try (with_reducible rfl))
      (try simp only [Act.put,List.setIfInBounds_toArray,List.set_cons_zero,List.set_cons_succ,List.getElem_toArray,List.getElem_cons_zero,List.getElem_cons_succ])
      refine wpAnyH_ready (rs:=[4]) (by kernel_rfl) (by simp) ?_;refine AllReadyH.cons rfl (fun K hK=>?_) AllReadyH.nil;go_simp
      go_at_call 55
      refine (zHo HR.out B m1 e1 _ (HOP.out.below hbq)).mono ?_;rintro e wr ⟨rfl,hbr0⟩;replace hbq:Below Z.heap.size Z wr:=zAa hbq hbr0 hbq.size;clear hbr0;go_wp2_with fail
      refine hK.out _ _ ?_ (fun hS=>?_)
      ·exact KP.out _ hbq
      clear hK K
      (try simp only [Act.put,List.setIfInBounds_toArray,List.set_cons_zero,List.set_cons_succ,List.getElem_toArray,List.getElem_cons_zero,List.getElem_cons_succ])
      refine wpAnyH_take (i:=5) (v:=?_) rfl (by kernel_rfl) (by kernel_rfl) (by kernel_rfl) (fun _ _ _ h=>h) (Or.inl ⟨by rfl,?_⟩) (by assumption) ?_
      rotate_left
      ·(intro wq hSw;(try dsimp only at hSw);go_simp;try (with_reducible rfl))
      (try simp only [Act.put,List.setIfInBounds_toArray,List.set_cons_zero,List.set_cons_succ,List.getElem_toArray,List.getElem_cons_zero,List.getElem_cons_succ])
      refine wpAnyH_take (i:=6) (v:=?_) rfl (by kernel_rfl) (by kernel_rfl) (by kernel_rfl) (fun _ _ _ h=>h) (Or.inl ⟨by rfl,?_⟩) (by assumption) ?_
      rotate_left
      ·(intro wq hSw;(try dsimp only at hSw);go_simp;try (with_reducible rfl))
      (try simp only [Act.put,List.setIfInBounds_toArray,List.set_cons_zero,List.set_cons_succ,List.getElem_toArray,List.getElem_cons_zero,List.getElem_cons_succ])
      refine wpAnyH_take (i:=8) (v:=?_) rfl (by kernel_rfl) (by kernel_rfl) (by kernel_rfl) (fun _ _ _ h=>h) (Or.inl ⟨by rfl,?_⟩) (by assumption) ?_
      rotate_left
      ·(intro wq hSw;(try dsimp only at hSw);go_simp;try (with_reducible rfl))
      (try simp only [Act.put,List.setIfInBounds_toArray,List.set_cons_zero,List.set_cons_succ,List.getElem_toArray,List.getElem_cons_zero,List.getElem_cons_succ])
      refine wpAnyH_ready (rs:=[7]) (by kernel_rfl) (by simp) ?_;refine AllReadyH.cons rfl (fun K hK=>?_) AllReadyH.nil;go_simp
      go_at_call 56
      refine (zCz _).mono ?_;rintro e wa ⟨A2,c2,rfl,hRa,hba⟩;replace hbq:Below Z.heap.size Z wa:=zAa hbq hba hbq.size;have HF:=qH (zEa hRa);clear hRa hba;go_wp2_with fail
      refine hK.out _ _ ?_ (fun hS=>?_)
      ·exact KP.out _ hbq
      clear hK K
      (try simp only [Act.put,List.setIfInBounds_toArray,List.set_cons_zero,List.set_cons_succ,List.getElem_toArray,List.getElem_cons_zero,List.getElem_cons_succ])
      refine wpAnyH_ready (rs:=[9]) (by kernel_rfl) (by simp) ?_;refine AllReadyH.cons rfl (fun K hK=>?_) AllReadyH.nil;go_simp
      go_at_call 29
      refine (zPV HCN.out B m1 e1 _ HF.out (HOP.out.below hbq) HR.out).mono ?_;rintro e wc ⟨rfl,hbc0⟩;replace hbq:Below Z.heap.size Z wc:=zAa hbq hbc0 hbq.size;clear hbc0;go_wp2_with fail
      refine hK.out _ _ ?_ (fun hS=>?_)
      ·exact KP.out _ hbq
      clear hK K
      (try simp only [Act.put,List.setIfInBounds_toArray,List.set_cons_zero,List.set_cons_succ,List.getElem_toArray,List.getElem_cons_zero,List.getElem_cons_succ])
      refine wpAnyH_take (i:=10) (v:=?_) rfl (by kernel_rfl) (by kernel_rfl) (by kernel_rfl) (fun _ _ _ h=>h) (Or.inl ⟨by rfl,?_⟩) (by assumption) ?_
      rotate_left
      ·(intro wq hSw;(try dsimp only at hSw);go_simp;try (with_reducible rfl))
      (try simp only [Act.put,List.setIfInBounds_toArray,List.set_cons_zero,List.set_cons_succ,List.getElem_toArray,List.getElem_cons_zero,List.getElem_cons_succ])
      refine wpAnyH_take (i:=11) (v:=?_) rfl (by kernel_rfl) (by kernel_rfl) (by kernel_rfl) (fun _ _ _ h=>h) (Or.inl ⟨by rfl,?_⟩) (by assumption) ?_
      rotate_left
      ·(intro wq hSw;(try dsimp only at hSw);go_simp;try (with_reducible rfl))
      (try simp only [Act.put,List.setIfInBounds_toArray,List.set_cons_zero,List.set_cons_succ,List.getElem_toArray,List.getElem_cons_zero,List.getElem_cons_succ])
      refine wpAnyH_take (i:=12) (v:=?_) rfl (by kernel_rfl) (by kernel_rfl) (by kernel_rfl) (fun _ _ _ h=>h) (Or.inl ⟨by rfl,?_⟩) (by assumption) ?_
      rotate_left
      ·(intro wq hSw;(try dsimp only at hSw);go_simp;try (with_reducible rfl))
      (try simp only [Act.put,List.setIfInBounds_toArray,List.set_cons_zero,List.set_cons_succ,List.getElem_toArray,List.getElem_cons_zero,List.getElem_cons_succ])
      refine wpAnyH_take (i:=14) (v:=?_) rfl (by kernel_rfl) (by kernel_rfl) (by kernel_rfl) (fun _ _ _ h=>h) (Or.inl ⟨by rfl,?_⟩) (by assumption) ?_
      rotate_left
      ·(intro wq hSw;(try dsimp only at hSw);go_simp;try (with_reducible rfl))
      (try simp only [Act.put,List.setIfInBounds_toArray,List.set_cons_zero,List.set_cons_succ,List.getElem_toArray,List.getElem_cons_zero,List.getElem_cons_succ])
      refine wpAnyH_take (i:=16) (v:=?_) rfl (by kernel_rfl) (by kernel_rfl) (by kernel_rfl) (fun _ _ _ h=>h) (Or.inl ⟨by rfl,?_⟩) (by assumption) ?_
      rotate_left
      ·(intro wq hSw;(try dsimp only at hSw);go_simp;try (with_reducible rfl))
      (try simp only [Act.put,List.setIfInBounds_toArray,List.set_cons_zero,List.set_cons_succ,List.getElem_toArray,List.getElem_cons_zero,List.getElem_cons_succ])
      refine wpAnyH_take (i:=17) (v:=?_) rfl (by kernel_rfl) (by kernel_rfl) (by kernel_rfl) (fun _ _ _ h=>h) (Or.inl ⟨by rfl,?_⟩) (by assumption) ?_
      rotate_left
      ·(intro wq hSw;(try dsimp only at hSw);go_simp;try (with_reducible rfl))
      (try simp only [Act.put,List.setIfInBounds_toArray,List.set_cons_zero,List.set_cons_succ,List.getElem_toArray,List.getElem_cons_zero,List.getElem_cons_succ])
      refine wpAnyH_take (i:=18) (v:=?_) rfl (by kernel_rfl) (by kernel_rfl) (by kernel_rfl) (fun _ _ _ h=>h) (Or.inl ⟨by rfl,?_⟩) (by assumption) ?_
      rotate_left
      ·(intro wq hSw;(try dsimp only at hSw);go_simp;try (with_reducible rfl))
      (try simp only [Act.put,List.setIfInBounds_toArray,List.set_cons_zero,List.set_cons_succ,List.getElem_toArray,List.getElem_cons_zero,List.getElem_cons_succ])
      refine wpAnyH_take (i:=19) (v:=?_) rfl (by kernel_rfl) (by kernel_rfl) (by kernel_rfl) (fun _ _ _ h=>h) (Or.inl ⟨by rfl,?_⟩) (by assumption) ?_
      rotate_left
      ·(intro wq hSw;(try dsimp only at hSw);go_simp;try (with_reducible rfl))
      (try simp only [Act.put,List.setIfInBounds_toArray,List.set_cons_zero,List.set_cons_succ,List.getElem_toArray,List.getElem_cons_zero,List.getElem_cons_succ])
      refine wpAnyH_ready (rs:=[13]) (by kernel_rfl) (by simp) ?_;refine AllReadyH.cons rfl (fun K hK=>?_) AllReadyH.nil;go_simp
      go_at_call 56
      refine (zCz _).mono ?_;rintro e wa ⟨A2,c2,rfl,hRa,hba⟩;replace hbq:Below Z.heap.size Z wa:=zAa hbq hba hbq.size;have HF:=qH (zEa hRa);clear hRa hba;go_wp2_with fail
      refine hK.out _ _ ?_ (fun hS=>?_)
      ·exact KP.out _ hbq
      clear hK K
      (try simp only [Act.put,List.setIfInBounds_toArray,List.set_cons_zero,List.set_cons_succ,List.getElem_toArray,List.getElem_cons_zero,List.getElem_cons_succ])
      refine wpAnyH_ready (rs:=[15]) (by kernel_rfl) (by simp) ?_;refine AllReadyH.cons rfl (fun K hK=>?_) AllReadyH.nil;go_simp
      go_at_call 71
      refine (zUs HW.out B m1 e1 _ HF.out zVQ (HOP.out.below hbq) HR.out hm19).mono ?_;rintro e ww ⟨rfl,hbw⟩;replace hbq:Below Z.heap.size Z ww:=zAa hbq hbw hbq.size;clear hbw;go_wp2_with fail
      refine hK.out _ _ ?_ (fun hS=>?_)
      ·exact KP.out _ hbq
      clear hK K
      (try simp only [Act.put,List.setIfInBounds_toArray,List.set_cons_zero,List.set_cons_succ,List.getElem_toArray,List.getElem_cons_zero,List.getElem_cons_succ])
      refine wpAnyH_take (i:=20) (v:=?_) rfl (by kernel_rfl) (by kernel_rfl) (by kernel_rfl) (fun _ _ _ h=>h) (Or.inl ⟨by rfl,?_⟩) (by assumption) ?_
      rotate_left
      ·(intro wq hSw;(try dsimp only at hSw);go_simp;try (with_reducible rfl))
      (try simp only [Act.put,List.setIfInBounds_toArray,List.set_cons_zero,List.set_cons_succ,List.getElem_toArray,List.getElem_cons_zero,List.getElem_cons_succ])
      refine wpAnyH_take (i:=21) (v:=?_) rfl (by kernel_rfl) (by kernel_rfl) (by kernel_rfl) (fun _ _ _ h=>h) (Or.inl ⟨by rfl,?_⟩) (by assumption) ?_
      rotate_left
      ·(intro wq hSw;(try dsimp only at hSw);go_simp;try (with_reducible rfl))
      (try simp only [Act.put,List.setIfInBounds_toArray,List.set_cons_zero,List.set_cons_succ,List.getElem_toArray,List.getElem_cons_zero,List.getElem_cons_succ])
      refine wpAnyH_done (by kernel_rfl) ?_ _;go_wp2_with fail
      go_meet
      case rel=>exact ⟨by first | rfl | (rw [←n1];rfl) | (simp;exact n1),_,rfl,hbq⟩
   case rest =>
    obtain ⟨rfl,V,hV,hbv⟩:=hcut;subst hV;replace HXZ:=qH (zAa HXZ.out hbv HXZ.out.size);replace k_fr:=k_fr.below hbv k_fr.lt;replace k_op:=k_op.below hbv k_op.lt;replace r_o:=r_o.below hbv;replace HB:=qH (zAa HB.out hbv HB.out.size);clear hbv KOP
    cases q with
    | false =>
     simp only [Bool.not_false];have hno:=HNO.out HQ.out;have HF:=qH (GIV.out [] 6 hno.1.symm hno.2.symm (.returned (.tuple #[.slice none 0 0,.int .i64 6])) V ⟨none,0,0,[],rfl,rfl,by omega,OpsOwn.none_ _ _,HB.out⟩);clear hno k_fr k_op r_o;go_wp2_with fail
     go_ret2;exact HF.out
    | true =>
     simp only [Bool.not_true];obtain ⟨n0,hsc,hpo,hpb⟩:=HYES.out HQ.out;have hr1:r=true:=by have h:=HQ.out;rw [Bool.and_eq_true,Bool.and_eq_true] at h;exact h.1.1
     have HR1:=qH (HR.out.trans hr1);have HPO:=qH hpo;have HPB:=qH hpb;have HSC:=qH hsc;clear hsc hpo hpb hr1 HNO HYES HQ HR HW HCN HOP;have HST:=qH (show Stps V B m1 opath from (zHa r_o (by omega) HOK.out.1.2));have cfr_0:V.cell? ⟨a_fr,0,none⟩=some (.slice A n c):=(k_fr.cell 0).trans rfl;have cfr_1:V.cell? ⟨a_fr,1,none⟩=some (.int .i64 re):=(k_fr.cell 1).trans rfl;have cfr_2:V.cell? ⟨a_fr,2,none⟩=some (.int .i64 lo):=(k_fr.cell 2).trans rfl;have cop_0:V.cell? ⟨a_op,0,none⟩=some (.int .i64 okind):=(k_op.cell 0).trans rfl;have cop_1:V.cell? ⟨a_op,1,none⟩=some (.int .i64 of):=(k_op.cell 1).trans rfl;have cop_2:V.cell? ⟨a_op,2,none⟩=some (.int .i64 off):=(k_op.cell 2).trans rfl;have cop_3:V.cell? ⟨a_op,3,none⟩=some (.int .i64 ofl):=(k_op.cell 3).trans rfl;have cop_4:V.cell? ⟨a_op,4,none⟩=some (.bool offar):=(k_op.cell 4).trans rfl;have cop_5:V.cell? ⟨a_op,5,none⟩=some (.int .i64 ofpc):=(k_op.cell 5).trans rfl;have cop_6:V.cell? ⟨a_op,6,none⟩=some (.slice B m1 e1):=(k_op.cell 6).trans rfl;have cop_7:V.cell? ⟨a_op,7,none⟩=some (.bool oover):=(k_op.cell 7).trans rfl;go_wp2_with fail
     refine (zNE HO'.out HB'.out _ (HA.out.below HB.out) HST.out HR1.out hm19).mono ?_;rintro e V2 ⟨B2,m2,d2,rfl,r_s,hm2,hb⟩;have HM2:=qH hm2;clear hm2 HST;clear cfr_0 cfr_1 cfr_2 cop_0 cop_1 cop_2 cop_3 cop_4 cop_5 cop_6 cop_7;replace HXZ:=qH (zAa HXZ.out hb HXZ.out.size);have fr_s_fr:∀k,blk B2=some k→k≠a_fr:=fun k hk=>Nat.ne_of_gt (Nat.lt_of_lt_of_le k_fr.lt (r_s.lt k hk).1)
     have fr_s_op:∀k,blk B2=some k→k≠a_op:=fun k hk=>Nat.ne_of_gt (Nat.lt_of_lt_of_le k_op.lt (r_s.lt k hk).1)
     have hgv:X1.heap.size≤V.heap.size:=by have:=HXZ.out.size;have h2:=k_op.lt;omega
     replace r_s:=r_s.mono hgv;replace k_fr:=k_fr.below hb k_fr.lt;replace k_op:=k_op.below hb k_op.lt;replace r_o:=r_o.below hb;replace HB:=qH (zAa HB.out hb HB.out.size);clear hb;replace HXZ:=qH (zAa HXZ.out ((Below.refl V2.heap.size V2).alloc (Nat.le_refl _) (.cells #[.int .i64 pkind,.int .i64 pf,.int .i64 pff,.int .i64 pfl,.bool pffar,.int .i64 pfpc,.slice B2 m2 d2,.bool pover] 32)) HXZ.out.size);have q3:=(Below.refl V2.heap.size V2).alloc (Nat.le_refl _) (.cells #[.int .i64 pkind,.int .i64 pf,.int .i64 pff,.int .i64 pfl,.bool pffar,.int .i64 pfpc,.slice B2 m2 d2,.bool pover] 32);have lt_fr_x:=k_fr.lt;have lt_op_x:=k_op.lt;have fr_o_x:∀k,blk B=some k→k≠V2.heap.size:=fun k hk=>Nat.ne_of_lt (r_o.lt k hk).2
     have fr_s_x:∀k,blk B2=some k→k≠V2.heap.size:=fun k hk=>Nat.ne_of_lt (r_s.lt k hk).2
     have ge_x:=HB.out.size;replace k_fr:=k_fr.below q3 k_fr.lt;replace k_op:=k_op.below q3 k_op.lt;replace r_o:=r_o.below q3;replace r_s:=r_s.below q3;replace HB:=qH (zAa HB.out q3 HB.out.size);have k_x:=Blk.new V2 32 #[.int .i64 pkind,.int .i64 pf,.int .i64 pff,.int .i64 pfl,.bool pffar,.int .i64 pfpc,.slice B2 m2 d2,.bool pover];clear q3;go_upto_region 15 with fail
     generalize (V2.alloc (.cells #[.int .i64 pkind,.int .i64 pf,.int .i64 pff,.int .i64 pfl,.bool pffar,.int .i64 pfpc,.slice B2 m2 d2,.bool pover] 32))=Z2 at HXZ k_fr k_op k_x r_o r_s HB ⊢;generalize hz_x:V2.heap.size=a_x at k_x ge_x lt_fr_x lt_op_x fr_o_x fr_s_x ⊢;clear hz_x;go_cut [8] (fun v8 wv=>v8=.bool (ms||!b')∧wv=Z2)
     case first =>
      clear k_fr k_op k_x r_o r_s
      cases ms with
      | true =>
       go_wp2_with fail
       go_meet
       case rel=>exact ⟨rfl,rfl⟩
      | false =>
       cases b' with
       | true =>
        go_wp2_with fail
        go_meet
        case rel=>exact ⟨rfl,rfl⟩
       | false =>
        go_wp2_with fail
        go_meet
        case rel=>exact ⟨rfl,rfl⟩
     case rest =>
      obtain ⟨rfl,hV⟩:=hcut;subst wc;have hsn:=zCL HSC.out;have hoo:=zOO FL.out hsn.1;rw [←HPO.out] at hoo;have hpl:ppath.length≤8000:=by
       have h1:=zIT hsn.1;rw [←hsn.2.2] at h1;have h2:=congrArg (fun o:Og=>o.path.length) HPO.out;have h3:((oOf L n0).path).length=n0.path.length:=by show (n0.path.map (pOf L)).length=_;rw [List.length_map]
       have h4:=HWD.out;simp only at h2;omega
      have hO4:=HOX.out.below HXZ.out;have hm2k:m2≤1000000:=by rw [HM2.out];omega
      have hzz:Y.heap.size≤X1.heap.size:=HYX.out.size;have HSZ:=qH (show Y.heap.size≤Z2.heap.size from Nat.le_trans hzz HXZ.out.size)
      have HPX:=qH (show ∀k,blk B2=some k→k < Z2.heap.size∧blk A'≠some k from fun k hk=>by
       have h1:=r_s.lt k hk
       refine ⟨h1.2,fun e2=>?_⟩
       have h2:=(HOX.out.row.lt k e2).2
       omega)
      have HRP:=qH r_s;have HOO:=qH hoo;have hb8:=zAa HYX.out HXZ.out hzz;have HEL:=qH HI.out.1;have f0:Z2.cell? ⟨a_x,0,none⟩=some (.int .i64 pkind):=(k_x.cell 0).trans rfl;have f1:Z2.cell? ⟨a_x,1,none⟩=some (.int .i64 pf):=(k_x.cell 1).trans rfl;have f2:Z2.cell? ⟨a_x,2,none⟩=some (.int .i64 pff):=(k_x.cell 2).trans rfl;have f3:Z2.cell? ⟨a_x,3,none⟩=some (.int .i64 pfl):=(k_x.cell 3).trans rfl;have f4:Z2.cell? ⟨a_x,4,none⟩=some (.bool pffar):=(k_x.cell 4).trans rfl;have f5:Z2.cell? ⟨a_x,5,none⟩=some (.int .i64 pfpc):=(k_x.cell 5).trans rfl;have f6:Z2.cell? ⟨a_x,6,none⟩=some (.slice B2 m2 d2):=(k_x.cell 6).trans rfl;have f7:Z2.cell? ⟨a_x,7,none⟩=some (.bool pover):=(k_x.cell 7).trans rfl;clear r_s r_o k_op k_x k_fr hsn hoo hpl;go_upto_region 10 with (at_builtin;refine zEP ?_)
      refine qH ?_;refine zTy (y:=⟨⟨pkind,pf,⟨pff,pfl,pffar,pfpc⟩,ppath,pover⟩,B2,m2,d2⟩) (N:=i+1) (base:=Y.heap.size) (A:=A') (n:=i) (c:=c') (Es:=Es) rfl (.tmp 64) (.tmp 66) ?_ ?_ ?_ ?_ ?_ ?_ ?_ ?_
      ·rfl
      ·exact hO4.row
      ·rfl
      ·rfl
      ·rfl
      ·omega
      ·exact HSZ.out
      intro A3 c3 w9 hR9 hg9 hl9;have hb9:=hO4.row.belowOf hg9 HSZ.out;have hO9:=hO4.push ⟨⟨pkind,pf,⟨pff,pfl,pffar,pfpc⟩,ppath,pover⟩,B2,m2,d2⟩ ⟨HOO.out.1,zHa HRP.out hm2k HOO.out.2,HRP.out.cap,HPX.out⟩ hR9 hg9 hl9;have hbz:=hb8.trans hb9
      have HF:=qH (show zQm L T (i+1) false (ms||!b') (Es++[(⟨⟨pkind,pf,⟨pff,pfl,pffar,pfpc⟩,ppath,pover⟩,B2,m2,d2⟩:Oe)]) from by
       have h1:=zJZ HI.out HXG.out HSC.out (⟨⟨pkind,pf,⟨pff,pfl,pffar,pfpc⟩,ppath,pover⟩,B2,m2,d2⟩:Oe) HPO.out
       rw [HPB.out,Bool.not_not];exact h1)
      clear hO4 hg9 hl9 hR9 hb9 hb8 f0 f1 f2 f3 f4 f5 f6 f7;go_wp2_with fail
      go_roundw
      case rel=>exact ⟨_,A3,i+1,c3,_,_,rfl,rfl,rfl,by go_num,hlt,hO9,hbz,HF⟩
      case measure=>simp [intOf];omega
  ·have j1:¬(i:Int) < (m:Int):=by omega
   have hend:=zMb (L:=L) (S:=S) (i:=i) (bad:=false) (lost:=ms) (Es:=Es) (by rw [HTS.out];exact HI.out) (by rw [HTS.out,HLT.out];omega) HS0.out;clear k_fr HTX
   cases ms with
   | true =>
    have HF:=qH (GIV.out [] 8 (by rw [HIT.out.1,hend.1];rfl) (by rw [HIT.out.2,hend.2.2 (by rw [hend.1];decide)]) (.returned (.tuple #[.slice none 0 0,.int .i64 8])) X1 ⟨none,0,0,[],rfl,rfl,by omega,OpsOwn.none_ _ _,HB.out⟩);clear hend;go_wp2_with fail
    go_ret2;exact HF.out
   | false =>
    have HF:=qH (GIV.out (List.map (fun x:Oe=>x.o) Es) 0 (by rw [HIT.out.1,hend.1];rfl) (by rw [HIT.out.2,hend.2.1 (by rw [hend.1];rfl)]) (.returned (.tuple #[.slice A' i c',.int .i64 0])) X1 ⟨A',i,c',Es,rfl,rfl,by omega,HOX.out.mono hz,HB.out⟩);clear hend;go_wp2_with fail
    go_ret2;exact HF.out
end Go.Proofs.YtlmdfmnbcndhoaaGreatDoor
