/-
  Lemmas. Conditions: each one's own.
-/
import Derived.Test.YtlmdfmnbcndhoaaGreatDoorRt18
import Derived.Lib.SliceRun
open Go.RowKit
set_option maxHeartbeats 12800000
set_option maxRecDepth 100000
open Go.Value renaming bool->G,int->D,slice->H,string->W
open Option renaming none->U,some->Z
open Go renaming World->ZY
open Go.Proofs.Tryz renaming prog->ZX
open Go.RowKit renaming Below->ZZ
open Bool renaming false->E,true->Q
open Go.RowKit.Below renaming refl->M
open Nat renaming le_refl->O
open Go.IntKind renaming i64->J
namespace Go.Proofs.YtlmdfmnbcndhoaaGreatDoor
theorem zYr (S:ByteArray) (w:ZY):(Instr.buildSlice 112 1 #[(0,W S)]).run ZX w=.ok (H (Z ⟨w.heap.size,0,U⟩) 1 1) (w.alloc (.cells #[W S] 9)):=by
 obtain ⟨i0,hi,cD,bu,cM⟩:=info_parts zJc;refine run_buildSlice w _ _ 1 _ _ i0 _ Tryz.underlying112 hi cD (by rw [bu];omega) (by rw [bu];omega) ?_;rw [bu]
 kernel_rfl
theorem zXd {w:ZY} {ops:Array Oper} {o:Oper} {a:Act} {K:Act->ZY->Prop} {Q':Exit->Act->ZY->Prop} {ZQ:Prop} (hgd:o.guard=U) (s x:Operand)
  (ho:o.op=.call { callee:=.builtin .append,args:=#[s,x],argTypes:=#[112,112] })
  {base:Nat} {A:Option Addr} {n c:Nat} {Ss:List (List UInt8)} (S:List UInt8) (hs:a.eval s=H A n c) (hx:a.eval x=H (Z ⟨w.heap.size,0,U⟩) 1 1)
  (hst:Row w base 1 A n c (Ss.map zDE)) (N:Nat) (hN:n+1=N) (hn:N<=1000000) (hbase:base<=w.heap.size)
  (h:∀A' c' w',Row w' base 1 A' N c' ((Ss++[S]).map zDE)->ZZ base w w'->w.grownBy w' (blk A)->K (a.put o.dst (H A' N c')) w') :
  if Region.wanted o (yielded ops a.tmps)=Q then Oper.wp ZX o a (w.alloc (.cells #[W (bA S)] 9)) K Q' else ZQ:=by
 obtain ⟨i0,hi,cD,bu,cM⟩:=info_parts zJc;have hbl:=(M w.heap.size w).alloc (O _) (.cells #[W (bA S)] 9);have cS:=hst.below hbl
 refine zRG hgd s x 112 ho 9 i0 _ 1 16 Tryz.underlying112 hi cD bu cM rfl (by decide) cS (Src.new (m:=1) (cs:=[W (bA S)]) rfl)
  (by intro u hu;simp at hu;subst hu;rfl) hs hx N hN (by unfold maxLen;omega) (by omega) (by simp;omega) ?_
 intro A' c' w' h1 h2 _ _;refine h A' c' w' (by rw [List.map_append];exact h1) ?_ (zAb (zDk hbl _) h2);exact ((M _ _).alloc hbase _).trans (cS.belowOf h2 (by simp;omega))
theorem zQx {w:ZY} {g:Nat} {t:TypeId} {v0 v1 v2 v3 v4 v5:Value} (h:Blk w g t #[v0,v1,v2,v3,v4,v5]) (u0 u1 u2 u3 u4 u5:Value) :
  Blk ((((((w.setCell ⟨g,0,U⟩ u0).setCell ⟨g,1,U⟩ u1).setCell ⟨g,2,U⟩ u2).setCell ⟨g,3,U⟩ u3).setCell ⟨g,4,U⟩ u4).setCell ⟨g,5,U⟩ u5) g t #[u0,u1,u2,u3,u4,u5]:=by
 have h1:=(((((h.set_ 0 u0).set_ 1 u1).set_ 2 u2).set_ 3 u3).set_ 4 u4).set_ 5 u5;simpa using h1
theorem zQy {a w:ZY} {g B:Nat} (h:ZZ B a w) (hB:B<=g) (u0 u1 u2 u3 u4 u5:Value) :
  ZZ B a ((((((w.setCell ⟨g,0,U⟩ u0).setCell ⟨g,1,U⟩ u1).setCell ⟨g,2,U⟩ u2).setCell ⟨g,3,U⟩ u3).setCell ⟨g,4,U⟩ u4).setCell ⟨g,5,U⟩ u5) :=
 (((((h.setCell (p:=⟨g,0,U⟩) hB u0).setCell (p:=⟨g,1,U⟩) hB u1).setCell (p:=⟨g,2,U⟩) hB u2).setCell (p:=⟨g,3,U⟩) hB u3).setCell (p:=⟨g,4,U⟩) hB u4).setCell (p:=⟨g,5,U⟩) hB u5
structure Pos (F:List Fg) (re lo:Int) (L:List Lt):Prop where
 lps:Lps F.length L
 fr:frOk F re lo
 kinds:∀i,i < L.length->isP (la L i)=Q∨isC (la L i)=Q
 left:∀i,i < L.length->isP (la L i)=Q->dwn L i=Q->0<=(zBR L i).gate/\(zBR L i).gate < F.length
 rank:∀i,i < L.length->isP (la L i)=Q->1<=(la L i).rank/\(la L i).rank<=400
 id:∀i,i < L.length->isC (la L i)=Q->1<=(la L i).id/\(la L i).id<=400
theorem zGy {F:List Fg} {re lo K:Int} {L:List Lt} (h:zCH F re lo K L=Q):Pos F re lo L/\K=(F.length:Int):=by
 unfold zCH at h;simp only [Bool.and_eq_true,beq_iff_eq] at h;obtain ⟨⟨⟨h1,h2⟩,h3⟩,h4⟩:=h;have ht:=zFC h2;obtain ⟨c1,c2,c3,c4⟩:=zHN h2;subst h3;rcases Nat.eq_zero_or_pos L.length with h0 | h0
 ·exact ⟨⟨⟨ht.len,by omega,fun i hi=>by omega,fun i hi=>by omega⟩,zCQ.1 h1,fun i hi=>by omega,fun i hi=>by omega,fun i hi=>by omega,fun i hi=>by omega⟩,rfl⟩
 have hv:zBf (F.length:Int) L=Q:=by rcases c4 with h | h;· omega
                                    ·exact h
 have g:=zFf h0 hv;have hpo:∀i,i < L.length->poB L i=Q:=zAL.1 h4
 have key:∀i,i < L.length->isP (la L i)=Q->dwn L i=Q->i+1 < L.length/\isP (la L (i+1))=Q/\((la L (i+1)).gate-(la L i).gate=1∨(la L i).gate-(la L (i+1)).gate=1):=by
  intro i hi hp hd;have hlt:i+1 < L.length:=by
   rcases Nat.lt_or_ge (i+1) L.length with h | h
   ·exact h
   ·have e:i+1=L.length:=by omega
    have tk:dwn L (i+1)=E:=by rw [zXY hp,hd];rfl
    rw [e] at tk;unfold dwn at tk;have:=g.even;simp [this] at tk
  have:=hpo i hi;unfold poB neB nxL at this;rw [hp,hd,Nat.mod_eq_of_lt hlt] at this;simp only [Bool.and_self,Bool.not_true,Bool.false_or,Bool.and_eq_true,Bool.or_eq_true,beq_iff_eq] at this;exact ⟨hlt,this.1,this.2⟩
 refine ⟨⟨⟨ht.len,by omega,fun i hi hp=>⟨(ht.pass i hi hp).1,(ht.pass i hi hp).2.1⟩,fun i hi hp hd=>⟨(key i hi hp hd).1,(key i hi hp hd).2.1⟩⟩,zCQ.1 h1,g.kinds,fun i hi hp hd=>?_,fun i hi hp=>⟨(ht.pass i hi hp).2.2.1,(ht.pass i hi hp).2.2.2⟩,fun i hi hc=>?_⟩,rfl⟩
 ·obtain ⟨k1,k2,k3⟩:=key i hi hp hd;have g1:=ht.pass i hi hp;have g2:=ht.pass (i+1) k1 k2;unfold zBR;split<;>omega
 ·have h5:=g.cross i hi;have:=(zBs.1 h5 hc).1;have:=zRD L L.length;have:=ht.len;omega
theorem zQz {F:List Fg} {re lo:Int} {L:List Lt} (h:Pos F re lo L) {i:Nat} (hi:i < L.length):∀x∈zIf F L i,x.length<=100:=by
 intro x hx;unfold zIf at hx;by_cases hc:isC (la L i)=Q
 ·rw [qP hc] at hx;rw [List.mem_singleton.1 hx];have hid:=h.id i hi hc;have:=zAP (x:=(la L i).id) ⟨by omega,by omega⟩;unfold zYq;simp only [List.length_append,List.length_singleton];omega
 ·rw [qN hc] at hx;by_cases hd:dwn L i=Q
  ·rw [qP hd] at hx;rw [List.mem_singleton.1 hx];have hp:=(h.kinds i hi).resolve_right hc;have hg:=h.left i hi hp hd;have hn:=zBy h.fr (f:=(zBR L i).gate+1) (by omega) (by omega);have hr:1<=(zBR L i).rank/\(zBR L i).rank<=400:=by
    obtain ⟨k1,k2⟩:=h.lps.arcs i hi hp hd;unfold zBR;split
    ·exact h.rank (i+1) k1 k2
    ·exact h.rank i hi hp
   have hl:=zQv L (zBR L i).gate L.length;have hlen:=h.lps.len;have:=zAP (x:=(zBR L i).rank-(lpC L (zBR L i).gate L.length:Int)) ⟨by omega,by omega⟩;unfold zNg;simp only [List.length_append,List.length_singleton];omega
  ·rw [qN hd] at hx;simp at hx
theorem zQA (F:List Fg) (L:List Lt) (i:Nat):(zIf F L i).length<=1:=by
 unfold zIf;split
 ·simp
 ·split<;>simp
theorem zQB (F:List Fg) (L:List Lt) (m:Nat):(zGi F L m).length<=m:=by
 induction m with
 | zero=>simp [zGi]
 | succ m ih=>rw [zEr,List.length_append];have:=zQA F L m;omega
theorem zMj {F:List Fg} {re lo:Int} {L:List Lt} (h:Pos F re lo L) {m:Nat} (hm:m<=L.length):∀x∈zGi F L m,x.length<=100:=by
 intro x hx;unfold zGi at hx;obtain ⟨i,hi,hx⟩:=List.mem_flatMap.1 hx;exact zQz h (by have:=List.mem_range.1 hi;omega) x hx
theorem zSz {K:Nat} {A:Option Addr} {n c:Nat} {L:List Lt} (w:ZY) (hA:Lets w A n L) (hL:Lps K L):Calls ZX 123 #[.agg #[D J (K:Int),H A n c]] w (zIO w K L):=zMi K A n c L w hA hL
theorem zQC {x:Int} {S:List UInt8} (h:Lib.itoa x=S) (hx:I64 x) (w:ZY) (ht:Tabs w):Calls ZX 124 #[D J x] w fun e w'=>e=.returned (W (bA S))/\ZZ w.heap.size w w':=by
 subst h;exact zIY x hx w ht
theorem zIg (A:Option Addr) (n c:Nat) (F:List Fg) (re lo:Int) (B:Option Addr) (m d:Nat) (L:List Lt) (w:ZY) (hA:Fgs w A n F) (hB:Lets w B m L) (hP:Pos F re lo L) (ht:Tabs w) :
  Calls ZX 75 #[frV A n c re lo,.agg #[D J (F.length:Int),H B m d]] w fun e w'=>e=.returned (W (bA (zTU F L)))/\ZZ w.heap.size w w':=by
 have ah:ZZ w.heap.size w ((w.alloc (.cells #[H A n c,D J re,D J lo] 24)).alloc (.cells #[D J (F.length:Int),H B m d] 55)):=((M _ _).alloc (O _) _).alloc (by simp) _;have hk0:Blk ((w.alloc (.cells #[H A n c,D J re,D J lo] 24)).alloc (.cells #[D J (F.length:Int),H B m d] 55)) w.heap.size 24 #[H A n c,D J re,D J lo]:=(Blk.new w _ _).alloc _;have aq:Blk ((w.alloc (.cells #[H A n c,D J re,D J lo] 24)).alloc (.cells #[D J (F.length:Int),H B m d] 55)) (w.heap.size+1) 55 #[D J (F.length:Int),H B m d]:=heap_alloc2_new w _ _;have cH:L.length=m:=hB.len;have Fy:F.length=n:=hA.len;have hm4:m<=400:=by have:=hP.lps.len;omega
 have bo:=qH cH;have qd:=qH Fy;have HP:=qH hP;have HB:=qH hB;have HA:=qH hA;have HT:=qH ht;have lB:=qH (fun wx (hx:Lets wx B m L)=>zSz (c:=d) wx hx hP.lps);have d1:((w.alloc (.cells #[H A n c,D J re,D J lo] 24)).alloc (.cells #[D J (F.length:Int),H B m d] 55)).cell? ⟨w.heap.size+1,1,U⟩=Z (H B m d):=(aq.cell 1).trans rfl;have d0:((w.alloc (.cells #[H A n c,D J re,D J lo] 24)).alloc (.cells #[D J (F.length:Int),H B m d] 55)).cell? ⟨w.heap.size+1,0,U⟩=Z (D J (F.length:Int)):=(aq.cell 0).trans rfl;obtain ⟨K,hK⟩:∃K,F.length=K:=⟨_,rfl⟩
 rw [hK] at ah hk0 aq d0 d1 lB ⊢;have HK:=qH hK;clear cH Fy hP hB hA ht hK;by_cases hm0:m=0
 ·subst hm0;have HR:=qH (show zTU F L=zJK by unfold zTU;rw [qP bo.out]);go_enter Tryz.func75,Tryz.ntmps75;go_wp2_with fail
  go_ret;exact ⟨by rw [HR.out];rfl,ah⟩
 ·have i0:((m:Int)==0)=E:=by simp;omega
  go_enter Tryz.func75,Tryz.ntmps75;go_upto_region 3 with fail
  generalize ((w.alloc (.cells #[H A n c,D J re,D J lo] 24)).alloc (.cells #[D J (K:Int),H B m d] 55))=Y at ah hk0 aq d0 d1 ⊢;go_wp2_with fail
  refine (lB.out Y (HB.out.below ah)).mono ?_;rintro e Y2 ⟨g,rfl,hO,ai⟩;have bt:=hk0.below ai hk0.lt;have Co:=aq.below ai aq.lt;have hby:=zAa ah ai ah.size;have hgl:g < Y2.heap.size:=hO.lt;have d2:Y2.cell? ⟨w.heap.size+1,1,U⟩=Z (H B m d):=(Co.cell 1).trans rfl;rw [bo.out] at hO;have HMN:=qH hm0;clear hk0 aq ah ai d0 d1 lB hm0;go_wp2_with fail
  clear d2;go_loopw [6,7,22] (fun v6 v7 v22 wv=>∃(i:Nat) (X:ZY) (A':Option Addr) (k c':Nat) (Ss:List (List UInt8)),X=wv/\i<=m/\v22=D J i/\v7=G (!dwn L i)/\v6=H A' k c'/\Row X Y2.heap.size 1 A' k c' (Ss.map zDE)/\ZZ Y2.heap.size Y2 X/\k<=i/\Hid (Ss=zGi F L i)) (fun _ _ v22 _=>m-(intOf v22).toNat)
  case atStart=>exact ⟨0,_,U,0,0,[],rfl,by omega,rfl,rfl,rfl,Row.none_ _ _ _,M _ _,O _,qH rfl⟩
  case round =>
   obtain ⟨i,X,A',k,c',Ss,hX,hi,rfl,rfl,rfl,hR,hb,hki,HS⟩:=hrel;subst hX;by_cases hlt:i < m
   ·have j0:(0:Int)<=(i:Int):=by omega
    have j1:(i:Int) < (m:Int):=by omega
    have hil:i < L.length:=by rw [bo.out];exact hlt
    have oj:Lets X B m L:=HB.out.below (zAa hby hb hby.size);have hcx:=Co.below hb Co.lt;have hfx:=bt.below hb bt.lt;have hOx:=hO.below hb hgl;obtain ⟨ga,o,rfl,hga,hat,hok⟩:=oj.at_ hlt;obtain ⟨l,hle⟩:∃l,la L i=l:=⟨_,rfl⟩
    rw [hle] at hat;have zV:=qH hle;obtain ⟨x0,x1,x2,x3,x4,x5⟩:=hat;have hbl:=(M X.heap.size X).alloc (O _) (.cells #[D J l.kind,D J l.gate,D J l.rank,D J l.id,D J l.sign,G l.over] 76);have cl:Blk (X.alloc (.cells #[D J l.kind,D J l.gate,D J l.rank,D J l.id,D J l.sign,G l.over] 76)) X.heap.size 76 #[D J l.kind,D J l.gate,D J l.rank,D J l.id,D J l.sign,G l.over]:=Blk.new _ _ _;have o9:=hcx.below hbl hcx.lt;have dj:=hfx.below hbl hfx.lt;have nI:=hOx.below hbl hOx.lt;have iT:=oj.below hbl;have fL:=hR.below hbl;have ay:=zAa hb hbl hb.size;have bu:Y2.heap.size<=(X.alloc (.cells #[D J l.kind,D J l.gate,D J l.rank,D J l.id,D J l.sign,G l.over] 76)).heap.size:=ay.size;obtain ⟨dw,hd⟩:∃d,dwn L i=d:=⟨_,rfl⟩
    rw [hd];clear hbl hcx hfx hOx oj hR hok hb;go_upto_if 29 with fail
    clear x0 x1 x2 x3 x4 x5;generalize X.alloc (.cells #[D J l.kind,D J l.gate,D J l.rank,D J l.id,D J l.sign,G l.over] 76)=X1 at cl o9 dj nI iT fL ay bu ⊢;generalize X.heap.size=a9 at cl ⊢;by_cases hk2:l.kind=2
    ·have q2:(l.kind==2)=Q:=by simpa using hk2
     have hcr:isC (la L i)=Q:=by rw [hle];exact zRB hk2
     have hid:=HP.out.id i hil hcr;rw [hle] at hid;have nK:I64 l.id:=⟨by omega,by omega⟩;have rh:=qH (show dwn L (i+1)=dw by rw [zYo (zVx hcr),hd]);obtain ⟨-,-,-,u0,-,u1⟩:=cQ6 cl;obtain ⟨ID,qM⟩:∃S,Lib.itoa l.id=S:=⟨_,rfl⟩
     obtain ⟨LE,AN⟩:∃S,zAt l.over=S:=⟨_,rfl⟩
     obtain ⟨IT,im⟩:∃S,ID++LE=S:=⟨_,rfl⟩
     have ik:=zAP nK;have hl2:=zCz l.over;rw [qM] at ik;rw [AN] at hl2;have hcat:=zAl im _ _ rfl rfl (by omega) (by omega)
     have iW:=qH (show Ss++[IT]=zGi F L (i+1) by
      rw [zEr,HS.out]
      unfold zIf zYq
      rw [qP hcr,hle,<-im,<-qM,<-AN,show zAt l.over=[if l.over then 111 else 117] by cases l.over<;>rfl])
     have fw:=qH (fun wx (hx:ZZ X1.heap.size X1 wx)=>zQC qM nK wx (HT.out.below (zAa hby (zAa ay hx ay.size) hby.size)));have ji:=qH (fun wx=>zCT AN wx)
     have KP:=qH (show ∀wx,ZZ X1.heap.size X1 wx->(wx.cell? ⟨a9,3,U⟩=Z (D J l.id)/\wx.cell? ⟨a9,5,U⟩=Z (G l.over)) from
      fun wx h=>⟨((cl.below h cl.lt).cell 3).trans rfl,((cl.below h cl.lt).cell 5).trans rfl⟩)
     have jZ:k<=400:=by omega
     clear hk2 hcr hid hle qM AN im ik hl2 hd dj o9 nI iT cl HS;go_upto_region 10 with fail
     go_region_law (first
      | ((go_simp;go_at_call 124;refine (fw.out _ (by first | exact hbz | exact (M _ _).drew)).mono ?_;rintro e' wy ⟨rfl,jH⟩)
         have hbz:ZZ X1.heap.size X1 wy:=(by first | exact zAa hbz jH hbz.size | exact zAa (M X1.heap.size X1).drew jH (O _))
         obtain ⟨u2,u3⟩:=KP.out _ hbz)
      | ((go_simp;go_at_call 115;refine (ji.out _).mono ?_;rintro e' wv ⟨rfl,rfl⟩))
      | ((refine zXd (base:=Y2.heap.size) (A:=A') (n:=k) (c:=c') (Ss:=Ss) rfl (.tmp 30) (.tmp 38) (by rfl) IT (by rfl) (by rfl) (fL.below hbz) (k+1) rfl (by omega) (Nat.le_trans bu hbz.size) ?_)
         intro A2 c2 w9 hR9 bn b8))
     all_goals
      have co:=(zAa ay hbz ay.size).trans bn;clear fL ay hbz bn fw ji KP hcat;go_wp2_with fail
      go_roundw
      case rel=>exact ⟨i+1,_,A2,k+1,c2,Ss++[IT],rfl,by omega,by go_num,by rw [rh.out],rfl,hR9,co,by omega,iW⟩
      case measure=>simp [intOf];omega
    ·have q2:(l.kind==2)=E:=by simpa using hk2
     have hncr:isC (la L i)=E:=by rw [hle];exact zRC hk2
     have hp:=(HP.out.kinds i hil).resolve_right (by rw [hncr];simp);have rh:=qH (show dwn L (i+1) = !dw by rw [zXY hp,hd])
     cases dw with
     | false =>
      have iW:=qH (show Ss=zGi F L (i+1) by
       rw [zEr,HS.out]
       unfold zIf
       rw [hncr,hd];simp)
      clear hk2 hncr hp hd hle dj o9 nI iT cl HS;go_wp2_with fail
      go_roundw
      case rel=>exact ⟨i+1,_,A',k,c',Ss,rfl,by omega,by go_num,by rw [rh.out];rfl,rfl,fL,ay,by omega,iW⟩
      case measure=>simp [intOf];omega
     | true =>
      obtain ⟨k1,k2⟩:=HP.out.lps.arcs i hil hp hd;have EP:i+1 < m:=by rw [<-bo.out];exact k1
      have fP:=qH (HP.out.left i hil hp hd)
      have HRK:=qH (show 1<=(zBR L i).rank/\(zBR L i).rank<=400 by
       unfold zBR
       split
       ·exact HP.out.rank (i+1) k1 k2
       ·exact HP.out.rank i hil hp)
      obtain ⟨lu,hlu⟩:∃l,la L (i+1)=l:=⟨_,rfl⟩
      have GR:=qH hlu;clear k2;have GC:=qH (show zIf F L i=[zNg F L i] by unfold zIf;rw [hncr,hd];simp);have p1:(0:Int)<=(i:Int)+1:=by omega
      have p2:(i:Int)+1 < (m:Int):=by omega
      have p3:wrap64 ((i:Int)+1)=(i:Int)+1:=by unfold wrap64;omega
      obtain ⟨x0,x1,x2,x3,x4,x5⟩:=cQ6 cl;have c1:X1.cell? ⟨w.heap.size+1,1,U⟩=Z (H (Z ⟨ga,o,U⟩) m d):=(o9.cell 1).trans rfl;have hbl:=(M X1.heap.size X1).alloc (O _) (.cells #[D J l.kind,D J l.gate,D J l.rank,D J l.id,D J l.sign,G l.over] 76);have nB:Blk (X1.alloc (.cells #[D J l.kind,D J l.gate,D J l.rank,D J l.id,D J l.sign,G l.over] 76)) X1.heap.size 76 #[D J l.kind,D J l.gate,D J l.rank,D J l.id,D J l.sign,G l.over]:=Blk.new _ _ _;have di:=cl.below hbl cl.lt;have uO:=o9.below hbl o9.lt;have vv:=iT.below hbl;have xO:X1.heap.size<=X1.heap.size:=O _;clear hk2 hncr hp hd hle;go_upto_region 14 with fail
      clear x0 x1 x2 x3 x4 x5 c1;generalize hX2:X1.alloc (.cells #[D J l.kind,D J l.gate,D J l.rank,D J l.id,D J l.sign,G l.over] 76)=X2 at nB di uO vv hbl ⊢;clear hX2;obtain ⟨jU,vc⟩:∃a,X1.heap.size=a:=⟨_,rfl⟩
      rw [vc] at nB hbl xO ⊢;have Af:=qH vc;clear vc;have c1:X2.cell? ⟨w.heap.size+1,1,U⟩=Z (H (Z ⟨ga,o,U⟩) m d):=(uO.cell 1).trans rfl;have hU:=(vv.also EP).1;rw [hlu] at hU;obtain ⟨x0,x1,x2,x3,x4,x5⟩:=hU;clear hlu;have qw:=(M X2.heap.size X2).alloc (O _) (.cells #[D J lu.kind,D J lu.gate,D J lu.rank,D J lu.id,D J lu.sign,G lu.over] 76);have eq:Blk (X2.alloc (.cells #[D J lu.kind,D J lu.gate,D J lu.rank,D J lu.id,D J lu.sign,G lu.over] 76)) X2.heap.size 76 #[D J lu.kind,D J lu.gate,D J lu.rank,D J lu.id,D J lu.sign,G lu.over]:=Blk.new _ _ _;have fQ:=di.below qw di.lt;have ct:=nB.below qw nB.lt;have dt:ZZ jU X1 (X2.alloc (.cells #[D J lu.kind,D J lu.gate,D J lu.rank,D J lu.id,D J lu.sign,G lu.over] 76)):=zAa hbl qw (Nat.le_of_lt nB.lt);go_upto_region 15 with fail
      clear x0 x1 x2 x3 x4 x5 c1 qw hbl nB di uO vv;generalize hX3:X2.alloc (.cells #[D J lu.kind,D J lu.gate,D J lu.rank,D J lu.id,D J lu.sign,G lu.over] 76)=X3 at eq fQ ct dt ⊢;clear hX3;generalize X2.heap.size=a12 at eq ⊢;have g9:X3.cell? ⟨a9,1,U⟩=Z (D J l.gate):=(fQ.cell 1).trans rfl;have y1:X3.cell? ⟨a12,1,U⟩=Z (D J lu.gate):=(eq.cell 1).trans rfl;go_upto_if 55 with fail
      go_cut [11] (fun v11 wv=>v11=W (bA [zTT L i])/\∃V:ZY,V=wv/\Blk V jU 76 #[D J (zBR L i).kind,D J (zBR L i).gate,D J (zBR L i).rank,D J (zBR L i).id,D J (zBR L i).sign,G (zBR L i).over]/\ZZ jU X1 V)
      case first =>
       by_cases hlt2:lu.gate < l.gate
       ·have eR:=qH (show zBR L i=lu/\zTT L i=60 by unfold zBR zTT;rw [GR.out,zV.out,qP hlt2,qP hlt2];exact ⟨rfl,rfl⟩);clear y1 g9 p1 p2 p3 j0 j1 k1 EP;go_upto_region 16 with fail
        have DP:=qH ct;have rj:=qH dt;obtain ⟨y0,y1,y2,y3,y4,y5⟩:=cQ6 eq;have v0:X3.cell? ⟨jU,0,U⟩=Z (D J (l).kind):=(ct.cell 0).trans rfl;have z0:=ct.frozen 0;have v1:X3.cell? ⟨jU,1,U⟩=Z (D J (l).gate):=(ct.cell 1).trans rfl;have z1:=ct.frozen 1;have v2:X3.cell? ⟨jU,2,U⟩=Z (D J (l).rank):=(ct.cell 2).trans rfl;have z2:=ct.frozen 2;have v3:X3.cell? ⟨jU,3,U⟩=Z (D J (l).id):=(ct.cell 3).trans rfl;have z3:=ct.frozen 3;have v4:X3.cell? ⟨jU,4,U⟩=Z (D J (l).sign):=(ct.cell 4).trans rfl;have z4:=ct.frozen 4;have v5:X3.cell? ⟨jU,5,U⟩=Z (G (l).over):=(ct.cell 5).trans rfl;have z5:=ct.frozen 5;clear eq fQ ct dt hlt2;go_wp2_with fail
        have SV:=zQx DP.out (D J (lu).kind) (D J (lu).gate) (D J (lu).rank) (D J (lu).id) (D J (lu).sign) (G (lu).over);have BV:=zQy rj.out xO (D J (lu).kind) (D J (lu).gate) (D J (lu).rank) (D J (lu).id) (D J (lu).sign) (G (lu).over);go_meet
        case rel=>exact ⟨by rw [eR.out.2];rfl,_,rfl,by rw [eR.out.1];exact SV,BV⟩
       ·have eR:=qH (show zBR L i=l/\zTT L i=62 by unfold zBR zTT;rw [GR.out,zV.out,qN hlt2,qN hlt2];exact ⟨rfl,rfl⟩);have SV:=qH ct;have BV:=qH dt;clear eq fQ ct dt y1 g9;go_wp2_with fail
        go_meet
        case rel=>exact ⟨by rw [eR.out.2];rfl,_,rfl,by rw [eR.out.1];exact SV.out,BV.out⟩
      case rest =>
       clear eq fQ ct dt g9 y1 p3;obtain ⟨rfl,V,hV,hl,qx⟩:=hcut;have hlf:=fP.out;have hrk:=HRK.out;subst hV;rw [<-Af.out] at qx;have yq:=dj.below qx dj.lt;have gZ:=nI.below qx nI.lt;have Ff:=fL.below qx;have ai:=zAa ay qx ay.size;have hzV:Y2.heap.size<=V.heap.size:=ai.size;have yS:Fgs V A n F:=HA.out.below (zAa hby ai hby.size);obtain ⟨q,hq⟩:∃q:Nat,(zBR L i).gate=(q:Int):=⟨(zBR L i).gate.toNat,by omega⟩
       have hqK:q < K:=by have:=HK.out;omega
       have hK4:K<=40:=by have:=HP.out.lps.k40;have:=HK.out;omega
       obtain ⟨r,hr⟩:∃r,(zBR L i).rank=r:=⟨_,rfl⟩
       have hlp:=zFD K L m (g:=q) (by omega);have hll:=zQv L (q:Int) m;obtain ⟨v,hv⟩:∃v,lpC L (q:Int) m=v:=⟨_,rfl⟩
       rw [hv] at hlp hll;rw [hr] at hrk;obtain ⟨f0,f1,f2⟩:=cQ3 yq;have e1:V.cell? ⟨jU,1,U⟩=Z (D J (q:Int)):=by rw [<-hq];exact (hl.cell 1).trans rfl
       have e2:V.cell? ⟨jU,2,U⟩=Z (D J r):=by rw [<-hr];exact (hl.cell 2).trans rfl
       have e3:V.cell? ⟨g,q,U⟩=Z (D J (v:Int)):=gZ.cell hlp;have uw:∀x,x < V.heap.size->(∀k',blk A'=Z k'->k'≠x)->∀wx,V.grownBy wx (blk A')->∀q',wx.cell? ⟨x,q',U⟩=V.cell? ⟨x,q',U⟩:=fun x hx hne wx h q'=>World.cell?_of_block (w:=V) (w':=wx) (a:=⟨x,q',U⟩) (h.block x hx (fun e=>hne x e.symm rfl))
       have ka:∀k',blk A'=Z k'->Y2.heap.size<=k'/\k' < jU:=fun k' iZ=>⟨(fL.lt k' iZ).1,by rw [<-Af.out];exact (fL.lt k' iZ).2⟩
       have og:w.heap.size < Y2.heap.size:=bt.lt
       have KP:=qH (show ∀wx,V.grownBy wx (blk A')->(V.grownBy wx (blk A')/\wx.cell? ⟨w.heap.size,0,U⟩=Z (H A n c)/\wx.cell? ⟨w.heap.size,1,U⟩=Z (D J re)/\wx.cell? ⟨w.heap.size,2,U⟩=Z (D J lo)/\wx.cell? ⟨jU,1,U⟩=Z (D J (q:Int))/\wx.cell? ⟨jU,2,U⟩=Z (D J r)/\wx.cell? ⟨g,q,U⟩=Z (D J (v:Int))) from
        fun wx h=>⟨h,(uw _ yq.lt (fun k' iZ=>by have:=ka k' iZ;omega) wx h _).trans f0,(uw _ yq.lt (fun k' iZ=>by have:=ka k' iZ;omega) wx h _).trans f1,(uw _ yq.lt (fun k' iZ=>by have:=ka k' iZ;omega) wx h _).trans f2,(uw _ hl.lt (fun k' iZ=>by have:=ka k' iZ;omega) wx h _).trans e1,(uw _ hl.lt (fun k' iZ=>by have:=ka k' iZ;omega) wx h _).trans e2,(uw _ gZ.lt (fun k' iZ=>by have:=ka k' iZ;omega) wx h _).trans e3⟩)
       clear uw ka;have nK:I64 (r-(v:Int)):=⟨by omega,by omega⟩;obtain ⟨NM,db⟩:∃S,nmF F ((q:Int)+1)=S:=⟨_,rfl⟩
       obtain ⟨ID,qM⟩:∃S,Lib.itoa (r-(v:Int))=S:=⟨_,rfl⟩
       obtain ⟨T1,cF⟩:∃S,NM++[46]=S:=⟨_,rfl⟩
       obtain ⟨T2,et⟩:∃S,T1++ID=S:=⟨_,rfl⟩
       obtain ⟨IT,im⟩:∃S,T2++[zTT L i]=S:=⟨_,rfl⟩
       have ik:=zAP nK;rw [qM] at ik;have hl2:=zBy HP.out.fr (f:=(q:Int)+1) (by omega) (by have:=HK.out;omega);rw [db] at hl2;have yj:T1.length<=50:=by rw [<-cF];simp;omega
       have hl4:T2.length<=100:=by rw [<-et];simp;omega
       have yt:=zAl cF (bA NM) ⟨#[46]⟩ rfl rfl (by omega) (by simp);have yr:=zAl et _ _ rfl rfl (by omega) (by omega);have tq:=zAl im _ _ rfl rfl (by omega) (by simp)
       have iW:=qH (show Ss++[IT]=zGi F L (i+1) by
        rw [zEr,HS.out,GC.out]
        unfold zNg
        rw [hq,hr,db,cF,bo.out,hv,qM,et,im])
       have gR:=qH (fun wx (hx:ZZ V.heap.size V wx)=>zDm (c:=c) db wx (yS.below hx) HP.out.fr (by omega) (by have:=qd.out;have:=HK.out;omega));have fw:=qH (fun wx (hx:ZZ V.heap.size V wx)=>zQC qM nK wx (HT.out.below (zAa hby (zAa ai hx ai.size) hby.size)));have jZ:k<=400:=by omega
       have wu:k+1<=1000000:=by omega
       have hk7:k+1<=i+1:=by omega
       have hi7:i+1<=m:=by omega
       have p4:(0:Int)<=(q:Int):=by omega
       have p7:(q:Int) < (K:Int)+2:=by omega
       have w1:IntKind.i64.wrap ((q:Int)+1)=(q:Int)+1:=zMh (by omega);have w2:IntKind.i64.wrap (r-(v:Int))=r-(v:Int):=IntWalk.i64_in _ nK;generalize zTT L i=ar at im tq ⊢;clear hq hr hlp hv db qM cF et im ik hl2 yj hl4 dj o9 nI iT cl HS GC fL ay qx yq gZ hl yS hrk hlf;go_upto_region 17 with fail
       first
        | go_region_held3 (fun wx=>V.grownBy wx (blk A')/\wx.cell? ⟨w.heap.size,0,U⟩=Z (H A n c)/\wx.cell? ⟨w.heap.size,1,U⟩=Z (D J re)/\wx.cell? ⟨w.heap.size,2,U⟩=Z (D J lo)/\wx.cell? ⟨jU,1,U⟩=Z (D J (q:Int))/\wx.cell? ⟨jU,2,U⟩=Z (D J r)/\wx.cell? ⟨g,q,U⟩=Z (D J (v:Int))) (first | assumption | exact KP.out _ (zBL (zBo _ _)) | exact KP.out _ (by assumption) | exact KP.out _ (zBl (by assumption) _))
          (first
           | (go_at_call 107;refine (gR.out _ (by first | assumption | exact (M _ _).drew)).mono ?_;rintro e' wy ⟨rfl,jH⟩
              have hbz:ZZ V.heap.size V wy:=(by first | exact zAa (show ZZ V.heap.size V _ by assumption) jH (Below.size (show ZZ V.heap.size V _ by assumption)) | exact zAa (M V.heap.size V).drew jH (O _))
              have hgz:V.grownBy wy (blk A'):=zDk hbz _)
           | (go_at_call 124;refine (fw.out _ (by first | assumption | exact (M _ _).drew)).mono ?_;rintro e' wy ⟨rfl,jH⟩
              have hbz:ZZ V.heap.size V wy:=(by first | exact zAa (show ZZ V.heap.size V _ by assumption) jH (Below.size (show ZZ V.heap.size V _ by assumption)) | exact zAa (M V.heap.size V).drew jH (O _))
              have hgz:V.grownBy wy (blk A'):=zDk hbz _)
           | (refine zXd (base:=Y2.heap.size) (A:=A') (n:=k) (c:=c') (Ss:=Ss) rfl (.tmp 57) (.tmp 76) (by rfl) IT (by rfl) (by rfl) (Ff.below hbz) (k+1) rfl wu (Nat.le_trans hzV hbz.size) ?_
              intro A2 c2 w9 hR9 bn b8
              have Cg:V.grownBy w9 (blk A'):=zAb (zDk hbz _) b8))
        | fail
       all_goals
        have co:=(zAa ai hbz ai.size).trans bn;clear Ff ai hbz bn fw gR KP yt yr tq f0 f1 f2 e1 e2 e3 w1 w2 Cg;go_wp2_with fail
        go_roundw
        case rel=>exact ⟨i+1,_,A2,k+1,c2,Ss++[IT],rfl,hi7,by go_num,by rw [rh.out];rfl,rfl,hR9,co,hk7,iW⟩
        case measure=>simp [intOf];omega
   ·have j1:¬(i:Int) < (m:Int):=by omega
    have hin:i=m:=by omega
    have qG:Ss=zGi F L L.length:=by rw [HS.out,hin,bo.out]
    have hjl:(Lib.join Ss [32]).length<=140737488355328:=by
     have:=zMF (b:=100) [32] (by simp) (xs:=Ss) (by rw [qG];exact zMj HP.out (O _));have h2:=zQB F L L.length;rw [<-qG,bo.out] at h2;have:Ss.length*(100+1)<=400*101:=Nat.mul_le_mul (by omega) (by omega);omega
    have HJ:=qH (zMG hR (by omega) hjl);have HR:=qH (show Lib.join Ss [32]=zTU F L by unfold zTU;rw [qN (by rw [bo.out];exact HMN.out),qG]);have hbw:=zAa hby hb hby.size;clear hin hlt HS qG hjl hR hb;go_wp2_with fail
    refine HJ.out.mono ?_;rintro e w8 ⟨rfl,cz⟩;have bn:=zAa hbw cz hbw.size;go_wp2_with fail
    go_ret;exact ⟨by rw [HR.out];rfl,bn⟩
def sqS (F:List Fg) (re lo K:Int) (L:List Lt):List UInt8:=if zDh F re lo K L=0 then zTU F L else []
theorem zJL {A:Option Addr} {n c:Nat} {F:List Fg} {re lo K:Int} {B:Option Addr} {m d:Nat} {L:List Lt} {ZQ:Int} (h:zDh F re lo K L=ZQ) (w:ZY) (hA:Fgs w A n F) (hc:n<=c) (hB:Lets w B m L) :
  Calls ZX 74 #[frV A n c re lo,.agg #[D J K,H B m d]] w fun e w'=>e=.returned (D J ZQ)/\ZZ w.heap.size w w':=by
 subst h;exact zMd A n c F re lo K B m d L w hA hc hB
theorem zMk {A:Option Addr} {n c:Nat} {F:List Fg} {re lo K:Int} {B:Option Addr} {m d:Nat} {L:List Lt} {S:List UInt8} (h:zTU F L=S) (w:ZY) (hA:Fgs w A n F) (hB:Lets w B m L) (hP:Pos F re lo L) (hK:K=(F.length:Int)) (ht:Tabs w) :
  Calls ZX 75 #[frV A n c re lo,.agg #[D J K,H B m d]] w fun e w'=>e=.returned (W (bA S))/\ZZ w.heap.size w w':=by
 subst h;subst hK;exact zIg A n c F re lo B m d L w hA hB hP ht
theorem zIh (A:Option Addr) (n c:Nat) (F:List Fg) (re lo K:Int) (B:Option Addr) (m d:Nat) (L:List Lt) (w:ZY) (hA:Fgs w A n F) (hc:n<=c) (hB:Lets w B m L) (ht:Tabs w) :
  Calls ZX 33 #[frV A n c re lo,.agg #[D J K,H B m d]] w fun e w'=>e=.returned (.tuple #[W (bA (sqS F re lo K L)),D J (zDh F re lo K L)])/\ZZ w.heap.size w w':=by
 have ah:ZZ w.heap.size w ((w.alloc (.cells #[H A n c,D J re,D J lo] 24)).alloc (.cells #[D J K,H B m d] 55)):=((M _ _).alloc (O _) _).alloc (by simp) _;have hk0:Blk ((w.alloc (.cells #[H A n c,D J re,D J lo] 24)).alloc (.cells #[D J K,H B m d] 55)) w.heap.size 24 #[H A n c,D J re,D J lo]:=(Blk.new w _ _).alloc _;have aq:Blk ((w.alloc (.cells #[H A n c,D J re,D J lo] 24)).alloc (.cells #[D J K,H B m d] 55)) (w.heap.size+1) 55 #[D J K,H B m d]:=heap_alloc2_new w _ _;obtain ⟨ZQ,hE⟩:∃ZQ,zDh F re lo K L=ZQ:=⟨_,rfl⟩
 obtain ⟨S,hS⟩:∃S,zTU F L=S:=⟨_,rfl⟩
 have ir:=qH (fun wx (hx:Fgs wx A n F) (hy:Lets wx B m L)=>zJL (d:=d) hE wx hx hc hy);have HA:=qH hA;have HB:=qH hB;have HT:=qH ht;have HE:=qH hE;have HSE:=qH (fun (h0:ZQ=0) wx (hx:Fgs wx A n F) (hy:Lets wx B m L) (hz:Tabs wx)=>zMk (c:=c) (d:=d) hS wx hx hy (zGy (zHO (hE.trans h0)).1).1 (zGy (zHO (hE.trans h0)).1).2 hz);rw [hE];have HR:=qH (show sqS F re lo K L=if ZQ=0 then S else [] by unfold sqS;rw [hE,hS]);rw [HR.out];obtain ⟨R,hR⟩:∃R,(if ZQ=0 then S else ([]:List UInt8))=R:=⟨_,rfl⟩
 rw [hR];have pH:=qH hR;clear hA hB ht hE hS hc hR HR;go_enter Tryz.func33,Tryz.ntmps33;go_wp2_with fail
 generalize (w.alloc (.cells #[H A n c,D J re,D J lo] 24)).alloc (.cells #[D J K,H B m d] 55)=Y at ah hk0 aq ⊢;refine (ir.out Y (HA.out.below ah) (HB.out.below ah)).mono ?_;rintro e Y2 ⟨rfl,ai⟩;have al:=zAa ah ai ah.size;have k2:=hk0.below ai hk0.lt;have k3:=aq.below ai aq.lt;clear ai hk0 aq ah;by_cases h0:ZQ=0
 ·have DA:=qH (HSE.out h0);obtain rfl:S=R:=by have:=pH.out;rwa [qP h0] at this
  subst h0;clear pH;obtain ⟨c0,c1⟩:=cQ2 k3;obtain ⟨c2,c3,c4⟩:=cQ3 k2;clear k2 k3;go_wp2_with fail
  refine (DA.out Y2 (HA.out.below al) (HB.out.below al) (HT.out.below al)).mono ?_;rintro e Y3 ⟨rfl,bh⟩;have az:=zAa al bh al.size;clear bh c0 c1 c2 c3 c4;go_wp2_with fail
  go_ret2;exact ⟨rfl,az⟩
 ·have q1:(ZQ != 0)=Q:=by simpa using h0
  obtain rfl:[]=R:=by have:=pH.out;rwa [qN h0] at this
  clear h0 k2 k3 pH;go_wp2_with fail
  go_ret2;exact ⟨rfl,al⟩
theorem Lets.src {w:ZY} {A:Option Addr} {n:Nat} {L:List Lt} (h:Lets w A n L):Src w 6 A n (L.flatMap ltC):=by
 refine ⟨by rw [zCn ltC 6 zDJ,h.len],fun hn=>?_⟩;obtain ⟨g,o,rfl,hg,hc⟩:=h.2.2.2 hn;refine ⟨_,rfl,hg,fun j u hu=>?_⟩;have hjl:j < L.length*6:=by
  have:=(List.getElem?_eq_some_iff.1 hu).1
  rwa [zCn ltC 6 zDJ] at this
 have hx:L[j / 6]? = Z (L[j / 6]'(by omega)):=List.getElem?_eq_getElem _;have hf:=zFQ ltC 6 zDJ L (j / 6) (j % 6) _ hx (Nat.mod_lt _ (by omega));rw [show j / 6*6+j % 6=j by omega,hu] at hf;have ha:=hc (j / 6) _ hx;have hadd:(⟨g,o,U⟩:Addr).add j=⟨g,o+j,U⟩:=Addr.add_lit _ _ _;rw [hadd];have e:j=j / 6*6+j % 6:=by omega
 generalize L[j / 6]'(by omega)=x at *;rcases (show j % 6=0∨j % 6=1∨j % 6=2∨j % 6=3∨j % 6=4∨j % 6=5 by omega) with h6 | h6 | h6 | h6 | h6 | h6<;>rw [h6] at hf e<;>simp [ltC] at hf<;>subst hf
 ·rw [e];exact ha.kind
 ·rw [e];exact ha.gate
 ·rw [e];exact ha.rank
 ·rw [e];exact ha.id
 ·rw [e];exact ha.sign
 ·rw [e];exact ha.over
theorem zXe {w:ZY} {ops:Array Oper} {rest:List Oper} {o:Oper} {a:Act} {Q':Exit->Act->ZY->Prop} (hgd:o.guard=U) (s x:Operand)
  (ho:o.op=.call { callee:=.builtin .append,args:=#[s,x],argTypes:=#[53,53] })
  {base:Nat} {A:Option Addr} {n c:Nat} {L:List Lt} (hst:OwnL w base A n c L) {B:Option Addr} {m d:Nat} {ZN:List Lt} (hM:Lets w B m ZN) (hs:a.eval s=H A n c) (hx:a.eval x=H B m d)
  (N:Nat) (hN:n+m=N) (hn:N<=2932031007402) (hbase:base<=w.heap.size)
  (h:∀A' c' w',OwnL w' base A' N c' (L++ZN)->w.grownBy w' (blk A)->(∀k,blk A'=Z k->blk A=Z k∨w.heap.size<=k)->wpList ZX ops Q' rest (a.put o.dst (H A' N c')) w') :
  wpList ZX ops Q' (o :: rest) a w:=by
 obtain ⟨i0,hi,cD,bu,cM⟩:=info_parts zMJ
 refine zRt hgd s x 53 ho 76 i0 _ 6 48 Tryz.underlying53 hi cD bu cM rfl (by decide) hst.row hM.src
  (by
   intro u hu
   obtain ⟨q,_,hq⟩:=List.mem_flatMap.1 hu
   simp [ltC] at hq
   rcases hq with rfl | rfl | rfl | rfl | rfl | rfl<;>rfl) hs hx N hN (by unfold maxLen;omega) (by omega) hbase ?_
 intro A' c' w' h1 h2 h3 _;refine h A' c' w' ⟨by rw [List.flatMap_append];exact h1,fun y hy=>?_,hn⟩ h2 h3;rcases List.mem_append.1 hy with hy | hy
 ·exact hst.fits y hy
 ·exact hM.fits y hy
def zMl (w0:ZY) (K:Int) (L:List Lt) (e:Ending) (w':ZY):Prop :=
 ∃B m d,e=.returned (.agg #[D J K,H B m d])/\OwnL w' w0.heap.size B m d L/\ZZ w0.heap.size w0 w'
def zHY (cr nu:Nat) (L:List Lt) (i:Nat):List Lt:=(L.take i).map (sgL cr nu)++L.drop i
theorem zQD (cr nu:Nat) (L:List Lt):zHY cr nu L 0=L:=by simp [zHY]
theorem zSA (cr nu:Nat) (L:List Lt):zHY cr nu L L.length=zCR cr nu L:=by simp [zHY,zCR]
theorem zQE {cr nu:Nat} {L:List Lt} {i:Nat} (h:i < L.length):(zHY cr nu L i)[i]? = Z (la L i):=by
 unfold zHY;rw [List.getElem?_append_right (by simp;omega)];simp only [List.length_map,List.length_take,Nat.min_eq_left (Nat.le_of_lt h),Nat.sub_self,List.getElem?_drop,Nat.add_zero];unfold la;rw [List.getElem?_eq_getElem h];rfl
theorem zJM (cr nu:Nat) (L:List Lt) {i:Nat} (h:i<=L.length):(zHY cr nu L i).length=L.length:=by
 unfold zHY;rw [List.length_append,List.length_map,List.length_take,List.length_drop];omega
theorem zNh {cr nu:Nat} {L:List Lt} {i:Nat} (h:i < L.length):(zHY cr nu L i).set i (sgL cr nu (la L i))=zHY cr nu L (i+1):=by
 have hx:L[i]? = Z (la L i):=by unfold la;rw [List.getElem?_eq_getElem h];rfl
 apply List.ext_getElem?;intro j;rw [List.getElem?_set];by_cases hj:i=j
 ·subst hj;rw [qP rfl,zJM _ _ _ (by omega),qP h];unfold zHY;rw [List.getElem?_append_left (by simp;omega),List.getElem?_map,List.getElem?_take_of_lt (by omega),hx];rfl
 ·rw [qN hj];unfold zHY;rcases Nat.lt_or_ge j i with h1 | h1
  ·rw [List.getElem?_append_left (by simp;omega),List.getElem?_append_left (by simp;omega),List.getElem?_map,List.getElem?_map,List.getElem?_take_of_lt h1,List.getElem?_take_of_lt (by omega)]
  ·rw [List.getElem?_append_right (by simp;omega),List.getElem?_append_right (by simp;omega)];simp only [List.length_map,List.length_take,List.getElem?_drop]
   congr 1;omega
theorem zQF {cr nu:Nat} {L:List Lt} {i:Nat} (h:i < L.length) (hs:sgL cr nu (la L i)=la L i):zHY cr nu L (i+1)=zHY cr nu L i:=by
 rw [<-zNh h,hs];have:=zQE (cr:=cr) (nu:=nu) h;exact List.ext_getElem? fun j=>by
  rw [List.getElem?_set];by_cases hj:i=j
  ·subst hj;rw [qP rfl,zJM _ _ _ (by omega),qP h,this]
  ·rw [qN hj]
theorem zQG (q:Nat) (h:q < 4096):bits .and J (q:Int) 1=((q % 2:Nat):Int):=by
 unfold bits;simp only [BitVec.toNat_and,BitVec.toNat_ofInt];have e1:((q:Int) % ((2 ^ IntKind.i64.bits:Nat):Int)).toNat=q:=by
  have:((2 ^ IntKind.i64.bits:Nat):Int)=18446744073709551616:=by decide
  rw [this];omega
 have e2:((1:Int) % ((2 ^ IntKind.i64.bits:Nat):Int)).toNat=1:=by decide
 rw [e1,e2,Nat.and_one_is_mod];exact IntWalk.i64_in _ (by omega)
theorem zXf {w:ZY} {ops:Array Oper} {o:Oper} {a:Act} {K:Act->ZY->Prop} {Q':Exit->Act->ZY->Prop} {ZQ:Prop} (hgd:o.guard=U) (s x:Operand)
  (ho:o.op=.call { callee:=.builtin .append,args:=#[s,x],argTypes:=#[53,53] })
  {base:Nat} {A:Option Addr} {n c:Nat} {L:List Lt} {B:Option Addr} {m d:Nat} {ZN:List Lt} (hs:a.eval s=H A n c) (hx:a.eval x=H B m d)
  (hL:OwnL w base A n c L) (hM:Lets w B m ZN) (N:Nat) (hN:n+m=N) (hn:N<=2932031007402) (hbase:base<=w.heap.size)
  (h:∀A' c' w',OwnL w' base A' N c' (L++ZN)->w.grownBy w' (blk A)->(∀k,blk A'=Z k->blk A=Z k∨w.heap.size<=k)->K (a.put o.dst (H A' N c')) w') :
  if Region.wanted o (yielded ops a.tmps)=Q then Oper.wp ZX o a w K Q' else ZQ:=by
 obtain ⟨i0,hi,cD,bu,cM⟩:=info_parts zMJ
 refine zRG hgd s x 53 ho 76 i0 _ 6 48 Tryz.underlying53 hi cD bu cM rfl (by decide) hL.row hM.src
  (by
   intro u hu
   obtain ⟨q,_,hq⟩:=List.mem_flatMap.1 hu
   simp [ltC] at hq
   rcases hq with rfl | rfl | rfl | rfl | rfl | rfl<;>rfl) hs hx N hN (by unfold maxLen;omega) (by omega) hbase ?_
 intro A' c' w' h1 h2 h3 _;refine h A' c' w' ⟨by rw [List.flatMap_append];exact h1,fun y hy=>?_,hn⟩ h2 h3;rcases List.mem_append.1 hy with hy | hy
 ·exact hL.fits y hy
 ·exact hM.fits y hy
structure SgW (Y wr:ZY) (oB:Nat) (K:Int) (A:Option Addr) (n c:Nat) (ZN:List Lt):Prop where
 own:OwnL wr Y.heap.size A n c ZN
 bk:Blk wr oB 55 #[D J K,H A n c]
 far:∀q,blk A=Z q->q≠oB
 old:ZZ Y.heap.size Y wr
section
variable {Y wr wx:ZY} {oB:Nat} {K:Int} {A:Option Addr} {n c:Nat} {ZN:List Lt}
theorem SgW.next (h:SgW Y wr oB K A n c ZN) (hb:ZZ wr.heap.size wr wx):SgW Y wx oB K A n c ZN:=⟨h.own.next hb,h.bk.below hb h.bk.lt,h.far,zAa h.old hb h.old.size⟩
theorem SgW.put {g o j:Nat} {x x':Lt} {u:Value} (h:SgW Y wr oB K (Z ⟨g,o,U⟩) n c ZN) (hx:ZN[j]? = Z x) (he:ltC x'=(ltC x).set 4 u) (hok:LtOk x') :
  SgW Y (wr.setCell ⟨g,o+(j*6+4),U⟩ u) oB K (Z ⟨g,o,U⟩) n c (ZN.set j x') :=
 ⟨h.own.put hx (by omega) he hok rfl,h.bk.far (fun e=>h.far g rfl e.symm) u,h.far,h.old.setCell (p:=⟨g,o+(j*6+4),U⟩) (h.own.row.at_ _ rfl).2.1 u⟩
theorem SgW.free {g o j:Nat} (h:SgW Y wr oB K (Z ⟨g,o,U⟩) n c ZN) (hj:j < n):wr.frozen? ⟨g,o+j*6+4,U⟩=E:=by
 have:=h.own.row.cap;have e:=h.own.row.free (j:=j*6+4) (by omega);rw [<-Nat.add_assoc] at e;exact e
end
theorem zIP {a b c:ZY} {B:Nat} (h:ZZ B a b) (hg:b.grownBy c (blk U)) (hB:B<=b.heap.size):ZZ B a c:=h.grown hg hB (fun k hk=>by cases hk)
theorem zVy {A:Option Addr} {N ZN:Nat} (h:N < ZN) (hl:∀k,blk A=Z k->blk U=Z k∨ZN<=k):∀q,blk A=Z q->q≠N:=fun q hq e=>by
 rcases hl q hq with h1 | h1
 ·cases h1
 ·omega
theorem zSB {Y w1:ZY} {K:Int} {A:Option Addr} {n c:Nat} {L:List Lt} (hown:OwnL w1 Y.heap.size A n c L) (hz:Blk w1 Y.heap.size 55 #[D J 0,H U 0 0]) (hb:ZZ Y.heap.size Y w1) (hf:∀q,blk A=Z q->q≠Y.heap.size) :
  ∃(X:ZY) (oB:Nat) (A1:Option Addr) (c1:Nat),X=(w1.setCell ⟨Y.heap.size,0,U⟩ (D J K)).setCell ⟨Y.heap.size,1,U⟩ (H A n c)/\Value.pointer (Z ⟨Y.heap.size,0,U⟩)=.pointer (Z ⟨oB,0,U⟩)/\Y.heap.size<=oB/\SgW Y X oB K A1 n c1 L:=by
 refine ⟨_,Y.heap.size,A,c,rfl,rfl,O _,?_,(hz.set_ 0 _).set_ 1 _,hf,(hb.setCell (p:=⟨Y.heap.size,0,U⟩) (O _) _).setCell (p:=⟨Y.heap.size,1,U⟩) (O _) _⟩;have gS:=zAk (zAk (World.grownBy.refl w1 (Z Y.heap.size)) (p:=⟨Y.heap.size,0,U⟩) (.inl rfl) (D J K)) (p:=⟨Y.heap.size,1,U⟩) (.inl rfl) (H A n c);refine ⟨hown.row.kept gS ?_,hown.fits,hown.le⟩
 cases hb:blk A with
 | none=>exact .inl rfl
 | some q=>exact .inr (by have:=hf q hb;simpa using this)
theorem zKX (K:Int) (B:Option Addr) (n d:Nat) (L:List Lt) (cr nu:Nat) (w:ZY) (hB:Lets w B n L) (hn:n<=1000000) (hcr:cr<=12) (hnu:nu < 4096) (hid:∀i,i < n->isC (la L i)=Q->1<=(la L i).id/\(la L i).id<=cr) :
  Calls ZX 82 #[.agg #[D J K,H B n d],D J (cr:Int),D J (nu:Int)] w (zMl w K (zCR cr nu L)):=by
 have ah:ZZ w.heap.size w ((w.alloc (.cells #[D J K,H B n d] 55)).alloc (.cells #[D J 0,H U 0 0] 55)):=((M _ _).alloc (O _) _).alloc (by simp) _;have hk0:Blk ((w.alloc (.cells #[D J K,H B n d] 55)).alloc (.cells #[D J 0,H U 0 0] 55)) w.heap.size 55 #[D J K,H B n d]:=(Blk.new w _ _).alloc _;have aq:Blk ((w.alloc (.cells #[D J K,H B n d] 55)).alloc (.cells #[D J 0,H U 0 0] 55)) (w.heap.size+1) 55 #[D J 0,H U 0 0]:=heap_alloc2_new w _ _;have bo:=qH hB.len;have HB:=qH hB;have DU:=qH hid;clear hid hB;go_enter Tryz.func82,Tryz.ntmps82;go_upto_region 1 with fail
 generalize ((w.alloc (.cells #[D J K,H B n d] 55)).alloc (.cells #[D J 0,H U 0 0] 55))=Y at ah hk0 aq ⊢;obtain ⟨f0,f1⟩:=cQ2 hk0;have FH:Lets Y B n L:=HB.out.below ah;have KP:=qH (fun wx (h:ZZ Y.heap.size Y wx)=>(show wx.cell? ⟨w.heap.size,0,U⟩=Z (D J K)/\wx.cell? ⟨w.heap.size,1,U⟩=Z (H B n d) from ⟨((hk0.below h hk0.lt).cell 0).trans rfl,((hk0.below h hk0.lt).cell 1).trans rfl⟩));have hn2:n<=2932031007402:=by omega
 have gY:ZZ Y.heap.size Y (Y.alloc (.cells #[D J 0,H U 0 0] 55)):=(M _ _).alloc (O _) _;have BI:Blk (Y.alloc (.cells #[D J 0,H U 0 0] 55)) Y.heap.size 55 #[D J 0,H U 0 0]:=Blk.new _ _ _;have Ew:(Y.alloc (.cells #[D J 0,H U 0 0] 55)).cell? ⟨w.heap.size,0,U⟩=Z (D J K):=(KP.out _ gY).1;have Ev:(Y.alloc (.cells #[D J 0,H U 0 0] 55)).cell? ⟨w.heap.size,1,U⟩=Z (H B n d):=(KP.out _ gY).2;go_cut [7] (fun v7 wv=>∃(X:ZY) (oB:Nat) (A1:Option Addr) (c1:Nat),X=wv/\v7=.pointer (Z ⟨oB,0,U⟩)/\Y.heap.size<=oB/\SgW Y X oB K A1 n c1 (zHY cr nu L 0))
 case first =>
  go_region_law (first
   | ((refine zXf (base:=Y.heap.size) (A:=U) (n:=0) (c:=0) (L:=[]) (m:=n) (d:=d) (ZN:=L) rfl (.const (H U 0 0)) (.tmp 13) (by rfl) (by rfl) (by rfl) (OwnL.nil _ _) (by first | exact FH.below (M _ _).drew | exact FH.below gY.drew) n (by omega) hn2 (by first | exact O _ | exact gY.size) ?_)
      intro A1 c1 w1 hown1 dX ik
      have uj:ZZ Y.heap.size Y w1:=(by first | exact zIP (M Y.heap.size Y).drew dX (O _) | exact zIP gY.drew dX gY.size)
      obtain ⟨u0,u1⟩:=KP.out _ uj
      obtain ⟨u2,u3⟩:=KP.out _ (uj.alloc uj.size (.cells #[D J 0,H U 0 0] 55))
      try have xI:=BI.drew.grown dX (by simp [blk])
      try have y0:w1.cell? ⟨Y.heap.size,0,U⟩=Z (D J 0):=(xI.cell 0).trans rfl
      try have y1:w1.cell? ⟨Y.heap.size,1,U⟩=Z (H U 0 0):=(xI.cell 1).trans rfl
      try have ki:=xI.frozen 0
      try have kh:=xI.frozen 1
      try have hfar:=zVy BI.lt ik))
  all_goals
   rw [List.nil_append] at hown1;clear u0 u1 u2 u3 KP f0 f1 Ew Ev;go_wp2_with fail
   go_meet
   case rel =>
    rw [zQD]
    first
     | exact ⟨_,w1.heap.size,A1,c1,rfl,rfl,uj.size,hown1.alloc _,Blk.new _ _ _,fun q hq=>Nat.ne_of_lt (hown1.row.lt q hq).2,uj.alloc uj.size _⟩
     | exact zSB hown1 xI uj hfar
 case rest =>
  obtain ⟨ZR,oB,A1,c1,hZ,rfl,hoY,cA⟩:=hcut;subst hZ;clear BI Ew Ev gY KP f0 f1;have g1:ZR.cell? ⟨oB,1,U⟩=Z (H A1 n c1):=(cA.bk.cell 1).trans rfl;go_wp2_with fail
  clear g1;go_loopw [19] (fun v19 wv=>∃(i:Nat) (X:ZY),X=wv/\i<=n/\v19=D J i/\SgW Y X oB K A1 n c1 (zHY cr nu L i)) (fun v19 _=>n-(intOf v19).toNat)
  case atStart=>exact ⟨0,_,rfl,by omega,rfl,cA⟩
  case round =>
   obtain ⟨i,X,hX,hi,rfl,hW⟩:=hrel;subst hX;clear cA;by_cases hlt:i < n
   ·have j0:(0:Int)<=(i:Int):=by omega
    have j1:(i:Int) < (n:Int):=by omega
    have hil:i < L.length:=by rw [bo.out];exact hlt
    have hgi:=zQE (cr:=cr) (nu:=nu) hil;have hll:la (zHY cr nu L i) i=la L i:=zRA hgi;obtain ⟨g,o,rfl,hgl,hat,hok⟩:=hW.own.lets.at_ hlt;rw [hll] at hat hok;obtain ⟨l,hle⟩:∃l,la L i=l:=⟨_,rfl⟩
    rw [hle] at hat hok hgi;obtain ⟨x0,x1,x2,x3,x4,x5⟩:=hat;have hbl:=(M X.heap.size X).alloc (O _) (.cells #[D J l.kind,D J l.gate,D J l.rank,D J l.id,D J l.sign,G l.over] 76);have cl:Blk (X.alloc (.cells #[D J l.kind,D J l.gate,D J l.rank,D J l.id,D J l.sign,G l.over] 76)) X.heap.size 76 #[D J l.kind,D J l.gate,D J l.rank,D J l.id,D J l.sign,G l.over]:=Blk.new _ _ _;have de:=hW.next hbl;have fR:g < X.heap.size:=hgl;have DT:=qH (DU.out i hlt);clear hW hbl hll;by_cases hk2:l.kind=2
    ·have q2:(l.kind != 2)=E:=by simpa using hk2
     have uN:isC (la L i)=Q:=by rw [hle];exact zRB hk2
     have hid:=DT.out uN;rw [hle] at hid;obtain ⟨k,hk⟩:∃k:Nat,(cr:Int)-l.id=(k:Int):=⟨((cr:Int)-l.id).toNat,by omega⟩
     have hk12:k<=12:=by omega
     have hkk:cr-l.id.toNat=k:=by omega
     obtain ⟨q,hq⟩:∃q,nu >>> k=q:=⟨_,rfl⟩
     have hq4:q < 4096:=by rw [<-hq];exact Nat.lt_of_le_of_lt (Nat.shiftRight_le _ _) hnu
     have hdiv:(nu:Int) / 2 ^ k=(q:Int):=by rw [<-hq,Nat.shiftRight_eq_div_pow];simp
     have hand:=zQG q hq4;have hwr:wrap64 ((cr:Int)-l.id)=(k:Int):=by rw [hk];unfold wrap64;omega
     have hokm:∀s,s=1∨s = -1->LtOk { l with sign:=s }:=fun s hs=>⟨hok.kind,hok.gate,hok.rank,hok.id,⟨by simp only;omega,by simp only;omega⟩⟩
     have zF:=qH (show sgL cr nu (la L i)={ l with sign:=if q % 2=1 then 1 else -1 } by
      unfold sgL sgI
      rw [uN,qP rfl,hle,hkk,hq])
     have zH:=qH (zNh (cr:=cr) (nu:=nu) hil);have hi1:i+1<=n:=hlt;have zY:=qH hgi;have fk:=qH hokm;clear hk2 uN hid hle hk hkk hq hokm hgi hok;go_upto_region 6 with fail
     clear x0 x1 x2 x3 x5;generalize X.alloc (.cells #[D J l.kind,D J l.gate,D J l.rank,D J l.id,D J l.sign,G l.over] 76)=X1 at cl de ⊢;generalize X.heap.size=a9 at cl fR ⊢;have vb:=(de.own.lets.also (k:=i) hlt).1;have yh:la (zHY cr nu L i) i=l:=zRA zY.out;rw [yh] at vb;have c1:X1.cell? ⟨oB,1,U⟩=Z (H (Z ⟨g,o,U⟩) n c1):=(de.bk.cell 1).trans rfl;have s4:X1.cell? ⟨g,o+i*6+4,U⟩=Z (D J l.sign):=vb.sign;have z4:=de.free hlt;have cP:=de.put (x':={ l with sign:=-1 }) (u:=D J (-1)) zY.out rfl (fk.out _ (.inr rfl));have di:=cl.far (p:=⟨g,o+(i*6+4),U⟩) (by simp only;omega) (D J (-1));clear vb yh de cl;go_upto_region 7 with fail
     clear c1 s4 z4 x4;generalize X1.setCell ⟨g,o+i*6+4,U⟩ (D J (-1))=X2 at *
     change SgW Y X2 oB K (Z ⟨g,o,U⟩) n c1 _ at cP
     change Blk X2 a9 _ _ at di
     have e3:X2.cell? ⟨a9,3,U⟩=Z (D J l.id):=(di.cell 3).trans rfl;have dr:((zHY cr nu L i).set i { l with sign:=-1 })[i]? = Z { l with sign:=-1 }:=by rw [List.getElem?_set_self (by rw [zJM _ _ _ (Nat.le_of_lt hil)];exact hil)]
     by_cases hb:q % 2=1
     ·have r1:(((q % 2:Nat):Int)==1)=Q:=by rw [hb];rfl
      have c1:X2.cell? ⟨oB,1,U⟩=Z (H (Z ⟨g,o,U⟩) n c1):=(cP.bk.cell 1).trans rfl;have va:=(cP.own.lets.also (k:=i) hlt).1;rw [show la ((zHY cr nu L i).set i { l with sign:=-1 }) i={ l with sign:=-1 } from zRA dr] at va;have s4:X2.cell? ⟨g,o+i*6+4,U⟩=Z (D J (-1)):=va.sign;have z4:=cP.free hlt;have du:=cP.put (x':={ l with sign:=1 }) (u:=D J 1) dr rfl (fk.out _ (.inl rfl));rw [List.set_set,show ({ l with sign:=1 }:Lt)=sgL cr nu (la L i) by rw [zF.out,qP hb],zH.out] at du;have tS:=qH du;clear va cP du di dr hb;go_wp2_with fail
      go_roundw
      case rel=>exact ⟨i+1,_,rfl,hi1,by go_num,tS.out⟩
      case measure=>simp [intOf];omega
     ·have ah:q % 2=0:=by omega
      have r1:(((q % 2:Nat):Int)==1)=E:=by rw [ah];rfl
      rw [show ({ l with sign:=-1 }:Lt)=sgL cr nu (la L i) by rw [zF.out,qN hb],zH.out] at cP;clear di dr hb ah;go_wp2_with fail
      go_roundw
      case rel=>exact ⟨i+1,_,rfl,hi1,by go_num,cP⟩
      case measure=>simp [intOf];omega
    ·have q2:(l.kind != 2)=Q:=by simpa using hk2
     have hs:zHY cr nu L (i+1)=zHY cr nu L i:=zQF hil (by unfold sgL;rw [hle,zRC hk2];rfl);rw [<-hs] at de;clear hk2 hle hs cl hgi hok;go_wp2_with fail
     go_roundw
     case rel=>exact ⟨i+1,_,rfl,by omega,by go_num,de⟩
     case measure=>simp [intOf];omega
   ·have j1:¬(i:Int) < (n:Int):=by omega
    have hin:i=L.length:=by rw [bo.out];omega
    rw [hin,zSA] at hW;have vj:w.heap.size+1 < Y.heap.size:=aq.lt;have fT:=aq.below hW.old vj;have e0:X.cell? ⟨oB,0,U⟩=Z (D J K):=(hW.bk.cell 0).trans rfl;have e1:X.cell? ⟨oB,1,U⟩=Z (H A1 n c1):=(hW.bk.cell 1).trans rfl;obtain ⟨r0,r1⟩:=cQ2 fT;have z0:=fT.frozen 0;have z1:=fT.frozen 1;have vL:=qH fT;have HW:=qH hW;have og:=ah.size;clear hin hlt hW fT;go_wp2_with fail
    have hS:Blk ((X.setCell ⟨w.heap.size+1,0,U⟩ (D J K)).setCell ⟨w.heap.size+1,1,U⟩ (H A1 n c1)) (w.heap.size+1) 55 #[D J K,H A1 n c1]:=(vL.out.set_ 0 _).set_ 1 _;have gS:=zAk (zAk (World.grownBy.refl X (Z (w.heap.size+1))) (p:=⟨w.heap.size+1,0,U⟩) (.inl rfl) (D J K)) (p:=⟨w.heap.size+1,1,U⟩) (.inl rfl) (H A1 n c1);have gM:=((zAa ah HW.out.old og).setCell (p:=⟨w.heap.size+1,0,U⟩) (by simp) (D J K)).setCell (p:=⟨w.heap.size+1,1,U⟩) (by simp) (H A1 n c1);have vl:OwnL ((X.setCell ⟨w.heap.size+1,0,U⟩ (D J K)).setCell ⟨w.heap.size+1,1,U⟩ (H A1 n c1)) w.heap.size A1 n c1 (zCR cr nu L):=by
     refine ⟨(HW.out.own.row.kept gS ?_).mono og,HW.out.own.fits,HW.out.own.le⟩
     cases hb:blk A1 with
     | none=>exact .inl rfl
     | some q=>exact .inr (by have:=(HW.out.own.row.lt q hb).1;simp;omega)
    (try simp only [Exit.inBlock,Exit.then])
    refine zAi rfl rfl hS Tryz.underlying55 rfl (by kernel_rfl) rfl ?_;exact ⟨A1,n,c1,rfl,vl,gM⟩
structure It where
 fg:Option Fg
 n:Int
 b:Bool
def okI (t:It):Prop:=(∀f,t.fg=Z f->zAn f=Q)/\1<=t.n/\t.n<=999999999
def itW (t:It):List UInt8:=match t.fg with
 | some f=>zAj f++46 :: Lib.itoa t.n++[if t.b then 62 else 60]
 | none=>Lib.itoa t.n++[if t.b then 111 else 117]
def btI (L:List Fg) (t:It):Bi:=match t.fg with
 | some f=>⟨if zAN L f=0 then -1 else (zAN L f:Int),t.n,t.b⟩
 | none=>⟨0,t.n,t.b⟩
def zOq (L:List Fg) (t:It):Bool:=match t.fg with
 | some f=>zBc L f
 | none=>E
theorem zQH (f:Fg):(46:UInt8) ∉ zAj f:=fun hb=>by
 unfold zAj at hb;have h1:∀x:Int,(46:UInt8) ∉ Lib.itoa x:=fun x=>zMC (by decide)
 rcases List.mem_append.1 hb with h | h
 ·split at h
  ·simp at h
  ·exact h1 _ h
 ·rcases List.mem_cons.1 h with h | h
  ·split at h<;>cases h
  ·exact h1 _ h
theorem zKY (A:List UInt8) (c:UInt8):zGV (A++[c])=Lib.cut A [46]:=by unfold zGV;rw [List.dropLast_concat]
theorem zEs (A:List UInt8) (c d:UInt8):zBT (A++[c]) d=decide (c=d):=by unfold zBT;simp
theorem zNi (L:List Fg) {t:It} (h:okI t):zNe L (itW t)=btI L t/\zOl (itW t)=E/\zTR (itW t)=t.fg.isNone/\zVt L (itW t)=zOq L t:=by
 obtain ⟨fg,n,b⟩:=t;obtain ⟨h1,h2,h3⟩:=h;have hc:=zFU h2 h3;simp only at hc h1
 cases fg with
 | none =>
  have hcut:zGV (Lib.itoa n++[if b then 111 else 117])=(Lib.itoa n,[],E):=by rw [zKY];exact zPf (zMC (by decide))
  simp only [itW,btI,zOq];unfold zNe zOl zTR zVt;rw [hcut];simp only [List.dropLast_concat,hc,zEs]
  cases b<;>exact ⟨rfl,rfl,rfl,rfl⟩
 | some f =>
  have hf:=h1 f rfl;have hcut:zGV (zAj f++46 :: Lib.itoa n++[if b then 62 else 60])=(zAj f,Lib.itoa n,Q):=by rw [zKY];exact zPe (zQH f)
  have hp:=zCA hf rfl;simp only [itW,btI,zOq];unfold zNe zOl zTR zVt zDA zKE zEH;rw [hcut];simp only [hp,hc,zEs]
  cases b<;>exact ⟨rfl,rfl,rfl,rfl⟩
theorem zGj {x:List UInt8} {c:UInt8} (h:zBT x c=Q):x=x.dropLast++[c]:=by
 unfold zBT at h;rw [decide_eq_true_eq] at h;obtain ⟨C,rfl⟩:=List.getLast?_eq_some_iff.1 h;rw [List.dropLast_concat]
theorem zVz {S:List UInt8} {c:UInt8} (h:(Lib.cut S [c]).2.2=Q):S=(Lib.cut S [c]).1++c :: (Lib.cut S [c]).2.1/\c ∉ (Lib.cut S [c]).1:=by
 by_cases hc:c∈S
 ·obtain ⟨a,r,rfl,ha⟩:=zJA hc;rw [zPe ha];exact ⟨rfl,ha⟩
 ·rw [zPf hc] at h;cases h
theorem zQI {x:List UInt8} (h:zOl x=E):∃t,okI t/\x=itW t:=by
 unfold zOl at h
 cases hc:(zGV x).2.2 with
 | true =>
  rw [hc,qP rfl] at h;simp only [Bool.or_eq_false_iff,Bool.not_eq_false',Bool.or_eq_true] at h;obtain ⟨⟨h1,h2⟩,h3⟩:=h;obtain ⟨v,hv⟩:∃v,zAs (zGV x).2.1=(v,Q):=⟨(zAs (zGV x).2.1).1,by rw [<-h3]⟩
  obtain ⟨e1,e2,e3⟩:=zCB hv;obtain ⟨f,hf⟩:∃f,zGs (zGV x).1=Z f:=by
   unfold zKE at h1
   cases hp:zGs (zGV x).1 with
   | none=>rw [hp] at h1;cases h1
   | some f=>exact ⟨f,rfl⟩
  obtain ⟨k1,k2⟩:=zLI hf;have hx:=(zVz hc).1;rw [show (Lib.cut x.dropLast [46]).1=(zGV x).1 from rfl,show (Lib.cut x.dropLast [46]).2.1=(zGV x).2.1 from rfl,<-k2,e1] at hx;refine ⟨⟨Z f,v,zBT x 62⟩,⟨fun g hg=>(by injection hg with hg;subst hg;exact k1),e2,e3⟩,?_⟩;simp only [itW];rcases h2 with h2 | h2
  ·rw [h2,qP rfl,<-hx];exact zGj h2
  ·have hne:zBT x 62=E:=by
    have:=zGj h2;rw [this,zEs];rfl
   rw [hne,<-hx];exact zGj h2
 | false =>
  rw [hc,qN (by simp)] at h;simp only [Bool.or_eq_false_iff,Bool.not_eq_false',Bool.or_eq_true] at h;obtain ⟨h2,h3⟩:=h;obtain ⟨v,hv⟩:∃v,zAs x.dropLast=(v,Q):=⟨(zAs x.dropLast).1,by rw [<-h3]⟩
  obtain ⟨e1,e2,e3⟩:=zCB hv;refine ⟨⟨U,v,zBT x 111⟩,⟨fun g hg=>(by cases hg),e2,e3⟩,?_⟩;simp only [itW];rcases h2 with h2 | h2
  ·rw [h2,qP rfl,<-e1];exact zGj h2
  ·have hne:zBT x 111=E:=by
    have:=zGj h2;rw [this,zEs];rfl
   rw [hne,<-e1];exact zGj h2
theorem zQJ (L:List Fg) {T:List It} (h:∀t∈T,okI t):(T.map itW).map (zNe L)=T.map (btI L)/\zGe L (T.map itW)=T.any (zOq L)/\zEQ (T.map itW)=(match T.head? with | some t=>t.fg.isNone | none=>E):=by
 refine ⟨?_,?_,?_⟩
 ·rw [List.map_map];exact List.map_congr_left fun t ht=>(zNi L (h t ht)).1
 ·unfold zGe;rw [List.any_map]
  induction T with
  | nil=>rfl
  | cons t T ih =>
   rw [List.any_cons,List.any_cons,ih fun t ht=>h t (List.mem_cons_of_mem _ ht)];simp only [Function.comp];rw [(zNi L (h t (List.mem_cons_self ..))).2.2.2]
 ·have h1:(T.map itW).any zOl=E:=by
   rw [List.any_eq_false];intro x hx;obtain ⟨t,ht,rfl⟩:=List.mem_map.1 hx;rw [(zNi L (h t ht)).2.1];simp
  unfold zEQ;rw [h1,Bool.false_or]
  cases T with
  | nil=>rfl
  | cons t T=>exact (zNi L (h t (List.mem_cons_self ..))).2.2.1
theorem zOr {ZO:List (List UInt8)} (h:zEQ ZO=E):∃T:List It,(∀t∈T,okI t)/\ZO=T.map itW:=by
 unfold zEQ at h;rw [Bool.or_eq_false_iff] at h;have h1:=h.1;clear h
 induction ZO with
 | nil=>exact ⟨[],by simp,rfl⟩
 | cons x ZO ih =>
  rw [List.any_cons,Bool.or_eq_false_iff] at h1;obtain ⟨t,ht,rfl⟩:=zQI h1.1;obtain ⟨T,hT,rfl⟩:=ih h1.2
  exact ⟨t :: T,fun s hs=>by
   rcases List.mem_cons.1 hs with rfl | hs
   ·exact ht
   ·exact hT s hs,rfl⟩
theorem zSC (t:It):(32:UInt8) ∉ itW t:=fun hb=>by
 obtain ⟨fg,n,b⟩:=t;have h1:=(zFk n).no32
 cases fg with
 | none =>
  simp only [itW] at hb;rcases List.mem_append.1 hb with h | h
  ·exact h1 h
  ·cases b<;>simp at h
 | some f =>
  simp only [itW] at hb;rcases List.mem_append.1 hb with h | h
  ·rcases List.mem_append.1 h with h | h
   ·exact (zDb f).no32 h
   ·rcases List.mem_cons.1 h with h | h
    ·cases h
    ·exact h1 h
  ·cases b<;>simp at h
theorem zOs {T:List It} (h:T≠[]):zAI 32 (Lib.join (T.map itW) [32])=T.map itW :=
 zDK (by simpa using h) fun p hp=>by
  obtain ⟨t,_,rfl⟩:=List.mem_map.1 hp;exact zSC t
