/-
  The document's items of operations; NotesSigns returns true. Conditions: the frame and the operations read.
-/
import Derived.Test.YtlmdfmnbcndhoaaGreatDoorWs45
namespace Go.Proofs.YtlmdfmnbcndhoaaGreatDoor
open Go.RowKit
theorem join_snocD (sep y:List UInt8):∀xs:List (List UInt8),Lib.join (xs++[y]) sep=if xs=[] then y else Lib.join xs sep++sep++y
 | []=>by simp [Lib.join_one]
 | x :: xs=>by
  rw [List.cons_append,Lib.join_cons,Lib.join_cons,if_neg (by simp)]
  simp [Lib.joinTail]
def itsTo (L:List Fg) (Es:List Oe) (i:Nat):List UInt8:=Lib.join (((ogs Es).take i).map (itemF L)) [32]
theorem itsTo_succ (L:List Fg) {Es:List Oe} {i:Nat} (h:i < Es.length):itsTo L Es (i+1)=itsTo L Es i++(if 0 < i then [32] else [])++itemF L (oa Es i).o:=by
 unfold itsTo
 have hx:(ogs Es)[i]? = some (oa Es i).o:=by unfold ogs;rw [List.getElem?_map,oa_get h];rfl
 rw [List.take_add_one,hx,List.map_append]
 simp only [Option.toList_some,List.map_cons,List.map_nil]
 rw [join_snocD]
 have hl:((ogs Es).take i).map (itemF L)=[]↔i=0:=by
  rw [←List.length_eq_zero_iff,List.length_map,List.length_take]
  unfold ogs
  rw [List.length_map]
  omega
 by_cases h0:i=0
 ·subst h0;simp [Lib.join_nil]
 ·rw [if_neg (fun e=>h0 (hl.1 e)),if_pos (by omega)]
theorem itsTo_all (L:List Fg) (Es:List Oe):itsTo L Es Es.length=signsF L (ogs Es):=by
 unfold itsTo signsF
 rw [List.take_of_length_le (by unfold ogs;simp)]
set_option maxHeartbeats 6400000 in
set_option maxRecDepth 1000000 in
theorem nref_Signs (A:Option Addr) (n c:Nat) (L:List Fg) (re lo:Int) (B:Option Addr) (m d:Nat) (Es:List Oe) (w:World) (hA:Fgs w A n L) (hv:frOk L re lo) (hO:Oprs w B m Es) (hr:∀e∈Es,rightB L.length e.o=true) (hm:m≤2100) (hf:∀e∈Es,e.n≤4000) :
  Calls Tryz.prog 30 #[frV A n c re lo,.slice B m d] w fun e w'=>e=.returned (.string (bA (signsF L (ogs Es))))∧Below w.heap.size w w':=by
 have HA:=Lib.hid hA
 have HO:=Lib.hid hO
 have HB:=Lib.hid (Below.refl w.heap.size w)
 have HLN:=Lib.hid hO.len
 have HNL:=Lib.hid hA.len
 have HR:=Lib.hid hr
 have HF:=Lib.hid hf
 have HTK:=Lib.hid hv.tok
 have hstart:Hid ([]=itsTo L Es 0):=Lib.hid (by simp [itsTo,Lib.join_nil])
 clear hA hO hr hf
 go_enter Tryz.func30,Tryz.ntmps30
 have hba:=(Below.refl w.heap.size w).alloc (Nat.le_refl _) (.cells #[.slice A n c,.int .i64 re,.int .i64 lo] 24)
 replace HA:=Lib.hid (HA.out.below hba)
 replace HO:=Lib.hid (HO.out.below hba)
 replace HB:=Lib.hid (below_chain HB.out hba HB.out.size)
 have kf:=Blk.new w 24 #[.slice A n c,.int .i64 re,.int .i64 lo]
 clear hba
 go_upto_region 1 with fail
 generalize w.alloc (.cells #[.slice A n c,.int .i64 re,.int .i64 lo] 24)=X at HA HO HB kf ⊢
 go_wp2_with fail
 go_loopw [5,6] (fun v5 v6 wr=>∃(i:Nat) (T:List UInt8),i≤m∧v6=.int .i64 i∧v5=.string (bA T)∧Below X.heap.size X wr∧Hid (T=itsTo L Es i)∧T.length≤i*200202) (fun _ v6 _=>m-(intOf v6).toNat)
 case atStart=>exact ⟨0,[],Nat.zero_le _,rfl,rfl,Below.refl _ _,hstart,by simp⟩
 case round =>
  obtain ⟨i,T,hi,rfl,rfl,hbr,HTT,hTl⟩:=hrel
  have HBR:=Lib.hid hbr
  replace HA:=Lib.hid (HA.out.below hbr)
  replace HO:=Lib.hid (HO.out.below hbr)
  replace HB:=Lib.hid (below_chain HB.out hbr HB.out.size)
  replace kf:=kf.below hbr kf.lt
  clear hbr hstart
  by_cases hlt:i < m
  ·have j0:(0:Int)≤(i:Int):=by omega
   have j1:(i:Int) < (m:Int):=by omega
   have hil:i < Es.length:=by rw [HLN.out];exact hlt
   have hsn:=itsTo_succ L hil
   have hme:oa Es i∈Es:=List.mem_of_getElem? (oa_get hil)
   have hri:=HR.out _ hme
   have hen:=HF.out _ hme
   have hpl:=(HO.out.2 _ hme).path.len
   have hIl:=itemF_len hv hri
   obtain ⟨IT,hIT⟩:∃T,itemF L (oa Es i).o=T:=⟨_,rfl⟩
   rw [hIT] at hsn hIl
   have hIl2:IT.length≤200200:=by omega
   obtain ⟨Y0,hY0⟩:∃U,T++(if 0 < i then [32] else [])=U:=⟨_,rfl⟩
   obtain ⟨Y1,hY1⟩:∃U,Y0++IT=U:=⟨_,rfl⟩
   have y0:Y0.length≤i*200202+1:=by rw [←hY0,List.length_append];split<;>simp only [List.length_cons,List.length_nil]<;>omega
   have y1:Y1.length≤(i+1)*200202:=by rw [←hY1,List.length_append];omega
   have r1:=sAddT hY1 _ _ rfl rfl (by omega) (by omega)
   have HTT1:=Lib.hid (show Y1=itsTo L Es (i+1) by rw [hsn,←hY1,←hY0,HTT.out])
   have HY0:=Lib.hid hY0
   have hi8:i+1≤m:=hlt
   have HRI:=Lib.hid (show rightB n (oa Es i).o=true by rw [←HNL.out];exact hri)
   have HEN:=Lib.hid (show (oa Es i).n≤10000 by omega)
   have HIT:=Lib.hid hIT
   clear hsn hme hri hen hpl hIl hIl2 hIT hY0 hY1 y0 HTT hil
   obtain ⟨g,p,rfl,hg,⟨x0,x1,x2,x3,x4,x5,x6,x7⟩,hin⟩:=HO.out.at_ hlt
   have HIN:=Lib.hid hin
   generalize hoe:oa Es i=e at x0 x1 x2 x3 x4 x5 x6 x7 HIN
   have HOE:=Lib.hid hoe
   obtain ⟨⟨kk,ff,⟨gf,gl,gfar,gpc⟩,gp,go⟩,eA,en,ec⟩:=e
   simp only at x0 x1 x2 x3 x4 x5 x6 x7
   clear hin hoe
   have HX:=Lib.hid (show g < wr.heap.size∧wr.cell? ⟨g,p+i*8,none⟩=some (.int .i64 kk)∧wr.cell? ⟨g,p+i*8+1,none⟩=some (.int .i64 ff)∧wr.cell? ⟨g,p+i*8+2,none⟩=some (.int .i64 gf)∧wr.cell? ⟨g,p+i*8+3,none⟩=some (.int .i64 gl)∧wr.cell? ⟨g,p+i*8+4,none⟩=some (.bool gfar)∧wr.cell? ⟨g,p+i*8+5,none⟩=some (.int .i64 gpc)∧wr.cell? ⟨g,p+i*8+6,none⟩=some (.slice eA en ec)∧wr.cell? ⟨g,p+i*8+7,none⟩=some (.bool go) from ⟨hg,x0,x1,x2,x3,x4,x5,x6,x7⟩)
   clear x0 x1 x2 x3 x4 x5 x6 x7 hg
   rw [HOE.out] at HRI HEN HIT
   go_upto_if 14 with fail
   go_cut [5] (fun v5 wv=>v5=.string (bA Y0)∧∃V:World,V=wv∧Below wr.heap.size wr V)
   case first =>
    by_cases h0:0 < i
    ·have k1:decide ((0:Int) < (i:Int))=true:=by simp;omega
     have k2:(0:Int) < (i:Int):=by omega
     have hy:T++[32]=Y0:=by have:=HY0.out;rwa [if_pos h0] at this
     have r0:=sAddT hy _ ⟨#[32]⟩ rfl rfl (by omega) (by simp)
     clear hy
     go_wp2_with fail
     go_meet
     case rel=>exact ⟨rfl,_,rfl,Below.refl _ _⟩
    ·have k1:decide ((0:Int) < (i:Int))=false:=by simp;omega
     have k2:¬(0:Int) < (i:Int):=by omega
     have hy:Hid (T=Y0):=Lib.hid (by have:=HY0.out;rwa [if_neg h0,List.append_nil] at this)
     go_wp2_with fail
     go_meet
     case rel=>exact ⟨by rw [hy.out],_,rfl,Below.refl _ _⟩
   case rest =>
    obtain ⟨rfl,V,hV,hb⟩:=hcut
    subst hV
    have HBV:=Lib.hid (below_chain HBR.out hb HBR.out.size)
    have HX:=Lib.hid (show g < V.heap.size∧V.cell? ⟨g,p+i*8,none⟩=some (.int .i64 kk)∧V.cell? ⟨g,p+i*8+1,none⟩=some (.int .i64 ff)∧V.cell? ⟨g,p+i*8+2,none⟩=some (.int .i64 gf)∧V.cell? ⟨g,p+i*8+3,none⟩=some (.int .i64 gl)∧V.cell? ⟨g,p+i*8+4,none⟩=some (.bool gfar)∧V.cell? ⟨g,p+i*8+5,none⟩=some (.int .i64 gpc)∧V.cell? ⟨g,p+i*8+6,none⟩=some (.slice eA en ec)∧V.cell? ⟨g,p+i*8+7,none⟩=some (.bool go) from ⟨Nat.lt_of_lt_of_le HX.out.1 hb.size,(hb.cell (p:=⟨g,p+i*8,none⟩) HX.out.1).trans HX.out.2.1,(hb.cell (p:=⟨g,p+i*8+1,none⟩) HX.out.1).trans HX.out.2.2.1,(hb.cell (p:=⟨g,p+i*8+2,none⟩) HX.out.1).trans HX.out.2.2.2.1,(hb.cell (p:=⟨g,p+i*8+3,none⟩) HX.out.1).trans HX.out.2.2.2.2.1,(hb.cell (p:=⟨g,p+i*8+4,none⟩) HX.out.1).trans HX.out.2.2.2.2.2.1,(hb.cell (p:=⟨g,p+i*8+5,none⟩) HX.out.1).trans HX.out.2.2.2.2.2.2.1,(hb.cell (p:=⟨g,p+i*8+6,none⟩) HX.out.1).trans HX.out.2.2.2.2.2.2.2.1,(hb.cell (p:=⟨g,p+i*8+7,none⟩) HX.out.1).trans HX.out.2.2.2.2.2.2.2.2⟩)
    replace HA:=Lib.hid (HA.out.below hb)
    replace HO:=Lib.hid (HO.out.below hb)
    replace HB:=Lib.hid (below_chain HB.out hb HB.out.size)
    replace kf:=kf.below hb kf.lt
    have HIN:=Lib.hid (HIN.out.below hb)
    clear hb
    go_upto_region 7 with fail
    have k0:∀wx,Below V.heap.size V wx→(Below V.heap.size V wx∧wx.cell? ⟨w.heap.size,0,none⟩=some (.slice A n c)∧wx.cell? ⟨w.heap.size,1,none⟩=some (.int .i64 re)∧wx.cell? ⟨w.heap.size,2,none⟩=some (.int .i64 lo)∧wx.cell? ⟨g,p+i*8,none⟩=some (.int .i64 kk)∧wx.cell? ⟨g,p+i*8+1,none⟩=some (.int .i64 ff)∧wx.cell? ⟨g,p+i*8+2,none⟩=some (.int .i64 gf)∧wx.cell? ⟨g,p+i*8+3,none⟩=some (.int .i64 gl)∧wx.cell? ⟨g,p+i*8+4,none⟩=some (.bool gfar)∧wx.cell? ⟨g,p+i*8+5,none⟩=some (.int .i64 gpc)∧wx.cell? ⟨g,p+i*8+6,none⟩=some (.slice eA en ec)∧wx.cell? ⟨g,p+i*8+7,none⟩=some (.bool go)):=fun wx h=>⟨h,((kf.below h kf.lt).cell 0).trans rfl,((kf.below h kf.lt).cell 1).trans rfl,((kf.below h kf.lt).cell 2).trans rfl,(h.cell (p:=⟨g,p+i*8,none⟩) HX.out.1).trans HX.out.2.1,(h.cell (p:=⟨g,p+i*8+1,none⟩) HX.out.1).trans HX.out.2.2.1,(h.cell (p:=⟨g,p+i*8+2,none⟩) HX.out.1).trans HX.out.2.2.2.1,(h.cell (p:=⟨g,p+i*8+3,none⟩) HX.out.1).trans HX.out.2.2.2.2.1,(h.cell (p:=⟨g,p+i*8+4,none⟩) HX.out.1).trans HX.out.2.2.2.2.2.1,(h.cell (p:=⟨g,p+i*8+5,none⟩) HX.out.1).trans HX.out.2.2.2.2.2.2.1,(h.cell (p:=⟨g,p+i*8+6,none⟩) HX.out.1).trans HX.out.2.2.2.2.2.2.2.1,(h.cell (p:=⟨g,p+i*8+7,none⟩) HX.out.1).trans HX.out.2.2.2.2.2.2.2.2⟩
    have KP:=Lib.hid k0
    clear k0
    have gq0:=(KP.out V (Below.refl _ _)).2.1
    have gq1:=(KP.out V (Below.refl _ _)).2.2.1
    have gq2:=(KP.out V (Below.refl _ _)).2.2.2.1
    have gq3:=(KP.out V (Below.refl _ _)).2.2.2.2.1
    have gq4:=(KP.out V (Below.refl _ _)).2.2.2.2.2.1
    have gq5:=(KP.out V (Below.refl _ _)).2.2.2.2.2.2.1
    have gq6:=(KP.out V (Below.refl _ _)).2.2.2.2.2.2.2.1
    have gq7:=(KP.out V (Below.refl _ _)).2.2.2.2.2.2.2.2.1
    have gq8:=(KP.out V (Below.refl _ _)).2.2.2.2.2.2.2.2.2.1
    have gq9:=(KP.out V (Below.refl _ _)).2.2.2.2.2.2.2.2.2.2.1
    have gq10:=(KP.out V (Below.refl _ _)).2.2.2.2.2.2.2.2.2.2.2
    first
     | go_region_held3 (fun wx=>Below V.heap.size V wx∧wx.cell? ⟨w.heap.size,0,none⟩=some (.slice A n c)∧wx.cell? ⟨w.heap.size,1,none⟩=some (.int .i64 re)∧wx.cell? ⟨w.heap.size,2,none⟩=some (.int .i64 lo)∧wx.cell? ⟨g,p+i*8,none⟩=some (.int .i64 kk)∧wx.cell? ⟨g,p+i*8+1,none⟩=some (.int .i64 ff)∧wx.cell? ⟨g,p+i*8+2,none⟩=some (.int .i64 gf)∧wx.cell? ⟨g,p+i*8+3,none⟩=some (.int .i64 gl)∧wx.cell? ⟨g,p+i*8+4,none⟩=some (.bool gfar)∧wx.cell? ⟨g,p+i*8+5,none⟩=some (.int .i64 gpc)∧wx.cell? ⟨g,p+i*8+6,none⟩=some (.slice eA en ec)∧wx.cell? ⟨g,p+i*8+7,none⟩=some (.bool go)) (first | assumption | exact KP.out _ (Below.refl _ _).drew | exact KP.out _ (below_chain (And.left (by assumption)) (by assumption) (Below.size (And.left (by assumption)))))
       (first
        | (go_at_call 71;refine (sign_of HIT.out _ _ _ _ (HA.out.below (And.left (by assumption))) HTK.out (HIN.out.below (And.left (by assumption))) HRI.out HEN.out).mono ?_;rintro e wd ⟨rfl,hbd⟩))
     | fail
    all_goals
     have hbf:=And.left (show Below V.heap.size V _∧_ by assumption)
     clear gq0 gq1 gq2 gq3 gq4 gq5 gq6 gq7 gq8 gq9 gq10
     have hb2:=below_chain HBV.out hbf HBV.out.size
     go_wp2_with fail
     go_roundw
     case rel=>exact ⟨i+1,Y1,hi8,by go_num,rfl,hb2,HTT1,y1⟩
     case measure=>simp [intOf];omega
  ·have hin:i=m:=by omega
   have j1:¬(i:Int) < (m:Int):=by omega
   have HRR:=Lib.hid (show bA T=bA (signsF L (ogs Es)) by rw [HTT.out,hin,←HLN.out,itsTo_all])
   clear hin HTT
   go_wp2_with fail
   go_ret
   exact ⟨retS HRR.out,HB.out⟩
theorem dsigns_of {A:Option Addr} {n c:Nat} {L:List Fg} {re lo:Int} {Es:List Oe} {S:List UInt8} (h:signsF L (ogs Es)=S) (B:Option Addr) (m d:Nat) (w:World) (hA:Fgs w A n L) (hv:frOk L re lo) (hO:Oprs w B m Es) (hr:∀e∈Es,rightB L.length e.o=true) (hm:m≤2100) (hf:∀e∈Es,e.n≤4000) :
  Calls Tryz.prog 30 #[frV A n c re lo,.slice B m d] w fun e w'=>e=.returned (.string (bA S))∧Below w.heap.size w w':=by
 subst h;exact nref_Signs A n c L re lo B m d Es w hA hv hO hr hm hf
/-- What the law's loop wants: the error so far. -/
def WantI (L:List Fg) (Es:List Oe) (E0 E E1:Int) (i:Nat):Prop:=(E0≠0∧E1=E0)∨(E0=0∧E1=0∧∀j:Nat,j < i→canB L (oa Es j).o=true)∨(E0=0∧E1=8∧E=8)
set_option maxRecDepth 100000 in
set_option maxHeartbeats 12800000 in
theorem notesSigns_any (A:Option Addr) (n c:Nat) (L:List Fg) (re lo:Int) (B:Option Addr) (m d:Nat) (Es:List Oe) (w:World) (hA:Fgs w A n L) (hc:n≤c) (hO:Oprs w B m Es) (ht:Tabs w) :
  Calls Tryz.prog 5 #[frV A n c re lo,.slice B m d] w fun e w'=>e=.returned (.bool true)∧Below w.heap.size w w':=by
 have HLN:=Lib.hid hO.len
 have HNL:=Lib.hid hA.len
 have HA:=Lib.hid hA
 have HO:=Lib.hid hO
 have HT:=Lib.hid ht
 have HB:=Lib.hid (Below.refl w.heap.size w)
 have HC:=Lib.hid hc
 clear hA hO ht hc
 by_cases h60:n≤60
 ·cases hft:fitB 8 Es with
  | true =>
   have HS:=Lib.hid (show decide (n≤60)=true by simpa using h60)
   have hm8:m≤8:=by have:=(fitB_yes hft).1;have:=HLN.out;omega
   have HM:=Lib.hid (show m≤10000 by omega)
   have HM2:=Lib.hid (show m≤2100 by omega)
   have HFN:=Lib.hid (fitN_of hft)
   have HF4:=Lib.hid (show ∀e∈Es,e.n≤4000 from fun e he=>Nat.le_trans ((fitB_yes hft).2 e he) (by omega))
   have HFT:=Lib.hid hft
   obtain ⟨E0,hE0⟩:∃E,checkN L re lo (ogs Es)=E:=⟨_,rfl⟩
   obtain ⟨E,hE⟩:∃E,sgnE L re lo (ogs Es)=E:=⟨_,rfl⟩
   obtain ⟨S1,hS1⟩:∃S,sgnS L re lo (ogs Es)=S:=⟨_,rfl⟩
   have HE0:=Lib.hid hE0
   have HE:=Lib.hid hE
   have HS1:=Lib.hid hS1
   clear hft h60 hm8 hE0 hE hS1
   go_enter Tryz.func5,Tryz.ntmps5
   have hba:=(Below.refl w.heap.size w).alloc (Nat.le_refl _) (.cells #[.slice A n c,.int .i64 re,.int .i64 lo] 24)
   replace HA:=Lib.hid (HA.out.below hba)
   replace HO:=Lib.hid (HO.out.below hba)
   replace HT:=Lib.hid (HT.out.below hba)
   replace HB:=Lib.hid (below_chain HB.out hba HB.out.size)
   have kf:=Blk.new w 24 #[.slice A n c,.int .i64 re,.int .i64 lo]
   clear hba
   go_upto_region 1 with fail
   generalize w.alloc (.cells #[.slice A n c,.int .i64 re,.int .i64 lo] 24)=X at HA HO HT HB kf ⊢
   have c0:X.cell? ⟨w.heap.size,0,none⟩=some (.slice A n c):=(kf.cell 0).trans rfl
   have c1:X.cell? ⟨w.heap.size,1,none⟩=some (.int .i64 re):=(kf.cell 1).trans rfl
   have c2:X.cell? ⟨w.heap.size,2,none⟩=some (.int .i64 lo):=(kf.cell 2).trans rfl
   go_wp2_with fail
   refine (lshort_is HS.out A c re lo _).mono ?_
   rintro e v6 ⟨rfl,hb⟩
   clear c0 c1 c2
   replace HA:=Lib.hid (HA.out.below hb)
   replace HO:=Lib.hid (HO.out.below hb)
   replace HT:=Lib.hid (HT.out.below hb)
   replace HB:=Lib.hid (below_chain HB.out hb HB.out.size)
   replace kf:=kf.below hb kf.lt
   clear hb
   have c0:v6.cell? ⟨w.heap.size,0,none⟩=some (.slice A n c):=(kf.cell 0).trans rfl
   have c1:v6.cell? ⟨w.heap.size,1,none⟩=some (.int .i64 re):=(kf.cell 1).trans rfl
   have c2:v6.cell? ⟨w.heap.size,2,none⟩=some (.int .i64 lo):=(kf.cell 2).trans rfl
   go_wp2_with fail
   refine (lfit_is (most:=8) HFT.out B m d _ HO.out (by omega)).mono ?_
   rintro e v7 ⟨rfl,hb⟩
   clear c0 c1 c2
   replace HA:=Lib.hid (HA.out.below hb)
   replace HO:=Lib.hid (HO.out.below hb)
   replace HT:=Lib.hid (HT.out.below hb)
   replace HB:=Lib.hid (below_chain HB.out hb HB.out.size)
   replace kf:=kf.below hb kf.lt
   clear hb
   have c0:v7.cell? ⟨w.heap.size,0,none⟩=some (.slice A n c):=(kf.cell 0).trans rfl
   have c1:v7.cell? ⟨w.heap.size,1,none⟩=some (.int .i64 re):=(kf.cell 1).trans rfl
   have c2:v7.cell? ⟨w.heap.size,2,none⟩=some (.int .i64 lo):=(kf.cell 2).trans rfl
   go_wp2_with fail
   refine (signs_is HE.out HS1.out d _ HA.out HC.out HO.out HM.out HFN.out).mono ?_
   rintro e v8 ⟨rfl,hb⟩
   clear c0 c1 c2
   replace HA:=Lib.hid (HA.out.below hb)
   replace HO:=Lib.hid (HO.out.below hb)
   replace HT:=Lib.hid (HT.out.below hb)
   replace HB:=Lib.hid (below_chain HB.out hb HB.out.size)
   replace kf:=kf.below hb kf.lt
   clear hb
   have c0:v8.cell? ⟨w.heap.size,0,none⟩=some (.slice A n c):=(kf.cell 0).trans rfl
   have c1:v8.cell? ⟨w.heap.size,1,none⟩=some (.int .i64 re):=(kf.cell 1).trans rfl
   have c2:v8.cell? ⟨w.heap.size,2,none⟩=some (.int .i64 lo):=(kf.cell 2).trans rfl
   go_wp2_with fail
   refine (refused_is HE0.out d _ HA.out HO.out).mono ?_
   rintro e v9 ⟨rfl,hb⟩
   clear c0 c1 c2
   replace HA:=Lib.hid (HA.out.below hb)
   replace HO:=Lib.hid (HO.out.below hb)
   replace HT:=Lib.hid (HT.out.below hb)
   replace HB:=Lib.hid (below_chain HB.out hb HB.out.size)
   replace kf:=kf.below hb kf.lt
   clear hb
   go_wp2_with fail
   go_loopw [7,8] (fun v7 v8 wr=>∃(i:Nat) (E1:Int),i≤m∧v8=.int .i64 i∧v7=.int .i64 E1∧Below v9.heap.size v9 wr∧Hid (WantI L Es E0 E E1 i)) (fun _ v8 _=>m-(intOf v8).toNat)
   case atStart=>exact ⟨0,E0,Nat.zero_le _,rfl,rfl,Below.refl _ _,Lib.hid ((Decidable.em (E0=0)).elim (fun h=>.inr (.inl ⟨h,h,fun j hj=>by omega⟩)) (fun h=>.inl ⟨h,rfl⟩))⟩
   case round =>
    obtain ⟨i,E1,hi,rfl,rfl,hbr,HI⟩:=hrel
    have HBR:=Lib.hid hbr
    replace HA:=Lib.hid (HA.out.below hbr)
    replace HO:=Lib.hid (HO.out.below hbr)
    replace HT:=Lib.hid (HT.out.below hbr)
    replace HB:=Lib.hid (below_chain HB.out hbr HB.out.size)
    replace kf:=kf.below hbr kf.lt
    clear hbr
    have hm9:m≤10000:=HM.out
    by_cases h10:E1=0
    ·subst h10
     have hI:=HI.out
     have h00:E0=0:=by
      rcases hI with h | h | h
      ·exact absurd h.2.symm h.1
      ·exact h.1
      ·exact h.1
     subst h00
     have HJ:=Lib.hid (show ∀j:Nat,j < i→canB L (oa Es j).o=true by
      rcases hI with h | h | h
      ·exact absurd rfl h.1
      ·exact h.2.2
      ·cases h.2.1)
     clear hI HI
     by_cases hlt:i < m
     ·have j0:(0:Int)≤(i:Int):=by omega
      have j1:(i:Int) < (m:Int):=by omega
      have hil:i < Es.length:=by rw [HLN.out];exact hlt
      have hme:oa Es i∈Es:=List.mem_of_getElem? (oa_get hil)
      have HRI:=Lib.hid (show rightB n (oa Es i).o=true by rw [←HNL.out];exact (checkN_zero HE0.out).2.2 _ (List.mem_map.2 ⟨_,hme,rfl⟩))
      obtain ⟨bx,hbx⟩:∃b,canB L (oa Es i).o=b:=⟨_,rfl⟩
      have HBX:=Lib.hid hbx
      have HIL:=Lib.hid hil
      clear hme hbx hil
      obtain ⟨g,p,rfl,hg,⟨x0,x1,x2,x3,x4,x5,x6,x7⟩,hin⟩:=HO.out.at_ hlt
      have HIN:=Lib.hid hin
      generalize hoe:oa Es i=e at x0 x1 x2 x3 x4 x5 x6 x7 HIN
      have HOE:=Lib.hid hoe
      obtain ⟨⟨kk,ff,⟨gf,gl,gfar,gpc⟩,gp,go⟩,eA,en,ec⟩:=e
      simp only at x0 x1 x2 x3 x4 x5 x6 x7
      clear hin hoe
      have HX:=Lib.hid (show g < wr.heap.size∧wr.cell? ⟨g,p+i*8,none⟩=some (.int .i64 kk)∧wr.cell? ⟨g,p+i*8+1,none⟩=some (.int .i64 ff)∧wr.cell? ⟨g,p+i*8+2,none⟩=some (.int .i64 gf)∧wr.cell? ⟨g,p+i*8+3,none⟩=some (.int .i64 gl)∧wr.cell? ⟨g,p+i*8+4,none⟩=some (.bool gfar)∧wr.cell? ⟨g,p+i*8+5,none⟩=some (.int .i64 gpc)∧wr.cell? ⟨g,p+i*8+6,none⟩=some (.slice eA en ec)∧wr.cell? ⟨g,p+i*8+7,none⟩=some (.bool go) from ⟨hg,x0,x1,x2,x3,x4,x5,x6,x7⟩)
      clear x0 x1 x2 x3 x4 x5 x6 x7 hg
      rw [HOE.out] at HRI HBX
      go_upto_region 8 with fail
      go_cut [43] (fun v wv=>v=.bool (!bx)∧∃V:World,V=wv∧Below wr.heap.size wr V)
      case first =>
       have k0:∀wx,Below wr.heap.size wr wx→(Below wr.heap.size wr wx∧wx.cell? ⟨w.heap.size,0,none⟩=some (.slice A n c)∧wx.cell? ⟨w.heap.size,1,none⟩=some (.int .i64 re)∧wx.cell? ⟨w.heap.size,2,none⟩=some (.int .i64 lo)∧wx.cell? ⟨g,p+i*8,none⟩=some (.int .i64 kk)∧wx.cell? ⟨g,p+i*8+1,none⟩=some (.int .i64 ff)∧wx.cell? ⟨g,p+i*8+2,none⟩=some (.int .i64 gf)∧wx.cell? ⟨g,p+i*8+3,none⟩=some (.int .i64 gl)∧wx.cell? ⟨g,p+i*8+4,none⟩=some (.bool gfar)∧wx.cell? ⟨g,p+i*8+5,none⟩=some (.int .i64 gpc)∧wx.cell? ⟨g,p+i*8+6,none⟩=some (.slice eA en ec)∧wx.cell? ⟨g,p+i*8+7,none⟩=some (.bool go)):=fun wx h=>⟨h,((kf.below h kf.lt).cell 0).trans rfl,((kf.below h kf.lt).cell 1).trans rfl,((kf.below h kf.lt).cell 2).trans rfl,(h.cell (p:=⟨g,p+i*8,none⟩) HX.out.1).trans HX.out.2.1,(h.cell (p:=⟨g,p+i*8+1,none⟩) HX.out.1).trans HX.out.2.2.1,(h.cell (p:=⟨g,p+i*8+2,none⟩) HX.out.1).trans HX.out.2.2.2.1,(h.cell (p:=⟨g,p+i*8+3,none⟩) HX.out.1).trans HX.out.2.2.2.2.1,(h.cell (p:=⟨g,p+i*8+4,none⟩) HX.out.1).trans HX.out.2.2.2.2.2.1,(h.cell (p:=⟨g,p+i*8+5,none⟩) HX.out.1).trans HX.out.2.2.2.2.2.2.1,(h.cell (p:=⟨g,p+i*8+6,none⟩) HX.out.1).trans HX.out.2.2.2.2.2.2.2.1,(h.cell (p:=⟨g,p+i*8+7,none⟩) HX.out.1).trans HX.out.2.2.2.2.2.2.2.2⟩
       have KP:=Lib.hid k0
       clear k0
       have gq0:=(KP.out wr (Below.refl _ _)).2.1
       have gq1:=(KP.out wr (Below.refl _ _)).2.2.1
       have gq2:=(KP.out wr (Below.refl _ _)).2.2.2.1
       have gq3:=(KP.out wr (Below.refl _ _)).2.2.2.2.1
       have gq4:=(KP.out wr (Below.refl _ _)).2.2.2.2.2.1
       have gq5:=(KP.out wr (Below.refl _ _)).2.2.2.2.2.2.1
       have gq6:=(KP.out wr (Below.refl _ _)).2.2.2.2.2.2.2.1
       have gq7:=(KP.out wr (Below.refl _ _)).2.2.2.2.2.2.2.2.1
       have gq8:=(KP.out wr (Below.refl _ _)).2.2.2.2.2.2.2.2.2.1
       have gq9:=(KP.out wr (Below.refl _ _)).2.2.2.2.2.2.2.2.2.2.1
       have gq10:=(KP.out wr (Below.refl _ _)).2.2.2.2.2.2.2.2.2.2.2
       first
        | go_region_held3 (fun wx=>Below wr.heap.size wr wx∧wx.cell? ⟨w.heap.size,0,none⟩=some (.slice A n c)∧wx.cell? ⟨w.heap.size,1,none⟩=some (.int .i64 re)∧wx.cell? ⟨w.heap.size,2,none⟩=some (.int .i64 lo)∧wx.cell? ⟨g,p+i*8,none⟩=some (.int .i64 kk)∧wx.cell? ⟨g,p+i*8+1,none⟩=some (.int .i64 ff)∧wx.cell? ⟨g,p+i*8+2,none⟩=some (.int .i64 gf)∧wx.cell? ⟨g,p+i*8+3,none⟩=some (.int .i64 gl)∧wx.cell? ⟨g,p+i*8+4,none⟩=some (.bool gfar)∧wx.cell? ⟨g,p+i*8+5,none⟩=some (.int .i64 gpc)∧wx.cell? ⟨g,p+i*8+6,none⟩=some (.slice eA en ec)∧wx.cell? ⟨g,p+i*8+7,none⟩=some (.bool go)) (first | assumption | exact KP.out _ (Below.refl _ _).drew | exact KP.out _ (below_chain (And.left (by assumption)) (by assumption) (Below.size (And.left (by assumption)))))
          (first
           | (go_at_call 29;refine (rcan_of HBX.out _ _ _ _ (HA.out.below (And.left (by assumption))) (HIN.out.below (And.left (by assumption))) HRI.out).mono ?_;rintro e wd ⟨rfl,hbd⟩))
        | fail
       all_goals
        have hbf:=And.left (show Below wr.heap.size wr _∧_ by assumption)
        clear gq0 gq1 gq2 gq3 gq4 gq5 gq6 gq7 gq8 gq9 gq10
        go_wp2_with fail
        go_meet
        case rel=>exact ⟨rfl,_,rfl,hbf⟩
      case rest =>
       obtain ⟨rfl,V,hV,hb⟩:=hcut
       subst hV
       have hb2:=below_chain HBR.out hb HBR.out.size
       have hi8:i+1≤m:=hlt
       cases bx with
       | true =>
        have HI1:=Lib.hid (show WantI L Es 0 E 0 (i+1) from .inr (.inl ⟨rfl,rfl,fun j hj=>by
         rcases Nat.decEq j i with e | e
         ·exact HJ.out j (by omega)
         ·subst e;rw [HOE.out];exact HBX.out⟩))
        clear HJ HBX
        go_wp2_with fail
        go_roundw
        case rel=>exact ⟨i+1,0,hi8,by go_num,rfl,hb2,HI1⟩
        case measure=>simp [intOf];omega
       | false =>
        have HI1:=Lib.hid (show WantI L Es 0 E 8 (i+1) from .inr (.inr ⟨rfl,rfl,by rw [←HE.out];exact sgnE_no HE0.out HIL.out (by rw [HOE.out];exact HBX.out)⟩))
        clear HJ HBX
        go_wp2_with fail
        go_roundw
        case rel=>exact ⟨i+1,8,hi8,by go_num,rfl,hb2,HI1⟩
        case measure=>simp [intOf];omega
     ·have hin:i=m:=by omega
      have j1:¬(i:Int) < (m:Int):=by omega
      have hz:sgnE L re lo (ogs Es)=0:=sgnE_ok HE0.out (fun j hj=>HJ.out j (by rw [HLN.out] at hj;omega))
      obtain rfl:E=0:=by rw [←HE.out];exact hz
      obtain rfl:signsF L (ogs Es)=S1:=by have:=HS1.out;unfold sgnS at this;rwa [if_pos hz] at this
      obtain ⟨S1,hS1⟩:∃S,signsF L (ogs Es)=S:=⟨_,rfl⟩
      have HS2:=Lib.hid hS1
      rw [hS1]
      have HFO:=Lib.hid (checkN_zero HE0.out).2.1
      have HRA:=Lib.hid (show ∀e∈Es,rightB L.length e.o=true from fun e he=>(checkN_zero HE0.out).2.2 _ (List.mem_map.2 ⟨_,he,rfl⟩))
      have t1:=str_eqD S1
      clear hz hS1 HS1 HJ hin
      have c0:wr.cell? ⟨w.heap.size,0,none⟩=some (.slice A n c):=(kf.cell 0).trans rfl
      have c1:wr.cell? ⟨w.heap.size,1,none⟩=some (.int .i64 re):=(kf.cell 1).trans rfl
      have c2:wr.cell? ⟨w.heap.size,2,none⟩=some (.int .i64 lo):=(kf.cell 2).trans rfl
      go_wp2_with fail
      refine (dsigns_of HS2.out B m d _ HA.out HFO.out HO.out HRA.out HM2.out HF4.out).mono ?_
      rintro e v10 ⟨rfl,hb⟩
      clear c0 c1 c2
      replace HA:=Lib.hid (HA.out.below hb)
      replace HO:=Lib.hid (HO.out.below hb)
      replace HT:=Lib.hid (HT.out.below hb)
      replace HB:=Lib.hid (below_chain HB.out hb HB.out.size)
      replace kf:=kf.below hb kf.lt
      clear hb
      go_wp2_with fail
      refine (law_known _ HT.out).mono ?_
      rintro e v11 ⟨rfl,hb⟩
      replace HA:=Lib.hid (HA.out.below hb)
      replace HO:=Lib.hid (HO.out.below hb)
      replace HT:=Lib.hid (HT.out.below hb)
      replace HB:=Lib.hid (below_chain HB.out hb HB.out.size)
      replace kf:=kf.below hb kf.lt
      clear hb
      go_wp2_with fail
      go_ret
      exact ⟨rfl,HB.out⟩
    ·have hE1:E1=E∧E≠0:=by
      rcases HI.out with h | h | h
      ·refine ⟨?_,fun e=>?_⟩
       ·rw [h.2,←HE.out];unfold sgnE;rw [HE0.out,if_neg h.1]
       ·have:=HE.out;unfold sgnE at this;rw [HE0.out,if_neg h.1] at this;exact h.1 (this.trans e)
      ·exact absurd h.2.1 h10
      ·exact ⟨by rw [h.2.1,h.2.2],by rw [h.2.2];decide⟩
     have hS0:S1=[]:=by rw [←HS1.out];unfold sgnS;rw [HE.out,if_neg hE1.2]
     obtain ⟨rfl,hne⟩:=hE1
     subst hS0
     have k1:(E1==0)=false:=by simpa using hne
     have k2:(E1 != 0)=true:=by simpa using hne
     have k3:(E1==E1)=true:=by simp
     have e0:(bA ([]:List UInt8)).toList.isEmpty=true:=by rw [bA_toList];rfl
     have e1:((bA ([]:List UInt8)).toList==[])=true:=by rw [bA_toList];rfl
     clear HI h10 hne HS1
     by_cases hlt:i < m
     ·have j1:(i:Int) < (m:Int):=by omega
      go_wp2_with fail
      refine (law_known _ HT.out).mono ?_
      rintro e v12 ⟨rfl,hb⟩
      replace HA:=Lib.hid (HA.out.below hb)
      replace HO:=Lib.hid (HO.out.below hb)
      replace HT:=Lib.hid (HT.out.below hb)
      replace HB:=Lib.hid (below_chain HB.out hb HB.out.size)
      replace kf:=kf.below hb kf.lt
      clear hb
      go_wp2_with fail
      go_ret
      exact ⟨rfl,HB.out⟩
     ·have j1:¬(i:Int) < (m:Int):=by omega
      go_wp2_with fail
      refine (law_known _ HT.out).mono ?_
      rintro e v13 ⟨rfl,hb⟩
      replace HA:=Lib.hid (HA.out.below hb)
      replace HO:=Lib.hid (HO.out.below hb)
      replace HT:=Lib.hid (HT.out.below hb)
      replace HB:=Lib.hid (below_chain HB.out hb HB.out.size)
      replace kf:=kf.below hb kf.lt
      clear hb
      go_wp2_with fail
      go_ret
      exact ⟨rfl,HB.out⟩
  | false =>
   have HS:=Lib.hid (show decide (n≤60)=true by simpa using h60)
   have HFT:=Lib.hid hft
   clear hft h60
   go_enter Tryz.func5,Tryz.ntmps5
   have hba:=(Below.refl w.heap.size w).alloc (Nat.le_refl _) (.cells #[.slice A n c,.int .i64 re,.int .i64 lo] 24)
   replace HA:=Lib.hid (HA.out.below hba)
   replace HO:=Lib.hid (HO.out.below hba)
   replace HT:=Lib.hid (HT.out.below hba)
   replace HB:=Lib.hid (below_chain HB.out hba HB.out.size)
   have kf:=Blk.new w 24 #[.slice A n c,.int .i64 re,.int .i64 lo]
   clear hba
   go_upto_region 1 with fail
   generalize w.alloc (.cells #[.slice A n c,.int .i64 re,.int .i64 lo] 24)=X at HA HO HT HB kf ⊢
   have c0:X.cell? ⟨w.heap.size,0,none⟩=some (.slice A n c):=(kf.cell 0).trans rfl
   have c1:X.cell? ⟨w.heap.size,1,none⟩=some (.int .i64 re):=(kf.cell 1).trans rfl
   have c2:X.cell? ⟨w.heap.size,2,none⟩=some (.int .i64 lo):=(kf.cell 2).trans rfl
   go_wp2_with fail
   refine (lshort_is HS.out A c re lo _).mono ?_
   rintro e v3 ⟨rfl,hb⟩
   clear c0 c1 c2
   replace HA:=Lib.hid (HA.out.below hb)
   replace HO:=Lib.hid (HO.out.below hb)
   replace HT:=Lib.hid (HT.out.below hb)
   replace HB:=Lib.hid (below_chain HB.out hb HB.out.size)
   replace kf:=kf.below hb kf.lt
   clear hb
   have c0:v3.cell? ⟨w.heap.size,0,none⟩=some (.slice A n c):=(kf.cell 0).trans rfl
   have c1:v3.cell? ⟨w.heap.size,1,none⟩=some (.int .i64 re):=(kf.cell 1).trans rfl
   have c2:v3.cell? ⟨w.heap.size,2,none⟩=some (.int .i64 lo):=(kf.cell 2).trans rfl
   go_wp2_with fail
   refine (lfit_is (most:=8) HFT.out B m d _ HO.out (by omega)).mono ?_
   rintro e v4 ⟨rfl,hb⟩
   clear c0 c1 c2
   replace HA:=Lib.hid (HA.out.below hb)
   replace HO:=Lib.hid (HO.out.below hb)
   replace HT:=Lib.hid (HT.out.below hb)
   replace HB:=Lib.hid (below_chain HB.out hb HB.out.size)
   replace kf:=kf.below hb kf.lt
   clear hb
   go_wp2_with fail
   refine (law_known _ HT.out).mono ?_
   rintro e v5 ⟨rfl,hb⟩
   replace HA:=Lib.hid (HA.out.below hb)
   replace HO:=Lib.hid (HO.out.below hb)
   replace HT:=Lib.hid (HT.out.below hb)
   replace HB:=Lib.hid (below_chain HB.out hb HB.out.size)
   replace kf:=kf.below hb kf.lt
   clear hb
   go_wp2_with fail
   go_ret
   exact ⟨rfl,HB.out⟩
 ·have HS:=Lib.hid (show decide (n≤60)=false by simpa using h60)
  clear h60
  go_enter Tryz.func5,Tryz.ntmps5
  have hba:=(Below.refl w.heap.size w).alloc (Nat.le_refl _) (.cells #[.slice A n c,.int .i64 re,.int .i64 lo] 24)
  replace HA:=Lib.hid (HA.out.below hba)
  replace HO:=Lib.hid (HO.out.below hba)
  replace HT:=Lib.hid (HT.out.below hba)
  replace HB:=Lib.hid (below_chain HB.out hba HB.out.size)
  have kf:=Blk.new w 24 #[.slice A n c,.int .i64 re,.int .i64 lo]
  clear hba
  go_upto_region 1 with fail
  generalize w.alloc (.cells #[.slice A n c,.int .i64 re,.int .i64 lo] 24)=X at HA HO HT HB kf ⊢
  have c0:X.cell? ⟨w.heap.size,0,none⟩=some (.slice A n c):=(kf.cell 0).trans rfl
  have c1:X.cell? ⟨w.heap.size,1,none⟩=some (.int .i64 re):=(kf.cell 1).trans rfl
  have c2:X.cell? ⟨w.heap.size,2,none⟩=some (.int .i64 lo):=(kf.cell 2).trans rfl
  go_wp2_with fail
  refine (lshort_is HS.out A c re lo _).mono ?_
  rintro e v1 ⟨rfl,hb⟩
  clear c0 c1 c2
  replace HA:=Lib.hid (HA.out.below hb)
  replace HO:=Lib.hid (HO.out.below hb)
  replace HT:=Lib.hid (HT.out.below hb)
  replace HB:=Lib.hid (below_chain HB.out hb HB.out.size)
  replace kf:=kf.below hb kf.lt
  clear hb
  go_wp2_with fail
  refine (law_known _ HT.out).mono ?_
  rintro e v2 ⟨rfl,hb⟩
  replace HA:=Lib.hid (HA.out.below hb)
  replace HO:=Lib.hid (HO.out.below hb)
  replace HT:=Lib.hid (HT.out.below hb)
  replace HB:=Lib.hid (below_chain HB.out hb HB.out.size)
  replace kf:=kf.below hb kf.lt
  clear hb
  go_wp2_with fail
  go_ret
  exact ⟨rfl,HB.out⟩
end Go.Proofs.YtlmdfmnbcndhoaaGreatDoor
