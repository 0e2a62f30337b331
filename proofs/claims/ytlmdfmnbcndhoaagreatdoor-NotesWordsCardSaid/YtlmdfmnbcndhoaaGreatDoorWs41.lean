/-
  Contracts: whether signs can say a string, an operation, by the document. Conditions: the fingers read; the operation can be written.
  Plain: the code of the chapter's example is valid and posed with one sign, not with the other; its sequence. No program.
  Plain: the chapter's example lines: one is no line, one names a finger that is not there. No program.
  Plain: the chapter's example operation and its translation. No program.
  Plain: a code's text, and what reading a text gives. No walk of the program.
  Contracts: the program's word, Print, at every code. Conditions: the letters read; the library's tables stand as they were laid.
  Contract: the program's Print, at every code. Conditions: the letters read; the library's tables stand as they were laid.
  Contract: the document's Print, at every code. Condition: the letters read.
  Plain: the code of the chapter's example, printed. No program.
-/
import Derived.Test.YtlmdfmnbcndhoaaGreatDoorWs40
import Derived.Test.YtlmdfmnbcndhoaaGreatDoorWs38
import Derived.Test.YtlmdfmnbcndhoaaGreatDoorWs04
import Derived.Test.YtlmdfmnbcndhoaaGreatDoorWs11
import Derived.Test.YtlmdfmnbcndhoaaGreatDoorWs31
import Derived.Test.YtlmdfmnbcndhoaaGreatDoorWs01
import Derived.Deep.RegionHeld3
import Derived.Deep.DeepCutAuto
namespace Go.Proofs.YtlmdfmnbcndhoaaGreatDoor
open Go.RowKit
set_option maxHeartbeats 800000 in
theorem nref_plain (A:Option Addr) (n c:Nat) (L:List Fg) (re lo:Int) (s:Sg) (w:World) (hA:Fgs w A n L) (h1:1≤s.f) (h2:s.f≤(n:Int)) :
  Calls Tryz.prog 70 #[frV A n c re lo,sgV s] w fun e w'=>e=.returned (.bool (simpB L s))∧Below w.heap.size w w':=by
 have hle:=hA.le
 have hb0:Below w.heap.size w ((w.alloc (.cells #[.slice A n c,.int .i64 re,.int .i64 lo] 24)).alloc (.cells #[.int .i64 s.f,.int .i64 s.l,.bool s.far,.int .i64 s.pc] 29)):=((Below.refl _ _).alloc (Nat.le_refl _) _).alloc (by simp) _
 have hA0:=hA.below hb0
 obtain ⟨i,hi⟩:∃i:Nat,s.f=(i:Int)+1:=⟨(s.f-1).toNat,by omega⟩
 have hin:i < n:=by omega
 obtain ⟨g,o,rfl,hg,⟨x0,x1,x2⟩,_⟩:=hA0.at_ hin
 have hs:simpB L s=(decide ((fa L i).p=1)&&decide (s.l=0)&&decide (s.pc=0)):=by unfold simpB;rw [hi,show ((i:Int)+1-1).toNat=i by omega]
 have q1:wrap64 (s.f-1)=(i:Int):=by unfold wrap64;omega
 have q2:s.f-1=(i:Int):=by omega
 have j0:(0:Int)≤(i:Int):=by omega
 have j1:(i:Int) < (n:Int):=by omega
 generalize fa L i=x at x0 x1 x2 hs
 obtain ⟨f,l,far,pc⟩:=s
 obtain ⟨p,r,dg⟩:=x
 simp only at x0 hs q1 q2 hb0 hg ⊢
 clear hi hA0 hA hin h1 h2 x1 x2
 by_cases e2:l=0
 ·subst e2
  by_cases e3:pc=0
  ·subst e3
   by_cases e1:p=1
   ·subst e1
    have HS:=Lib.hid hs
    clear hs
    go_enter Tryz.func70,Tryz.ntmps70
    go_wp2_with fail
    go_ret
    exact ⟨retB (by rw [HS.out];rfl),hb0⟩
   ·have k3:(p==1)=false:=by simpa using e1
    have HS:=Lib.hid (hs.trans (show _=false by simp [e1]))
    clear hs e1
    go_enter Tryz.func70,Tryz.ntmps70
    go_wp2_with fail
    go_ret
    exact ⟨retB (by rw [HS.out]),hb0⟩
  ·have k3:(pc==0)=false:=by simpa using e3
   have HS:=Lib.hid (hs.trans (show _=false by simp [e3]))
   clear hs e3
   go_enter Tryz.func70,Tryz.ntmps70
   go_wp2_with fail
   go_ret
   exact ⟨retB (by rw [HS.out]),hb0⟩
 ·have k2:(l==0)=false:=by simpa using e2
  have HS:=Lib.hid (hs.trans (show _=false by simp [e2]))
  clear hs e2
  go_enter Tryz.func70,Tryz.ntmps70
  go_wp2_with fail
  go_ret
  exact ⟨retB (by rw [HS.out]),hb0⟩
theorem plain_of {A:Option Addr} {n c:Nat} {L:List Fg} {re lo:Int} {s:Sg} {b:Bool} (h:simpB L s=b) (w:World) (hA:Fgs w A n L) (h1:1≤s.f) (h2:s.f≤(n:Int)) :
  Calls Tryz.prog 70 #[frV A n c re lo,sgV s] w fun e w'=>e=.returned (.bool b)∧Below w.heap.size w w':=by
 subst h;exact nref_plain A n c L re lo s w hA h1 h2
set_option maxHeartbeats 6400000 in
set_option maxRecDepth 100000 in
theorem nref_Can (A:Option Addr) (n c:Nat) (L:List Fg) (re lo:Int) (o:Og) (B:Option Addr) (m d:Nat) (w:World) (hA:Fgs w A n L) (hO:OpIn w o B m d) (hr:rightB n o=true) :
  Calls Tryz.prog 29 #[frV A n c re lo,opV o B m d] w fun e w'=>e=.returned (.bool (canB L o))∧Below w.heap.size w w':=by
 have hle:=hA.le
 have hmle:=hO.path.le
 obtain ⟨h1,h8,hf1,hf2,hpn,_⟩:=rightB_kind hr
 obtain ⟨hff1,hff2⟩:=rightB_from hr
 have hP:=hO.path
 have hlen:=hO.path.len
 have hpf:∀x∈o.path,1≤x.s.f∧x.s.f≤(n:Int):=fun x hx=>by have:=namedB_iff.1 (hpn x hx);exact ⟨this.1,this.2.1⟩
 have hcan:canB L o=(decide ((fa L (o.f-1).toNat).p=1)&&(decide (¬0 < o.fr.f)||simpB L o.fr)&&o.path.all fun x=>simpB L x.s):=rfl
 obtain ⟨kind,f,⟨ff,fl,ffar,fpc⟩,path,over⟩:=o
 simp only at h1 h8 hf1 hf2 hff1 hff2 hP hpf hcan hlen ⊢
 obtain ⟨i,hi⟩:∃i:Nat,f=(i:Int)+1:=⟨(f-1).toNat,by omega⟩
 have hin:i < n:=by omega
 rw [show (f-1).toNat=i by omega] at hcan
 have q1:wrap64 (f-1)=(i:Int):=by unfold wrap64;omega
 have q2:f-1=(i:Int):=by omega
 have j0:(0:Int)≤(i:Int):=by omega
 have j1:(i:Int) < (n:Int):=by omega
 obtain ⟨qs,hqs⟩:∃q,simpB L ⟨ff,fl,ffar,fpc⟩=q:=⟨_,rfl⟩
 rw [hqs] at hcan
 have HQS:=Lib.hid hqs
 have HFF:=Lib.hid (And.intro hff1 hff2)
 have HPF:=Lib.hid hpf
 have HLEN:=Lib.hid hlen
 have HCAN:=Lib.hid hcan
 have HIN:=Lib.hid hin
 have HA:=Lib.hid hA
 have HP:=Lib.hid hP
 have HB:=Lib.hid (Below.refl w.heap.size w)
 clear hqs hff1 hff2 hpf hlen hcan hin hA hP hi hpn h1 h8 hf1 hf2 hO hr
 go_enter Tryz.func29,Tryz.ntmps29
 have hba:Below w.heap.size w ((w.alloc (.cells #[.slice A n c,.int .i64 re,.int .i64 lo] 24)).alloc (.cells #[.int .i64 kind,.int .i64 f,.int .i64 ff,.int .i64 fl,.bool ffar,.int .i64 fpc,.slice B m d,.bool over] 32)):=((Below.refl _ _).alloc (Nat.le_refl _) _).alloc (by simp) _
 replace HA:=Lib.hid (HA.out.below hba)
 replace HP:=Lib.hid (HP.out.below hba)
 replace HB:=Lib.hid (below_chain HB.out hba HB.out.size)
 have kf:=(Blk.new w 24 #[.slice A n c,.int .i64 re,.int .i64 lo]).alloc (.cells #[.int .i64 kind,.int .i64 f,.int .i64 ff,.int .i64 fl,.bool ffar,.int .i64 fpc,.slice B m d,.bool over] 32)
 have ks:Blk ((w.alloc (.cells #[.slice A n c,.int .i64 re,.int .i64 lo] 24)).alloc (.cells #[.int .i64 kind,.int .i64 f,.int .i64 ff,.int .i64 fl,.bool ffar,.int .i64 fpc,.slice B m d,.bool over] 32)) (w.heap.size+1) 32 #[.int .i64 kind,.int .i64 f,.int .i64 ff,.int .i64 fl,.bool ffar,.int .i64 fpc,.slice B m d,.bool over]:=heap_alloc2_new w _ _
 clear hba
 go_upto_region 1 with fail
 generalize (w.alloc (.cells #[.slice A n c,.int .i64 re,.int .i64 lo] 24)).alloc (.cells #[.int .i64 kind,.int .i64 f,.int .i64 ff,.int .i64 fl,.bool ffar,.int .i64 fpc,.slice B m d,.bool over] 32)=X at HA HP HB kf ks ⊢
 obtain ⟨g,p,hAe,hg,⟨x0,_,_⟩,_⟩:=HA.out.at_ HIN.out
 generalize fa L i=x at x0 HCAN
 obtain ⟨xp,xr,xd⟩:=x
 simp only at x0 HCAN
 subst hAe
 have HX:=Lib.hid (And.intro hg x0)
 clear x0 hg
 obtain ⟨y,hy⟩:∃y,(decide (xp=1)&&(decide (¬0 < ff)||qs))=y:=⟨_,rfl⟩
 have HY:=Lib.hid hy
 clear hy
 go_cut [27] (fun v wv=>v=.bool (!y)∧∃V:World,V=wv∧Below X.heap.size X V)
 case first =>
  have x0:=HX.out.2
  have a0:X.cell? ⟨w.heap.size,0,none⟩=some (.slice (some ⟨g,p,none⟩) n c):=(kf.cell 0).trans rfl
  have a1:X.cell? ⟨w.heap.size,1,none⟩=some (.int .i64 re):=(kf.cell 1).trans rfl
  have a2:X.cell? ⟨w.heap.size,2,none⟩=some (.int .i64 lo):=(kf.cell 2).trans rfl
  have e0:X.cell? ⟨w.heap.size+1,0,none⟩=some (.int .i64 kind):=(ks.cell 0).trans rfl
  have e1:X.cell? ⟨w.heap.size+1,1,none⟩=some (.int .i64 f):=(ks.cell 1).trans rfl
  have e2:X.cell? ⟨w.heap.size+1,2,none⟩=some (.int .i64 ff):=(ks.cell 2).trans rfl
  have e3:X.cell? ⟨w.heap.size+1,3,none⟩=some (.int .i64 fl):=(ks.cell 3).trans rfl
  have e4:X.cell? ⟨w.heap.size+1,4,none⟩=some (.bool ffar):=(ks.cell 4).trans rfl
  have e5:X.cell? ⟨w.heap.size+1,5,none⟩=some (.int .i64 fpc):=(ks.cell 5).trans rfl
  have e6:X.cell? ⟨w.heap.size+1,6,none⟩=some (.slice B m d):=(ks.cell 6).trans rfl
  have e7:X.cell? ⟨w.heap.size+1,7,none⟩=some (.bool over):=(ks.cell 7).trans rfl
  by_cases e1:xp=1
  ·subst e1
   by_cases e2:0 < ff
   ·have HE2:=Lib.hid (show (1:Int)≤ff by omega)
    go_wp2_with fail
    refine (plain_of HQS.out _ HA.out HE2.out HFF.out.2).mono ?_
    rintro e V ⟨rfl,hb⟩
    have hyq:Hid (y=qs):=Lib.hid (by have hn:¬ff≤0:=(by omega);rw [←HY.out];simp [hn])
    clear x0 a0 a1 a2 e0 e1 e2 e3 e4 e5 e6 e7
    go_wp2_with fail
    go_meet
    case rel=>exact ⟨by rw [hyq.out],_,rfl,hb⟩
   ·have hyq:Hid (y=true):=Lib.hid (by rw [←HY.out];simp [e2])
    go_wp2_with fail
    go_meet
    case rel=>exact ⟨by rw [hyq.out];rfl,_,rfl,Below.refl _ _⟩
  ·have k1:(xp != 1)=true:=by simpa using e1
   have hyq:Hid (y=false):=Lib.hid (by rw [←HY.out];simp [e1])
   clear e1
   go_wp2_with fail
   go_meet
   case rel=>exact ⟨by rw [hyq.out];rfl,_,rfl,Below.refl _ _⟩
 case rest =>
  obtain ⟨rfl,V,hV,hb⟩:=hcut
  subst hV
  replace HA:=Lib.hid (HA.out.below hb)
  replace HP:=Lib.hid (HP.out.below hb)
  replace HB:=Lib.hid (below_chain HB.out hb HB.out.size)
  replace kf:=kf.below hb kf.lt
  replace ks:=ks.below hb ks.lt
  clear hb
  cases y with
  | false =>
   have HR:=Lib.hid (show canB L ⟨kind,f,⟨ff,fl,ffar,fpc⟩,path,over⟩=false by rw [HCAN.out,HY.out];rfl)
   go_wp2_with fail
   go_ret
   exact ⟨retB (by rw [HR.out]),HB.out⟩
  | true =>
   have HC2:=Lib.hid (show canB L ⟨kind,f,⟨ff,fl,ffar,fpc⟩,path,over⟩=path.all fun x=>simpB L x.s by rw [HCAN.out,HY.out,Bool.true_and])
   clear HCAN HY
   go_wp2_with fail
   go_loopw [5] (fun v wr=>∃j:Nat,j≤m∧v=.int .i64 j∧Below V.heap.size V wr∧Hid (∀k:Nat,k < j→simpB L (pa path k).s=true)) (fun v _=>m-(intOf v).toNat)
   case atStart=>exact ⟨0,Nat.zero_le _,rfl,Below.refl _ _,Lib.hid (fun j hj=>by omega)⟩
   case round =>
    obtain ⟨j,hj,rfl,hbr,HS⟩:=hrel
    have HBR:=Lib.hid hbr
    replace HA:=Lib.hid (HA.out.below hbr)
    replace HP:=Lib.hid (HP.out.below hbr)
    replace HB:=Lib.hid (below_chain HB.out hbr HB.out.size)
    replace kf:=kf.below hbr kf.lt
    replace ks:=ks.below hbr ks.lt
    clear hbr j0 j1
    by_cases hlt:j < m
    ·have j0:(0:Int)≤(j:Int):=by omega
     have j1:(j:Int) < (m:Int):=by omega
     obtain ⟨g2,p2,rfl,hg,⟨x0,x1,x2,x3,x4⟩,_⟩:=HP.out.at_ hlt
     have hpj:=HPF.out _ (List.mem_of_getElem? (pa_get (i:=j) (by rw [HLEN.out];exact hlt)))
     obtain ⟨bx,hbx⟩:∃b,simpB L (pa path j).s=b:=⟨_,rfl⟩
     have HBX:=Lib.hid hbx
     clear hbx
     generalize hpx:pa path j=x at x0 x1 x2 x3 x4 HBX hpj
     have HPX:=Lib.hid hpx
     obtain ⟨⟨xf,xl,xfar,xpc⟩,xo⟩:=x
     simp only at x0 x1 x2 x3 x4 hpj
     have HPJ:=Lib.hid hpj
     have HX2:=Lib.hid (show g2 < wr.heap.size∧wr.cell? ⟨g2,p2+j*5,none⟩=some (.int .i64 xf)∧wr.cell? ⟨g2,p2+j*5+1,none⟩=some (.int .i64 xl)∧wr.cell? ⟨g2,p2+j*5+2,none⟩=some (.bool xfar)∧wr.cell? ⟨g2,p2+j*5+3,none⟩=some (.int .i64 xpc) from ⟨hg,x0,x1,x2,x3⟩)
     have c6:wr.cell? ⟨w.heap.size+1,6,none⟩=some (.slice (some ⟨g2,p2,none⟩) m d):=(ks.cell 6).trans rfl
     clear hpx hpj x0 x1 x2 x3 x4 hg
     go_upto_region 6 with fail
     clear c6
     go_cut [43] (fun v wv=>v=.bool (!bx)∧∃U:World,U=wv∧Below wr.heap.size wr U)
     case first =>
      have k0:∀wx,Below wr.heap.size wr wx→(Below wr.heap.size wr wx∧wx.cell? ⟨w.heap.size,0,none⟩=some (.slice (some ⟨g,p,none⟩) n c)∧wx.cell? ⟨w.heap.size,1,none⟩=some (.int .i64 re)∧wx.cell? ⟨w.heap.size,2,none⟩=some (.int .i64 lo)∧wx.cell? ⟨w.heap.size+1,6,none⟩=some (.slice (some ⟨g2,p2,none⟩) m d)∧wx.cell? ⟨g2,p2+j*5,none⟩=some (.int .i64 xf)∧wx.cell? ⟨g2,p2+j*5+1,none⟩=some (.int .i64 xl)∧wx.cell? ⟨g2,p2+j*5+2,none⟩=some (.bool xfar)∧wx.cell? ⟨g2,p2+j*5+3,none⟩=some (.int .i64 xpc)):=fun wx h=>⟨h,((kf.below h kf.lt).cell 0).trans rfl,((kf.below h kf.lt).cell 1).trans rfl,((kf.below h kf.lt).cell 2).trans rfl,((ks.below h ks.lt).cell 6).trans rfl,(h.cell (p:=⟨g2,p2+j*5,none⟩) HX2.out.1).trans HX2.out.2.1,(h.cell (p:=⟨g2,p2+j*5+1,none⟩) HX2.out.1).trans HX2.out.2.2.1,(h.cell (p:=⟨g2,p2+j*5+2,none⟩) HX2.out.1).trans HX2.out.2.2.2.1,(h.cell (p:=⟨g2,p2+j*5+3,none⟩) HX2.out.1).trans HX2.out.2.2.2.2⟩
      have KP:=Lib.hid k0
      clear k0
      have gq0:=(KP.out wr (Below.refl _ _)).2.1
      have gq1:=(KP.out wr (Below.refl _ _)).2.2.1
      have gq2:=(KP.out wr (Below.refl _ _)).2.2.2.1
      have gq3:=(KP.out wr (Below.refl _ _)).2.2.2.2.1
      have gq4:=(KP.out wr (Below.refl _ _)).2.2.2.2.2.1
      have gq5:=(KP.out wr (Below.refl _ _)).2.2.2.2.2.2.1
      have gq6:=(KP.out wr (Below.refl _ _)).2.2.2.2.2.2.2.1
      have gq7:=(KP.out wr (Below.refl _ _)).2.2.2.2.2.2.2.2
      first
       | go_region_held3 (fun wx=>Below wr.heap.size wr wx∧wx.cell? ⟨w.heap.size,0,none⟩=some (.slice (some ⟨g,p,none⟩) n c)∧wx.cell? ⟨w.heap.size,1,none⟩=some (.int .i64 re)∧wx.cell? ⟨w.heap.size,2,none⟩=some (.int .i64 lo)∧wx.cell? ⟨w.heap.size+1,6,none⟩=some (.slice (some ⟨g2,p2,none⟩) m d)∧wx.cell? ⟨g2,p2+j*5,none⟩=some (.int .i64 xf)∧wx.cell? ⟨g2,p2+j*5+1,none⟩=some (.int .i64 xl)∧wx.cell? ⟨g2,p2+j*5+2,none⟩=some (.bool xfar)∧wx.cell? ⟨g2,p2+j*5+3,none⟩=some (.int .i64 xpc)) (first | assumption | exact KP.out _ (Below.refl _ _).drew | exact KP.out _ (below_chain (And.left (by assumption)) (by assumption) (Below.size (And.left (by assumption)))))
         (first
          | (go_at_call 70;refine (plain_of HBX.out _ (HA.out.below (And.left (by assumption))) HPJ.out.1 HPJ.out.2).mono ?_;rintro e wd ⟨rfl,hbd⟩))
       | fail
      all_goals
       have hbf:=And.left (show Below wr.heap.size wr _∧_ by assumption)
       clear gq0 gq1 gq2 gq3 gq4 gq5 gq6 gq7
       go_wp2_with fail
       go_meet
       case rel=>exact ⟨rfl,_,rfl,hbf⟩
     case rest =>
      obtain ⟨rfl,U,hU,hb⟩:=hcut
      subst hU
      cases bx with
      | true =>
       have HS1:=Lib.hid (show ∀k:Nat,k < j+1→simpB L (pa path k).s=true from fun k hk=>by
        rcases Nat.decEq k j with e | e
        ·exact HS.out k (by omega)
        ·subst e;rw [HPX.out];exact HBX.out)
       have hb2:=below_chain HBR.out hb HBR.out.size
       clear HS HBX
       go_wp2_with fail
       go_roundw
       case rel=>exact ⟨j+1,by omega,by go_num,hb2,HS1⟩
       case measure=>simp [intOf];omega
      | false =>
       have HR:=Lib.hid (show canB L ⟨kind,f,⟨ff,fl,ffar,fpc⟩,path,over⟩=false by
        rw [HC2.out,List.all_eq_false]
        exact ⟨_,List.mem_of_getElem? (pa_get (i:=j) (by rw [HLEN.out];exact hlt)),by rw [HPX.out,HBX.out];simp⟩)
       have hb2:=below_chain HB.out hb HB.out.size
       clear HS HBX
       go_wp2_with fail
       go_ret
       exact ⟨retB (by rw [HR.out]),hb2⟩
    ·have j1:¬(j:Int) < (m:Int):=by omega
     have HR:=Lib.hid (show canB L ⟨kind,f,⟨ff,fl,ffar,fpc⟩,path,over⟩=true by
      rw [HC2.out,List.all_eq_true]
      intro x hx
      obtain ⟨k,hk⟩:=List.getElem?_of_mem hx
      have hl:=(List.getElem?_eq_some_iff.1 hk).1
      have hy:=pa_get hl
      rw [hk] at hy
      injection hy with hy
      rw [hy]
      exact HS.out k (by rw [HLEN.out] at hl;omega))
     have c6:wr.cell? ⟨w.heap.size+1,6,none⟩=some (.slice B m d):=(ks.cell 6).trans rfl
     clear HS
     go_wp2_with fail
     go_ret
     exact ⟨retB (by rw [HR.out]),HB.out⟩
theorem rcan_of {A:Option Addr} {n c:Nat} {L:List Fg} {re lo:Int} {o:Og} {b:Bool} (h:canB L o=b) (B:Option Addr) (m d:Nat) (w:World) (hA:Fgs w A n L) (hO:OpIn w o B m d) (hr:rightB n o=true) :
  Calls Tryz.prog 29 #[frV A n c re lo,opV o B m d] w fun e w'=>e=.returned (.bool b)∧Below w.heap.size w w':=by
 subst h;exact nref_Can A n c L re lo o B m d w hA hO hr
end Go.Proofs.YtlmdfmnbcndhoaaGreatDoor
namespace Go.Proofs.YtlmdfmnbcndhoaaGreatDoor
open Go.RowKit
def stdF:List Fg:=[⟨1,false,1⟩,⟨1,false,2⟩,⟨1,false,3⟩,⟨1,false,4⟩,⟨1,false,5⟩,⟨1,true,5⟩,⟨1,true,4⟩,⟨1,true,3⟩,⟨1,true,2⟩,⟨1,true,1⟩]
def exL (s:Int):List Lt:=[⟨1,1,1,0,0,false⟩,⟨1,0,1,0,0,false⟩,⟨2,0,0,1,s,false⟩,⟨1,9,1,0,0,false⟩,⟨1,10,1,0,0,false⟩,⟨2,0,0,1,s,true⟩]
def exS:List UInt8:=[76,49,46,49,60,32,49,117,32,82,49,46,49,62,32,49,111]
def exT:List It:=[⟨some ⟨1,false,1⟩,1,false⟩,⟨none,1,false⟩,⟨some ⟨1,true,1⟩,1,true⟩,⟨none,1,true⟩]
def exB:List Bi:=[⟨1,1,false⟩,⟨0,1,false⟩,⟨10,1,true⟩,⟨0,1,true⟩]
theorem ex_str:Lib.join (exT.map itW) [32]=exS:=by kernel_rfl
theorem ex_ok:∀t∈exT,okI t:=by
 intro t ht
 simp only [exT,List.mem_cons,List.not_mem_nil,or_false] at ht
 rcases ht with rfl | rfl | rfl | rfl<;>refine ⟨fun f hf=>?_,by simp only;omega,by simp only;omega⟩<;>first | (cases hf;done) | (injection hf with hf;subst hf;decide)
theorem ex_items:itemsL stdF exS=exB∧bitsB (splt 32 exS)=false∧bitsL stdF (splt 32 exS)=false:=by
 obtain ⟨h1,h2,h3⟩:=bits_at stdF ex_ok
 have hs:splt 32 exS=exT.map itW:=by rw [←ex_str];exact splt_items (by simp [exT])
 unfold itemsL
 rw [hs,h1,h2,h3]
 exact ⟨by kernel_rfl,by kernel_rfl,by kernel_rfl⟩
theorem ex_begin:beginN stdF 6 4 exS=0:=by kernel_rfl
theorem ex_comp:compB exB=true:=by kernel_rfl
theorem ex_codes:codesTo stdF 6 4 (visN exB / 2) (buildB (manyL stdF.length exB) exB) (2 ^ (visN exB / 2))=[exL 1]:=by kernel_rfl
theorem ex_small:¬(12 < visN exB / 2∨400 < (buildB (manyL stdF.length exB) exB).length):=by decide
theorem ex_rq:rqR stdF 6 4 exS=([exL 1],0):=by
 obtain ⟨h1,h2,h3⟩:=ex_items
 unfold rqR lettersS crS
 rw [h1,ex_begin,if_neg (by simp),if_neg (by decide),if_neg (by rw [h2];simp),if_neg (by rw [h3];simp),if_neg (by rw [ex_comp];simp),if_neg ex_small,ex_codes,if_neg (by simp)]
theorem ex_seq:sqS stdF 6 4 10 (exL 1)=exS∧posedE stdF 6 4 10 (exL 1)=0:=⟨by kernel_rfl,by kernel_rfl⟩
end Go.Proofs.YtlmdfmnbcndhoaaGreatDoor
namespace Go.Proofs.YtlmdfmnbcndhoaaGreatDoor
open Go.RowKit
/-- "take L2 from L7 far under", "release 2L1". -/
def exW1:List UInt8:=[116,97,107,101,32,76,50,32,102,114,111,109,32,76,55,32,102,97,114,32,117,110,100,101,114]
def exW2:List UInt8:=[114,101,108,101,97,115,101,32,50,76,49]
theorem name_no7 {f:Fg} (h:thereB f=true):nameF f≠[76,55]:=by
 obtain ⟨a1,a2,a3,a4⟩:=thereB_iff.1 h
 intro e
 unfold nameF at e
 rw [itoa_digit a3 (by omega)] at e
 have:=congrArg List.getLast? e
 simp only [List.getLast?_append,List.getLast?_cons] at this
 have h2:=byte_inj (a:=48+f.d.toNat) (b:=55) (by omega) (by omega) (by simpa using this)
 omega
theorem ex_text (L:List Fg):parE L exW1=6:=by
 refine (par_no L fun n hn he=>?_).1
 have h:=split_line n
 rw [←he,show splitW exW1=[[116,97,107,101],[76,50],[102,114,111,109],[76,55],[102,97,114],[117,110,100,101,114]] by kernel_rfl] at h
 unfold tokN at h
 injection h with h1 h2
 injection h2 with h2 h3
 have hk18:1≤n.kind∧n.kind≤8:=by
  rcases hn.2 with h | h | h | h | h<;>omega
 have hk:n.kind=5:=by
  rw [←kind_verb hk18.1 hk18.2,←h1];decide
 obtain ⟨x,hx,hxo⟩:∃x,n.fr=some x∧okNst x:=by
  rcases hn.2 with h | h | h | h | h
  ·omega
  ·omega
  ·omega
  ·exact h.2.1
  ·omega
 unfold tlT at h3
 rw [if_neg (by omega),if_neg (by omega),if_pos hk] at h3
 injection h3 with _ h4
 unfold frT at h4
 rw [hx] at h4
 unfold plT at h4
 injection h4 with h5 _
 exact name_no7 hxo.1 h5.symm
theorem ex_none:parE stdF exW2=8:=by
 have h:okN ⟨1,⟨2,false,1⟩,none,[],false⟩:=⟨by decide,.inl ⟨.inl rfl,rfl,rfl,rfl⟩⟩
 have hl:lineN ⟨1,⟨2,false,1⟩,none,[],false⟩=exW2:=by kernel_rfl
 have:=(par_line stdF h).1
 rw [hl] at this
 rw [this]
 decide
end Go.Proofs.YtlmdfmnbcndhoaaGreatDoor
namespace Go.Proofs.YtlmdfmnbcndhoaaGreatDoor
open Go.RowKit
def exO:Og:=⟨3,9,⟨5,1,false,0⟩,[⟨⟨6,1,false,0⟩,true⟩],false⟩
/-- "pick R2 over R5 near loop 1, from L5 near loop 1"; the item "R2<R5no<L5n"; "pick R2 over R5 near, from L5 near\\n". -/
def exLn:List UInt8:=[112,105,99,107,32,82,50,32,111,118,101,114,32,82,53,32,110,101,97,114,32,108,111,111,112,32,49,44,32,102,114,111,109,32,76,53,32,110,101,97,114,32,108,111,111,112,32,49]
def exIt:List UInt8:=[82,50,60,82,53,110,111,60,76,53,110]
def exTr:List UInt8:=[112,105,99,107,32,82,50,32,111,118,101,114,32,82,53,32,110,101,97,114,44,32,102,114,111,109,32,76,53,32,110,101,97,114,10]
theorem ex_words:checkN stdF 6 4 [exO]=0∧lineF stdF exO=exLn:=⟨by kernel_rfl,by kernel_rfl⟩
def exN:Nop:=⟨3,⟨1,true,2⟩,some ⟨⟨1,false,5⟩,0,false,0⟩,[(⟨⟨1,true,5⟩,0,false,0⟩,true)],false⟩
theorem exN_ok:okN exN∧canN exN:=by
 have h1:okNst ⟨⟨1,false,5⟩,0,false,0⟩:=⟨by decide,by simp,by simp,by simp,by simp⟩
 have h2:okNst ⟨⟨1,true,5⟩,0,false,0⟩:=⟨by decide,by simp,by simp,by simp,by simp⟩
 refine ⟨⟨by decide,.inr (.inr (.inl ⟨rfl,⟨_,rfl,h1⟩,fun y hy=>?_,rfl⟩))⟩,rfl,fun x hx=>?_,fun y hy=>?_⟩
 ·rw [List.mem_singleton.1 hy];exact h2
 ·injection hx with hx;rw [←hx];exact ⟨rfl,rfl,rfl⟩
 ·rw [List.mem_singleton.1 hy];exact ⟨rfl,rfl,rfl⟩
theorem ex_item:itemN exN=exIt:=by kernel_rfl
theorem ex_reads:itE stdF exIt=0∧itO stdF exIt=[oOf stdF exN]:=by
 have hs:splt 32 exIt=[exIt]:=by kernel_rfl
 have h:=scan_at exN_ok.1 exN_ok.2
 rw [ex_item] at h
 have ha:scanA (splt 32 exIt)=some [exN]:=by rw [hs,scanA,h,scanA]
 have hl:List.any [exN] (lostO stdF)=false:=by decide
 unfold itE itO
 rw [if_neg (by decide),if_neg (by decide),ha]
 simp only [hl]
 exact ⟨rfl,rfl⟩
theorem ex_trans:trE stdF 6 4 exIt 2 1=0∧trS stdF 6 4 exIt 2 1=exTr:=by
 have hb:beginN stdF 6 4 exIt=0:=by kernel_rfl
 have hf:frB stdF 6 4=true:=by kernel_rfl
 have h1:ntE stdF 6 4 2 exIt=0:=by
  unfold ntE rsE
  rw [if_neg (by omega),if_pos hb];exact ex_reads.1
 have h2:ntO stdF 6 4 2 exIt=[oOf stdF exN]:=by
  unfold ntO rsO
  rw [if_neg (by omega),if_pos hb];exact ex_reads.2
 have h3:trE stdF 6 4 exIt 2 1=0:=by
  unfold trE
  rw [if_pos ⟨hf,.inr rfl,.inl rfl⟩,if_pos h1,if_neg (by omega)]
 refine ⟨h3,?_⟩
 unfold trS
 rw [if_pos h3,h2]
 kernel_rfl
end Go.Proofs.YtlmdfmnbcndhoaaGreatDoor
namespace Go.Proofs.YtlmdfmnbcndhoaaGreatDoor
open Go
def ovC (o:Bool):UInt8:=if o then 111 else 117
def sgC (s:Int):UInt8:=if s=1 then 43 else if s = -1 then 45 else 63
/-- A letter's text, a code's text. -/
def ltS (l:Lt):List UInt8:=if l.kind=1 then Lib.itoa l.gate++[46]++Lib.itoa l.rank else if l.kind=2 then Lib.itoa l.id++[ovC l.over]++[sgC l.sign] else [63]
def ltPrS (L:List Lt):List UInt8:=L.flatMap (fun l=>32 :: ltS l)
def printS (K:Int) (L:List Lt):List UInt8:=Lib.itoa K++[58]++ltPrS L
theorem lettersS_snoc (L:List Lt) (l:Lt):ltPrS (L++[l])=ltPrS L++([32]++ltS l):=by unfold ltPrS;rw [List.flatMap_append];simp
theorem i64_of {x:Int} (h:I64 x):-9223372036854775808≤x∧x≤9223372036854775807:=h
theorem ltS_len {l:Lt} (h:LtOk l):(ltS l).length≤44:=by
 have hg:=i64_of h.gate
 have hr:=i64_of h.rank
 have hi:=i64_of h.id
 have h1:=Lib.itoa_length_le _ hg.1 hg.2
 have h2:=Lib.itoa_length_le _ hr.1 hr.2
 have h3:=Lib.itoa_length_le _ hi.1 hi.2
 unfold ltS
 split
 ·simp;omega
 ·split
  ·simp;omega
  ·simp
theorem lettersS_len:∀{L:List Lt},(∀x∈L,LtOk x)→(ltPrS L).length≤45*L.length
 | [],_=>by simp [ltPrS]
 | l :: L,h=>by
  have h1:=ltS_len (h l (List.mem_cons_self ..))
  have h2:=lettersS_len (fun x hx=>h x (List.mem_cons_of_mem _ hx))
  unfold ltPrS at h2 ⊢
  rw [List.flatMap_cons,List.length_append,List.length_cons,List.length_cons]
  omega
theorem printS_len {K:Int} {L:List Lt} (hK:I64 K) (h:∀x∈L,LtOk x):(printS K L).length≤45*L.length+22:=by
 have h1:=Lib.itoa_length_le K hK.1 hK.2
 have h2:=lettersS_len h
 unfold printS
 simp only [List.length_append,List.length_cons,List.length_nil]
 omega
end Go.Proofs.YtlmdfmnbcndhoaaGreatDoor
namespace Go.Proofs.YtlmdfmnbcndhoaaGreatDoor
open Go.RowKit
theorem itoa_le {x:Int} (hx:I64 x):(Lib.itoa x).length≤21:=Lib.itoa_length_le x hx.1 hx.2
end Go.Proofs.YtlmdfmnbcndhoaaGreatDoor
namespace Go.Proofs.YtlmdfmnbcndhoaaGreatDoor
open Go.RowKit
theorem la_is {L:List Lt} {i:Nat} (h:i < L.length):L[i]? = some (la L i):=by unfold la;rw [List.getElem?_eq_getElem h];rfl
theorem take_la {L:List Lt} {i:Nat} (h:i < L.length):L.take (i+1)=L.take i++[la L i]:=by rw [List.take_add_one,la_is h];rfl
theorem printS_next {K:Int} {L:List Lt} {i:Nat} (h:i < L.length):printS K (L.take (i+1))=printS K (L.take i)++32 :: ltS (la L i):=by
 unfold printS
 rw [take_la h,lettersS_snoc]
 simp
theorem take_ok {L:List Lt} (i:Nat) (h:∀x∈L,LtOk x):∀x∈L.take i,LtOk x:=fun x hx=>h x (List.mem_of_mem_take hx)
end Go.Proofs.YtlmdfmnbcndhoaaGreatDoor
namespace Go.Proofs.YtlmdfmnbcndhoaaGreatDoor
open Go.RowKit
theorem sg_cases (sign:Int):((sign==1)=true∧sgC sign=43)∨((sign==1)=false∧(sign==-1)=true∧sgC sign=45)∨((sign==1)=false∧(sign==-1)=false∧sgC sign=63):=by
 unfold sgC
 by_cases h1:sign=1
 ·exact .inl ⟨by simpa using h1,by rw [if_pos h1]⟩
 ·by_cases h2:sign = -1
  ·exact .inr (.inl ⟨by simpa using h1,by simpa using h2,by rw [if_neg h1,if_pos h2]⟩)
  ·exact .inr (.inr ⟨by simpa using h1,by simpa using h2,by rw [if_neg h1,if_neg h2]⟩)
set_option maxRecDepth 100000 in
set_option maxHeartbeats 6400000 in
theorem cref_PrintA (K:Int) (A:Option Addr) (n c:Nat) (L:List Lt) (w:World) (hA:Lets w A n L) (hn:n≤1000) (hK:I64 K) :
  Calls Tryz.prog 50 #[.agg #[.int .i64 K,.slice A n c]] w fun e w'=>e=.returned (.string (bA (printS K L)))∧Below w.heap.size w w':=by
 have hLn:=Lib.hid hA.len
 have hbx:=Boxed.refl w K A n c
 have HK:=Lib.hid hK
 have hok:=hA.fits
 have HOK:=Lib.hid hok
 have zK:=itoa_le hK
 have s0:=strAddL (Lib.itoa K) [58] (by omega) (by simp)
 rw [show bA [58]=⟨#[58]⟩ from rfl] at s0
 have hst:Hid (bA (Lib.itoa K++[58])=bA (printS K (L.take 0))):=Lib.hid (by unfold printS ltPrS;simp)
 have x0:=hbx.c0
 clear hK hok
 go_enter Tryz.func50,Tryz.ntmps50
 go_wp2_with fail
 refine (ref_Number K HK.out _).mono ?_
 rintro e w1 ⟨rfl,hb1⟩
 have hb2:=hbx.more hb1
 clear hbx hb1 x0
 go_wp2_with fail
 go_loopw [3,4,5,6] (fun v3 v4 _ _ wr=>∃(i:Nat) (S:ByteArray),i≤n∧v4=.int .i64 i∧v3=.string S∧Boxed w wr K A n c∧Hid (S=bA (printS K (L.take i)))) (fun _ v4 _ _ _=>n-(intOf v4).toNat)
 case atStart=>exact ⟨0,_,Nat.zero_le _,rfl,rfl,hb2,hst⟩
 case round =>
  obtain ⟨i,S,hi,rfl,rfl,hbr,HS⟩:=hrel
  clear hst hb2
  have x1:=hbr.c1
  by_cases hlt:i < n
  ·obtain ⟨gg,o,rfl,hgg,hx,hok⟩:=(hA.below hbr.below).at_ hlt
   obtain ⟨y0,y1,y2,y3,y4,y5⟩:=hx
   have hil:i < L.length:=by rw [hLn.out];exact hlt
   have zw:=ltS_len hok
   have zp:=printS_len HK.out (take_ok i HOK.out)
   have zt:(L.take i).length≤1000:=by rw [List.length_take];omega
   have i0:(0:Int)≤(i:Int):=by omega
   have i1:(i:Int) < (n:Int):=by omega
   have s1:=strAddL (printS K (L.take i)) [32] (by omega) (by simp)
   have s2:=strAddL (printS K (L.take i)++[32]) (ltS (la L i)) (by simp;omega) (by omega)
   rw [show bA [32]=⟨#[32]⟩ from rfl] at s1
   rw [←HS.out] at s1
   obtain ⟨D,hD⟩:∃D,D=bA (printS K (L.take i)++[32]):=⟨_,rfl⟩
   obtain ⟨E,hE⟩:∃E,E=bA ((printS K (L.take i)++[32])++ltS (la L i)):=⟨_,rfl⟩
   obtain ⟨W,hW⟩:∃W,W=bA (ltS (la L i)):=⟨_,rfl⟩
   rw [←hE,←hD,←hW] at s2
   rw [←hD] at s1
   have HS1:=Lib.hid (show E=bA (printS K (L.take (i+1))) by rw [hE,printS_next hil];simp)
   have HW:=Lib.hid hW
   have HLN:=Lib.hid (show I64 (la L i).gate∧I64 (la L i).rank∧I64 (la L i).id from ⟨hok.gate,hok.rank,hok.id⟩)
   obtain ⟨kind,hk⟩:∃k,(la L i).kind=k:=⟨_,rfl⟩
   obtain ⟨gate,hg⟩:∃k,(la L i).gate=k:=⟨_,rfl⟩
   obtain ⟨rank,hr⟩:∃k,(la L i).rank=k:=⟨_,rfl⟩
   obtain ⟨id,hid⟩:∃k,(la L i).id=k:=⟨_,rfl⟩
   obtain ⟨sign,hs⟩:∃k,(la L i).sign=k:=⟨_,rfl⟩
   obtain ⟨over,ho⟩:∃k,(la L i).over=k:=⟨_,rfl⟩
   have hl:la L i=⟨kind,gate,rank,id,sign,over⟩:=by rw [←hk,←hg,←hr,←hid,←hs,←ho]
   rw [hk] at y0
   rw [hg] at y1
   rw [hr] at y2
   rw [hid] at y3
   rw [hs] at y4
   rw [ho] at y5
   rw [hg,hr,hid] at HLN
   rw [hl] at HW
   have zG:=itoa_le HLN.out.1
   have zR:=itoa_le HLN.out.2.1
   have zI:=itoa_le HLN.out.2.2
   clear HS hD hE hW zw zp zt hok hk hg hr hid hs ho hl
   go_upto_region 6 with fail
   obtain ⟨X,hX⟩:∃X,X=wr.alloc (.cells #[.int .i64 kind,.int .i64 gate,.int .i64 rank,.int .i64 id,.int .i64 sign,.bool over] 76):=⟨_,rfl⟩
   rw [←hX]
   have hk0:Blk X wr.heap.size 76 #[.int .i64 kind,.int .i64 gate,.int .i64 rank,.int .i64 id,.int .i64 sign,.bool over]:=by rw [hX];exact Blk.new _ _ _
   have hbX:Boxed w X K (some ⟨gg,o,none⟩) n c:=by rw [hX];exact hbr.alloc _
   have hsz0:=hk0.lt
   clear hX y0 y1 y2 y3 y4 y5 x1 hbr
   have c0:X.cell? ⟨wr.heap.size,0,none⟩=some (.int .i64 kind):=(hk0.cell 0).trans rfl
   have c1:X.cell? ⟨wr.heap.size,1,none⟩=some (.int .i64 gate):=(hk0.cell 1).trans rfl
   have c2:X.cell? ⟨wr.heap.size,2,none⟩=some (.int .i64 rank):=(hk0.cell 2).trans rfl
   have c3:X.cell? ⟨wr.heap.size,3,none⟩=some (.int .i64 id):=(hk0.cell 3).trans rfl
   by_cases k1:kind=1
   ·have q1:(kind==1)=true:=by simpa using k1
    have q2:(kind==2)=false:=by simp;omega
    have hf:=show W=bA (Lib.itoa gate++46 :: Lib.itoa rank) by rw [HW.out];unfold ltS;rw [if_pos k1];simp
    have t1:=strAddL (Lib.itoa gate) [46] (by omega) (by simp)
    have t2:=strAddL (Lib.itoa gate++[46]) (Lib.itoa rank) (by simp;omega) (by omega)
    rw [show bA [46]=⟨#[46]⟩ from rfl] at t1
    rw [hf] at s2
    clear k1 zI zG zR HW hf
    have KP:=Lib.hid (show ∀wx,Below X.heap.size X wx→(Below X.heap.size X wx∧wx.cell? ⟨wr.heap.size,1,none⟩=some (.int .i64 gate)∧wx.cell? ⟨wr.heap.size,2,none⟩=some (.int .i64 rank)) from fun wx h=>⟨h,(h.cell (p:=⟨wr.heap.size,1,none⟩) hsz0).trans c1,(h.cell (p:=⟨wr.heap.size,2,none⟩) hsz0).trans c2⟩)
    go_wp2_with fail
    first
     | go_region_held3 (fun wx=>Below X.heap.size X wx∧wx.cell? ⟨wr.heap.size,1,none⟩=some (.int .i64 gate)∧wx.cell? ⟨wr.heap.size,2,none⟩=some (.int .i64 rank)) (first | assumption | exact KP.out _ (Below.refl _ _).drew | exact KP.out _ (below_chain (And.left (by assumption)) (by assumption) (Below.size (And.left (by assumption)))))
       (first
        | (go_at_call 78;refine (ref_Number gate HLN.out.1 _).mono ?_;rintro e wx ⟨rfl,hb5⟩)
        | (go_at_call 78;refine (ref_Number rank HLN.out.2.1 _).mono ?_;rintro e wx ⟨rfl,hb5⟩))
     | fail
    all_goals
     have hbf:=And.left (show Below X.heap.size X _∧_ by assumption)
     have e0:World.cell? _ ⟨wr.heap.size,0,none⟩=some (.int .i64 kind):=((hk0.below hbf hsz0).cell 0).trans rfl
     clear hk0
     have hbr2:=hbX.more hbf
     clear hbX
     go_wp2_with fail
     go_roundw
     case rel=>exact ⟨i+1,E,by omega,by go_num,rfl,hbr2,HS1⟩
     case measure=>simp [intOf];omega
   ·have q1:(kind==1)=false:=by simpa using k1
    by_cases k2:kind=2
    ·have q2:(kind==2)=true:=by simpa using k2
     have t1:=strAddL (Lib.itoa id) [117] (by omega) (by simp)
     have t2:=strAddL (Lib.itoa id) [111] (by omega) (by simp)
     have t3:=strAddL (Lib.itoa id++[117]) [43] (by simp;omega) (by simp)
     have t4:=strAddL (Lib.itoa id++[117]) [45] (by simp;omega) (by simp)
     have t5:=strAddL (Lib.itoa id++[117]) [63] (by simp;omega) (by simp)
     have t6:=strAddL (Lib.itoa id++[111]) [43] (by simp;omega) (by simp)
     have t7:=strAddL (Lib.itoa id++[111]) [45] (by simp;omega) (by simp)
     have t8:=strAddL (Lib.itoa id++[111]) [63] (by simp;omega) (by simp)
     rw [show bA [117]=⟨#[117]⟩ from rfl] at t1
     rw [show bA [111]=⟨#[111]⟩ from rfl] at t2
     rw [show bA [43]=⟨#[43]⟩ from rfl] at t3 t6
     rw [show bA [45]=⟨#[45]⟩ from rfl] at t4 t7
     rw [show bA [63]=⟨#[63]⟩ from rfl] at t5 t8
     clear zG zR zI c1 c2
     cases over with
     | false =>
      rcases sg_cases sign with ⟨n1,hS⟩ | ⟨n1,n2,hS⟩ | ⟨n1,n2,hS⟩
      all_goals
       have hf:=show W=bA (Lib.itoa id++[ovC false,sgC sign]) by rw [HW.out];unfold ltS;rw [if_neg k1,if_pos k2];simp
       rw [hS,show ovC false=117 from rfl] at hf
       rw [hf] at s2
       clear hS hf HW
       go_wp2_with fail
       refine (ref_Number id HLN.out.2.2 _).mono ?_
       rintro e w2 ⟨rfl,hb3⟩
       have hk2:=hk0.below hb3 hsz0
       have d4:w2.cell? ⟨wr.heap.size,4,none⟩=some (.int .i64 sign):=(hk2.cell 4).trans rfl
       have d5:w2.cell? ⟨wr.heap.size,5,none⟩=some (.bool false):=(hk2.cell 5).trans rfl
       clear hk2 hk0
       have hbr2:=hbX.more hb3
       clear hbX
       go_wp2_with fail
       go_roundw
       case rel=>exact ⟨i+1,E,by omega,by go_num,rfl,hbr2,HS1⟩
       case measure=>simp [intOf];omega
     | true =>
      rcases sg_cases sign with ⟨n1,hS⟩ | ⟨n1,n2,hS⟩ | ⟨n1,n2,hS⟩
      all_goals
       have hf:=show W=bA (Lib.itoa id++[ovC true,sgC sign]) by rw [HW.out];unfold ltS;rw [if_neg k1,if_pos k2];simp
       rw [hS,show ovC true=111 from rfl] at hf
       rw [hf] at s2
       clear hS hf HW
       go_wp2_with fail
       refine (ref_Number id HLN.out.2.2 _).mono ?_
       rintro e w2 ⟨rfl,hb3⟩
       have hk2:=hk0.below hb3 hsz0
       have d3:w2.cell? ⟨wr.heap.size,3,none⟩=some (.int .i64 id):=(hk2.cell 3).trans rfl
       have d5:w2.cell? ⟨wr.heap.size,5,none⟩=some (.bool true):=(hk2.cell 5).trans rfl
       have hsz2:=hk2.lt
       go_wp2_with fail
       refine (ref_Number id HLN.out.2.2 _).mono ?_
       rintro e w3 ⟨rfl,hb4⟩
       have e4:w3.cell? ⟨wr.heap.size,4,none⟩=some (.int .i64 sign):=((hk2.below hb4 hsz2).cell 4).trans rfl
       have hb5:=hb3.trans (hb4.mono hb3.size)
       clear d3 d5 hk2 hk0
       have hbr2:=hbX.more hb5
       clear hbX
       go_wp2_with fail
       go_roundw
       case rel=>exact ⟨i+1,E,by omega,by go_num,rfl,hbr2,HS1⟩
       case measure=>simp [intOf];omega
    ·have q2:(kind==2)=false:=by simpa using k2
     have hf:=show W=bA [63] by rw [HW.out];unfold ltS;rw [if_neg k1,if_neg k2]
     rw [hf,show bA [63]=⟨#[63]⟩ from rfl] at s2
     have hb3:=Below.refl X.heap.size X
     clear k1 k2 zG zR zI HW hf
     have hbr2:=hbX.more hb3
     clear hbX
     go_wp2_with fail
     go_roundw
     case rel=>exact ⟨i+1,E,by omega,by go_num,rfl,hbr2,HS1⟩
     case measure=>simp [intOf];omega
  ·have hin:i=n:=by omega
   have hS:=HS.out
   rw [hin,List.take_of_length_le (by rw [hLn.out];exact Nat.le_refl _)] at hS
   have HS1:=Lib.hid hS
   have i1:¬(i:Int) < (n:Int):=by omega
   clear hS hin HS
   go_wp2_with fail
   go_ret
   exact ⟨by rw [←HS1.out];rfl,hbr.below⟩
end Go.Proofs.YtlmdfmnbcndhoaaGreatDoor
namespace Go.Proofs.YtlmdfmnbcndhoaaGreatDoor
open Go.RowKit
def exP:List UInt8:=[49,48,58,32,49,46,49,32,48,46,49,32,49,117,43,32,57,46,49,32,49,48,46,49,32,49,111,43]
theorem ex_print:printS 10 (exL 1)=exP:=by kernel_rfl
end Go.Proofs.YtlmdfmnbcndhoaaGreatDoor
