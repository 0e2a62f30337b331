/-
  Lemmas, part 30. Conditions: each theorem's own.
-/
import Derived.Test.YtlmdfmnbcndhoaaGreatDoorRc29
import Derived.Test.YtlmdfmnbcndhoaaGreatDoorRc02
import Derived.Test.YtlmdfmnbcndhoaaGreatDoorRc12
import Derived.StillTailTactics
open Go.Value renaming int→D,slice→H
open Go.IntKind renaming i64→J
open Option renaming none→U,some→Z
open Bool renaming false→E,true→Q
namespace Go.Proofs.YtlmdfmnbcndhoaaGreatDoor
open Go.RowKit
set_option maxHeartbeats 400000 in
theorem zEd (i:Nat) (v:Value) (w:World) (hi:i≤100000) :
  Calls Tryz.prog 213 #[v,D J i] w fun e w'=>e=.returned (D J ((2*i:Nat):Int))∧Below w.heap.size w w':=by
 go_enter Tryz.func213,Tryz.ntmps213;go_wp2_with fail
 go_ret;exact ⟨zAu (by omega),Below.refl _ _⟩
set_option maxHeartbeats 400000 in
theorem zDz (i p:Nat) (K:Int) (A:Option Addr) (n c:Nat) (v2 v3 v4 v5 v6:Value) (w:World) (hd:Dia w p K A n c v2 v3 v4 v5 v6) (hi:i < n) (hn:n≤1000) :
  Calls Tryz.prog 212 #[.pointer (Z ⟨p,0,U⟩),D J i] w fun e w'=>e=.returned (D J ((zBx n i E:Nat):Int))∧Below w.heap.size w w':=by
 have c1:=hd.c1
 have hf:=qH (show ((zBx n i E:Nat):Int)=2*(((i:Int)-1) % n)+1 by
  have e1:((i+n-1:Nat):Int)=(i:Int)-1+n:=by omega
  have e2:(((i+n-1) % n:Nat):Int)=((i:Int)-1+n) % n:=by rw [Int.natCast_emod,e1]
  have e3:((i:Int)-1+n) % n=((i:Int)-1) % n:=by simp
  unfold zBx
  simp only [Bool.false_eq_true,if_false]
  omega)
 have hm0:0≤((i:Int)-1) % n:=Int.emod_nonneg _ (by omega);have sV:((i:Int)-1) % n < n:=Int.emod_lt_of_pos _ (by omega);go_enter Tryz.func212,Tryz.ntmps212;go_wp2_with fail
 go_ret;exact ⟨zAu (by rw [hf.out]),Below.refl _ _⟩
structure DiaF (w:World) (base p k:Nat) (A:Option Addr) (n c:Nat) (L:List Lt) (b:Nat) (g2 g3 g4 g6:Nat) (s:List Bool) (P C:List Int) (ids:List Int):Prop where
 ranks:DiaR w base p k A n c L (.map (Z b)) g2 g3 g4 g6 s P C
 vis:Vis w b L n ids
 lets:Lets w A n L
 good:Good (k:Int) L
 small:n≤400
set_option maxRecDepth 100000 in
set_option maxHeartbeats 3200000 in
theorem zJG (d base p k:Nat) (A:Option Addr) (n c:Nat) (L:List Lt) (b g2 g3 g4 g6:Nat) (s:List Bool) (P C ids:List Int) (w:World) (h:DiaF w base p k A n c L b g2 g3 g4 g6 s P C ids) (hd:d < zBS L) (hge:2*n≤d) :
  Calls Tryz.prog 200 #[.pointer (Z ⟨p,0,U⟩),D J d] w fun e w'=>e=.returned (D J (zAG L (axL L) d))∧Below w.heap.size w w':=by
 have hn:=h.small;have aA:L.length=n:=h.lets.len;have hmp:=h.good.m_pos;have hml:(axL L).length≤n:=by rw [zEJ,←aA];exact zIe L _
 have hD:=h.ranks.dia;have c1:=hD.c1;have c2:=hD.c2;have c3:=hD.c3;unfold zBS at hd;rw [aA] at hd;obtain ⟨m,hm⟩:∃m,m=(axL L).length:=⟨_,rfl⟩
 rw [←hm] at hd hmp hml c3;have HM:=qH hm;have HD:=qH hD;rcases Nat.mod_two_eq_zero_or_one d with h2 | h2
 ·obtain ⟨j,hj⟩:∃j,d=2*n+2*j:=⟨(d-2*n) / 2,by omega⟩
  have hjm:j < m:=by omega
  obtain ⟨t,ht⟩:∃t,t=(j+1) % m:=⟨_,rfl⟩
  have htm:t < m:=by rw [ht];exact Nat.mod_lt _ hmp
  have hx:=zEK (L:=L) (j:=t) (by rw [←hm];exact htm);obtain ⟨v,hv⟩:∃v,v=xat (axL L) t:=⟨_,rfl⟩
  have cx:=h.ranks.axis.cell (zDJ (k:=t) (by rw [←hm];exact htm));have cy:=h.ranks.axis.cell (zDJ (k:=j) (by rw [←hm];exact hjm));rw [←hv] at cx hx;obtain ⟨y,hy⟩:∃y,y=xat (axL L) j:=⟨_,rfl⟩
  rw [←hy] at cy;have hvn:v < n:=by rw [←aA];exact hx.2
  have cs:=h.ranks.down.cell hvn;rw [h.ranks.downs v hx.1] at cs
  have hf:=qH (show zAG L (axL L) d=zBx n v (!dwn L v) by
   unfold zAG
   rw [aA,←hm,if_pos hge,if_pos h2,show (d-2*n) / 2=j by omega,←ht,←hv])
  have q1:((d:Int)-2*(n:Int)) / 2=(j:Int):=by omega
  have q2:((d:Int) % 2==0)=Q:=by simp;omega
  have q3:((j:Int)+1) % (m:Int)=(t:Int):=by rw [ht];simp
  have gw:((j:Int)+1).tmod (m:Int)=(t:Int):=by rw [Int.tmod_eq_emod_of_nonneg (by omega)];exact q3
  have gO:IntKind.i64.wrap ((j:Int)+1)=(j:Int)+1:=IntWalk.i64_in _ (by omega);have gv:IntKind.i64.wrap (t:Int)=(t:Int):=IntWalk.i64_in _ (by omega);have AJ:¬m=0:=by omega
  have q4:(0:Int)≤(t:Int):=by omega
  have q5:(t:Int) < (m:Int):=by omega
  have q6:(2:Int)*(n:Int)≤(d:Int):=by omega
  have q7:(0:Int)≤(j:Int):=by omega
  have q8:(j:Int) < (m:Int):=by omega
  have q9:(0:Int)≤(v:Int):=by omega
  have uE:(v:Int) < (n:Int):=by omega
  clear ht hv hj h2 aA hx hm hy hD
  cases hw:dwn L v with
  | false =>
   rw [hw] at hf cs;clear hw;go_enter Tryz.func200,Tryz.ntmps200;go_wp2_with fail
   go_quiet (fail)
   go_wp2_with fail
   generalize hwx:w.drewN nq=wx;have hbx:Below w.heap.size w wx:=by rw [←hwx];exact zAe (Below.refl _ _) _
   have x1:=(hbx.cell (World.block_lt_of_cell? w _ cx)).trans cx;have x2:=(HD.out.next hbx).c3;rw [←HM.out] at x2;have x3:=(hbx.cell (World.block_lt_of_cell? w _ cs)).trans cs;have x4:=(HD.out.next hbx).c2;clear hwx c1 c2 c3 cx cy cs;go_quiet (fail)
   go_wp2_with fail
   refine (zEd v _ _ (by omega)).mono ?_;rintro e w2 ⟨rfl,ab⟩;have ac:=zAa (zAe hbx _) ab hbx.size;go_wp2_with fail
   go_ret;exact ⟨zAu (by rw [hf.out];simp [zBx]),ac⟩
  | true =>
   rw [hw] at hf cs;clear hw;go_enter Tryz.func200,Tryz.ntmps200;go_wp2_with fail
   go_quiet (fail)
   go_wp2_with fail
   generalize hwx:w.drewN nq=wx;have hbx:Below w.heap.size w wx:=by rw [←hwx];exact zAe (Below.refl _ _) _
   have x1:=(hbx.cell (World.block_lt_of_cell? w _ cx)).trans cx;have x2:=(HD.out.next hbx).c3;rw [←HM.out] at x2;have x3:=(hbx.cell (World.block_lt_of_cell? w _ cs)).trans cs;have x4:=(HD.out.next hbx).c2;have HDx:=qH (HD.out.next hbx);clear hwx c1 c2 c3 cx cy cs;go_quiet (fail)
   go_wp2_with fail
   refine (zDz v p (k:Int) A n c _ _ _ _ _ _ (Dia.drewN HDx.out _) hvn (by omega)).mono ?_;rintro e w2 ⟨rfl,ab⟩;have ac:=zAa (zAe hbx _) ab hbx.size;go_wp2_with fail
   go_ret;exact ⟨zAu (by rw [hf.out];simp),ac⟩
 ·obtain ⟨j,hj⟩:∃j,d=2*n+2*j+1:=⟨(d-2*n) / 2,by omega⟩
  have hjm:j < m:=by omega
  have hx:=zEK (L:=L) (j:=j) (by rw [←hm];exact hjm);obtain ⟨v,hv⟩:∃v,v=xat (axL L) j:=⟨_,rfl⟩
  have cx:=h.ranks.axis.cell (zDJ (k:=j) (by rw [←hm];exact hjm));rw [←hv] at cx hx;have hvn:v < n:=by rw [←aA];exact hx.2
  have cs:=h.ranks.down.cell hvn;rw [h.ranks.downs v hx.1] at cs
  have hf:=qH (show zAG L (axL L) d=zBx n v (dwn L v) by
   unfold zAG
   rw [aA,if_pos hge,if_neg (by omega),show (d-2*n) / 2=j by omega,←hv])
  have q1:((d:Int)-2*(n:Int)) / 2=(j:Int):=by omega
  have q2:((d:Int) % 2==0)=E:=by simp;omega
  have q6:(2:Int)*(n:Int)≤(d:Int):=by omega
  have q7:(0:Int)≤(j:Int):=by omega
  have q8:(j:Int) < (m:Int):=by omega
  have q9:(0:Int)≤(v:Int):=by omega
  have uE:(v:Int) < (n:Int):=by omega
  clear hv hj h2 aA hx hm hD
  cases hw:dwn L v with
  | true =>
   rw [hw] at hf cs;clear hw;go_enter Tryz.func200,Tryz.ntmps200;go_wp2_with fail
   go_quiet (fail)
   go_wp2_with fail
   refine (zEd v _ _ (by omega)).mono ?_;rintro e w2 ⟨rfl,ab⟩;have ac:=zAa (zAe (Below.refl w.heap.size w) _) ab (Nat.le_refl _);go_wp2_with fail
   go_ret;exact ⟨zAu (by rw [hf.out];simp [zBx]),ac⟩
  | false =>
   rw [hw] at hf cs;clear hw;go_enter Tryz.func200,Tryz.ntmps200;go_wp2_with fail
   go_quiet (fail)
   go_wp2_with fail
   refine (zDz v p (k:Int) A n c _ _ _ _ _ _ (Dia.drewN HD.out _) hvn (by omega)).mono ?_;rintro e w2 ⟨rfl,ab⟩;have ac:=zAa (zAe (Below.refl w.heap.size w) _) ab (Nat.le_refl _);go_wp2_with fail
   go_ret;exact ⟨zAu (by rw [hf.out]),ac⟩
theorem zIH {L:List Lt} {i:Nat}:∀{X:List Nat} {k:Nat},k≤X.length→(∀j,j < k→zFK (la L (xat X j)) (la L i)=Q)→(k < X.length→zFK (la L (xat X k)) (la L i)=E)→zKe L i X=X.take k++[i]++X.drop k
 | [],k,hk,_,_=>by simp at hk;subst hk;rfl
 | x :: X,0,_,_,h=>by
  have:=h (by simp);unfold zKe;rw [if_neg (by simpa [xat] using this)];rfl
 | x :: X,k+1,hk,h1,h2=>by
  have h0:=h1 0 (by omega);unfold zKe;rw [if_pos (by simpa [xat] using h0),zIH (k:=k) (by simpa using hk) (fun j hj=>by have:=h1 (j+1) (by omega);simpa [xat] using this) (fun hl=>by have:=h2 (by simpa using hl);simpa [xat] using this)];simp
set_option maxRecDepth 100000 in
set_option maxHeartbeats 1600000 in
theorem zSk (K:Int) (A:Option Addr) (n c:Nat) (L:List Lt) (w:World) (hA:Lets w A n L) :
  Calls Tryz.prog 171 #[.agg #[D J K,H A n c]] w fun e w'=>∃A' c',e=.returned (.slice A' (axL L).length c')∧Own w' w.heap.size A' (axL L).length c' (zEG (axL L))∧Below w.heap.size w w':=by
 have hle:=hA.le;have HL:=qH hA.len;have hbx:=Boxed.refl w K A n c;go_enter Tryz.func171,Tryz.ntmps171;go_wp2_with fail
 go_loopw [3,4] (fun v3 v4 wr=>∃(k m:Nat) (X:List Nat) (A1:Option Addr) (c1:Nat),k≤n∧m≤k∧v4=D J k∧v3=H A1 m c1∧Own wr (w.heap.size+1) A1 m c1 (zEG X)∧Boxed w wr K A n c∧Hid (X=zJY L k)) (fun _ v4 _=>n-(intOf v4).toNat)
 case atStart=>exact ⟨0,0,[],U,0,Nat.zero_le _,Nat.zero_le _,rfl,rfl,Own.nil _ _,hbx,qH rfl⟩
 case round =>
  obtain ⟨k,m,X,A1,c1,hk,hm,rfl,rfl,hown,hb,HX⟩:=hrel;have lw:=hb.c1;by_cases hlt:k < n
  ·obtain ⟨g,o,rfl,hg,hx,hok⟩:=(hA.below hb.below).at_ hlt;obtain ⟨h0,h1,h2,h3,h4,h5⟩:=hx;by_cases hp:(la L k).kind=1
   ·have gB:((la L k).kind != 1)=E:=by simpa using hp
    have HP:=qH hp;clear hp;go_wp2_with fail
    clear gB;obtain ⟨wo,rfl⟩:∃wo:World,wo=wr:=⟨_,rfl⟩
    go_loopw [5] (fun v5 wi=>∃j:Nat,j≤m∧v5=D J j∧Below wo.heap.size wo wi∧Hid (∀t,t < j→zFK (la L (xat X t)) (la L k)=Q)) (fun v5 _=>m-(intOf v5).toNat)
    case atStart=>exact ⟨0,Nat.zero_le _,rfl,Below.refl _ _,qH (fun t ht=>by omega)⟩
    case round =>
     obtain ⟨j,hj,rfl,hbi,hall⟩:=hrel;have eU:=hown.ints;have sU:X.length=m:=by have:=hown.len;rwa [zFb] at this
     by_cases hgo:j < m∧zFK (la L (xat X j)) (la L k)=Q
     ·obtain ⟨hjm,hl⟩:=hgo;have tc:j < X.length:=by omega
      obtain ⟨ad,y,fE,hy,_,_,hcy⟩:=(eU.below hbi).at_ hjm;obtain ⟨y',AT,hyn,hyx⟩:∃y':Nat,y=(y':Int)∧y' < n∧y'=xat X j:=by
       have h1:=hy.out;rw [zDJ tc] at h1;have hmem:xat X j∈X:=by unfold xat;rw [List.getElem?_eq_getElem tc];exact List.getElem_mem tc
       have hlt2:=((zFi L _ k).1 (by rw [←HX.out];exact hmem)).1;exact ⟨xat X j,(Option.some.inj h1).symm,by omega,rfl⟩
      subst AT fE;obtain ⟨y0,y1,y2,y3,y4,y5⟩:=((hA.below hb.below).below hbi |>.also hyn).1;obtain ⟨x0,x1,x2,x3,x4,x5⟩:=((hA.below hb.below).below hbi |>.also hlt).1;have wH:=(hb.more hbi).c1;have d1:decide ((j:Int) < (m:Int))=Q:=by simp;omega
      have b1:(0:Int)≤(y':Int):=by omega
      have b2:(y':Int) < (n:Int):=by omega
      have b3:(j:Int) < (m:Int):=by omega
      rw [←hyx] at hl;have HY:=qH hyx;have mP:=qH hl
      have wO:=qH (show ∀t,t < j+1→zFK (la L (xat X t)) (la L k)=Q from fun t ht=>by
       rcases Nat.lt_or_ge t j with h | h
       ·exact hall.out t h
       ·have:t=j:=by omega
        subst this
        rw [←HY.out];exact mP.out)
      clear hy hyx hl hall sU;go_wp2_with fail
      go_still_tail 18,(by kernel_rfl)
      change wpList _ _ _ _ _ wr.drew
      have dS:=hbi.drew;clear hbi;generalize wr.drew=w2 at dS ⊢;go_wp2_with fail
      refine (zMr (la L y') (la L k) w2).mono ?_;rintro e w3 ⟨rfl,ac⟩;rw [mP.out];have BE:=zAa dS ac dS.size;clear dS ac;go_wp2_with fail
      go_roundw
      case rel=>exact ⟨j+1,by omega,by go_num,BE,wO⟩
      case measure=>simp [intOf];omega
     ·have HI:=qH (show X.take j++[k]++X.drop j=zJY L (k+1) by
       have hs:zJY L (k+1)=zKe L k X:=by
        rw [HX.out]
        show (if isP (la L k) then _ else _)=_
        rw [zFP HP.out];rfl
       rw [hs,zIH (by omega) hall.out (fun h=>by
        cases hq:zFK (la L (xat X j)) (la L k) with
        | false=>rfl
        | true=>exact absurd ⟨by omega,hq⟩ hgo)])
      have hki:I64 (k:Int):=⟨by omega,by omega⟩;have ww:=qH hki;clear hki;by_cases hjm:j < m
      ·have tc:j < X.length:=by omega
       have hl:zFK (la L (xat X j)) (la L k)=E:=by
        cases hq:zFK (la L (xat X j)) (la L k) with
        | false=>rfl
        | true=>exact absurd ⟨by omega,hq⟩ hgo
       obtain ⟨ad,y,fE,hy,_,_,hcy⟩:=(eU.below hbi).at_ hjm;obtain ⟨y',AT,hyn,hyx⟩:∃y':Nat,y=(y':Int)∧y' < n∧y'=xat X j:=by
        have h1:=hy.out;rw [zDJ tc] at h1;have hmem:xat X j∈X:=by unfold xat;rw [List.getElem?_eq_getElem tc];exact List.getElem_mem tc
        have hlt2:=((zFi L _ k).1 (by rw [←HX.out];exact hmem)).1;exact ⟨xat X j,(Option.some.inj h1).symm,by omega,rfl⟩
       subst AT fE;obtain ⟨y0,y1,y2,y3,y4,y5⟩:=((hA.below hb.below).below hbi |>.also hyn).1;obtain ⟨x0,x1,x2,x3,x4,x5⟩:=((hA.below hb.below).below hbi |>.also hlt).1;have wH:=(hb.more hbi).c1;have d1:decide ((j:Int) < (m:Int))=Q:=by simp;omega
       have b1:(0:Int)≤(y':Int):=by omega
       have b2:(y':Int) < (n:Int):=by omega
       have b3:(j:Int) < (m:Int):=by omega
       rw [←hyx] at hl;have mP:=qH hl;clear hy hyx hl hall sU hgo hjm;go_wp2_with fail
       go_still_tail 18,(by kernel_rfl)
       change wpList _ _ _ _ _ wr.drew
       have dS:=hbi.drew;clear hbi;generalize wr.drew=w2 at dS ⊢;go_wp2_with fail
       refine (zMr (la L y') (la L k) w2).mono ?_;rintro e wz ⟨rfl,ac⟩;rw [mP.out];have hbz:=zAa dS ac dS.size;clear dS ac;go_wp2_with fail
       obtain ⟨A1,fE⟩:∃A1,A1=Z ad:=⟨_,rfl⟩
       rw [←fE] at hown eU ⊢;clear fE y0 y1 y2 y3 y4 y5 x0 x1 x2 x3 x4 x5 wH hcy;have hownz:=hown.below hbz;have hiz:=hownz.ints;have hcapz:=hownz.cap;have hbb:=hb.more hbz;have hszz:=hbb.size;have e0:(0:Int)≤(j:Int):=by omega
       have e1:(j:Int)≤(m:Int):=by omega
       have e2:(j:Int)≤(c1:Int):=by omega
       clear hown eU hb h0 h1 h2 h3 h4 h5 lw hbz hbx
       go_region_held3 (fun wx=>Below wz.heap.size wz wx) (first | exact (Below.refl _ _).drew | exact Below.trans (by assumption) (by assumption) | exact Below.alloc (by assumption) (Below.size (by assumption)) _)
        (first
         | ((refine zIu (base:=wz.heap.size) (M:=(zEG X).take j) rfl (.const (H U 0 0)) (.tmp 44) (by rfl) (by rfl) (by rfl) (by rfl) (Own.nil _ _) ((hiz.to (by omega)).below (by assumption)) j (by omega) (by omega) (Below.size (by assumption)) ?_;intro A2 c2 w2 hown2 ab bG iB))
         | ((refine zIu (base:=wz.heap.size) (M:=[(k:Int)]) rfl (.tmp 45) (.tmp 47) (by rfl) (by rfl) (by rfl) (by rfl) (by repeat (first | with_reducible exact hown2 | with_reducible apply Own.drew | with_reducible apply Own.alloc)) (by repeat (first | with_reducible apply Ints.drewD | ((with_reducible refine Ints.oneG ww.out ?_ ?_ ?_ ?_);rfl;rfl;rfl;focus (simp;done)) | with_reducible apply Ints.alloc | ((with_reducible refine Ints.growG bG ?_ ?_);focus (intro a ha;cases ha;first | (simp [blk];done) | (simp [blk];omega))))) (j+1) (by omega) (by omega) (Below.size (by assumption)) ?_;intro A3 c3 w3 hown3 ac dL gD))
         | ((refine zIu (base:=wz.heap.size) (M:=(zEG X).drop j) rfl (.tmp 48) (.tmp 51) (by rfl) (by rfl) (by rfl) (by rfl) (by repeat (first | with_reducible exact hown3 | with_reducible apply Own.drew | with_reducible apply Own.alloc)) ((hiz.from (c:=c1) (by omega) hcapz).below (by assumption)) (m+1) (by omega) (by omega) (Below.size (by assumption)) ?_;intro A4 c4 w4 hown4 aj dF ta)))
       all_goals
        have hbf:=hbb.more (show Below wz.heap.size wz _ by assumption);clear ab ac aj bG dL dF iB gD ta hown2 hown3 hownz hiz hbb;go_wp2_with fail
        go_roundw
        case rel=>exact ⟨k+1,m+1,X.take j++[k]++X.drop j,A4,c4,by omega,by omega,by go_num,rfl,by simpa [zEG,List.map_take,List.map_drop] using hown4.mono hszz,hbf,HI⟩
        case measure=>simp [intOf];omega
      ·have d1:decide (j < m)=E:=by simp;omega
       clear hall sU hgo hjm;go_wp2_with fail
       go_quiet (fail)
       have hbz:Below wo.heap.size wo (wr.drewN nq):=zAe hbi _;generalize wr.drewN nq=wz at hbz ⊢;clear hbi;go_wp2_with fail
       have hownz:=hown.below hbz;have hiz:=hownz.ints;have hcapz:=hownz.cap;have hbb:=hb.more hbz;have hszz:=hbb.size;have e0:(0:Int)≤(j:Int):=by omega
       have e1:(j:Int)≤(m:Int):=by omega
       have e2:(j:Int)≤(c1:Int):=by omega
       clear hown eU hb h0 h1 h2 h3 h4 h5 lw hbz hbx
       go_region_held3 (fun wx=>Below wz.heap.size wz wx) (first | exact (Below.refl _ _).drew | exact Below.trans (by assumption) (by assumption) | exact Below.alloc (by assumption) (Below.size (by assumption)) _)
        (first
         | ((refine zIu (base:=wz.heap.size) (M:=(zEG X).take j) rfl (.const (H U 0 0)) (.tmp 44) (by rfl) (by rfl) (by rfl) (by rfl) (Own.nil _ _) ((hiz.to (by omega)).below (by assumption)) j (by omega) (by omega) (Below.size (by assumption)) ?_;intro A2 c2 w2 hown2 ab bG iB))
         | ((refine zIu (base:=wz.heap.size) (M:=[(k:Int)]) rfl (.tmp 45) (.tmp 47) (by rfl) (by rfl) (by rfl) (by rfl) (by repeat (first | with_reducible exact hown2 | with_reducible apply Own.drew | with_reducible apply Own.alloc)) (by repeat (first | with_reducible apply Ints.drewD | ((with_reducible refine Ints.oneG ww.out ?_ ?_ ?_ ?_);rfl;rfl;rfl;focus (simp;done)) | with_reducible apply Ints.alloc | ((with_reducible refine Ints.growG bG ?_ ?_);focus (intro a ha;cases ha;first | (simp [blk];done) | (simp [blk];omega))))) (j+1) (by omega) (by omega) (Below.size (by assumption)) ?_;intro A3 c3 w3 hown3 ac dL gD))
         | ((refine zIu (base:=wz.heap.size) (M:=(zEG X).drop j) rfl (.tmp 48) (.tmp 51) (by rfl) (by rfl) (by rfl) (by rfl) (by repeat (first | with_reducible exact hown3 | with_reducible apply Own.drew | with_reducible apply Own.alloc)) ((hiz.from (c:=c1) (by omega) hcapz).below (by assumption)) (m+1) (by omega) (by omega) (Below.size (by assumption)) ?_;intro A4 c4 w4 hown4 aj dF ta)))
       all_goals
        have hbf:=hbb.more (show Below wz.heap.size wz _ by assumption);clear ab ac aj bG dL dF iB gD ta hown2 hown3 hownz hiz hbb;go_wp2_with fail
        go_roundw
        case rel=>exact ⟨k+1,m+1,X.take j++[k]++X.drop j,A4,c4,by omega,by omega,by go_num,rfl,by simpa [zEG,List.map_take,List.map_drop] using hown4.mono hszz,hbf,HI⟩
        case measure=>simp [intOf];omega
   ·have hs:=qH (show X=zJY L (k+1) by rw [HX.out];show zJY L k=if isP (la L k) then _ else _;rw [zGB hp];rfl);have ik:((la L k).kind != 1)=Q:=by simpa using hp
    clear HX;go_wp2_with fail
    go_roundw
    case rel=>exact ⟨k+1,m,X,A1,c1,by omega,by omega,by go_num,rfl,hown,hb,hs⟩
    case measure=>simp [intOf];omega
  ·have hkn:k=n:=by omega
   subst hkn;have hX:X=axL L:=by rw [HX.out];unfold axL;rw [HL.out]
   have sU:m=(axL L).length:=by rw [←hX,←zFb,hown.len]
   subst sU;rw [hX] at hown;clear hX HX;go_wp2_with fail
   go_ret;exact ⟨_,_,rfl,hown.mono (by omega),hb.below⟩
set_option maxRecDepth 100000 in
set_option maxHeartbeats 1600000 in
theorem zJH (K:Int) (d:Nat) (A B:Option Addr) (n c m cb:Nat) (L:List Lt) (w:World) (hA:Lets w A n L) (g:Good K L) (hB:Ints w B m (zEG (axL L))) (hd:d < zBS L) (hge:2*n≤d) :
  Calls Tryz.prog 172 #[.agg #[D J K,H A n c],H B m cb,D J d] w fun e w'=>e=.returned (D J (zAG L (axL L) d))∧Below w.heap.size w w':=by
 have hle:=hA.le;have HL:=qH hA.len;have hlenm:=hB.len;rw [zFb] at hlenm;have hbx:=Boxed.refl w K A n c;have hbc:=hbx.below;have hmp:=g.m_pos;have zu:=hB.below hbc;have hlem:=hB.le;unfold zBS at hd;rw [hlenm] at hd hmp;have aA:L.length=n:=HL.out;rw [aA] at hd;rcases Nat.mod_two_eq_zero_or_one d with h2 | h2
 ·obtain ⟨j,hj⟩:∃j,d=2*n+2*j:=⟨(d-2*n) / 2,by omega⟩
  have hjm:j < m:=by omega
  obtain ⟨t,ht⟩:∃t,t=(j+1) % m:=⟨_,rfl⟩
  have htm:t < m:=by rw [ht];exact Nat.mod_lt _ hmp
  have hx:=zEK (L:=L) (j:=t) (by rw [hlenm];exact htm);obtain ⟨v,hv⟩:∃v,v=xat (axL L) t:=⟨_,rfl⟩
  obtain ⟨ad,y,rfl,hy,_,_,hcy⟩:=zu.at_ htm;have hyv:y=(v:Int):=by
   have h1:=hy.out;rw [zDJ (by rw [hlenm];exact htm)] at h1;rw [hv];exact (Option.some.inj h1).symm
  subst hyv;have hvn:v < n:=by rw [hv,←aA];exact hx.2
  have hf:=qH (show zAG L (axL L) d=zBx n v (!dwn L v) by
   unfold zAG
   rw [aA,hlenm,if_pos hge,if_pos h2,show (d-2*n) / 2=j by omega,←ht,←hv])
  have q1:((d:Int)-2*(n:Int)) / 2=(j:Int):=by omega
  have q2:((d:Int) % 2==0)=Q:=by simp;omega
  have q3:((j:Int)+1) % (m:Int)=(t:Int):=by rw [ht];simp
  have q4:(0:Int)≤(t:Int):=by omega
  have q5:(t:Int) < (m:Int):=by omega
  have q6:(2:Int)*(n:Int)≤(d:Int):=by omega
  clear hy ht hv hj h2 aA hlenm hx;go_enter Tryz.func172,Tryz.ntmps172;go_wp2_with fail
  go_region_held3 (fun wx=>Boxed w wx K A n c∧wx.cell? ⟨w.heap.size,0,U⟩=Z (D J K)∧wx.cell? ⟨w.heap.size,1,U⟩=Z (H A n c))
   (first | exact hbx.drew.s | exact Boxed.s (Boxed.more (And.left (by assumption)) (by assumption)))
   (first
    | (go_at_call 192;refine (zGK K v A n c L _ (hA.below (Boxed.below (And.left (by assumption)))) (by omega)).mono ?_;rintro e wx ⟨rfl,ah⟩)
    | (go_at_call 194;refine (zHh K v _ A n c _ hvn hle).mono ?_;rintro e wy ⟨rfl,ab⟩))
  all_goals
   go_wp2_with fail
   go_ret;exact ⟨zAu (by rw [hf.out]),Boxed.below (And.left (by assumption))⟩
 ·obtain ⟨j,hj⟩:∃j,d=2*n+2*j+1:=⟨(d-2*n) / 2,by omega⟩
  have hjm:j < m:=by omega
  have hx:=zEK (L:=L) (j:=j) (by rw [hlenm];exact hjm);obtain ⟨v,hv⟩:∃v,v=xat (axL L) j:=⟨_,rfl⟩
  obtain ⟨ad,y,rfl,hy,_,_,hcy⟩:=zu.at_ hjm;have hyv:y=(v:Int):=by
   have h1:=hy.out;rw [zDJ (by rw [hlenm];exact hjm)] at h1;rw [hv];exact (Option.some.inj h1).symm
  subst hyv;have hvn:v < n:=by rw [hv,←aA];exact hx.2
  have hf:=qH (show zAG L (axL L) d=zBx n v (dwn L v) by
   unfold zAG
   rw [aA,if_pos hge,if_neg (by omega),show (d-2*n) / 2=j by omega,←hv])
  have q1:((d:Int)-2*(n:Int)) / 2=(j:Int):=by omega
  have q2:((d:Int) % 2==0)=E:=by simp;omega
  have q4:(0:Int)≤(j:Int):=by omega
  have q5:(j:Int) < (m:Int):=by omega
  have q6:(2:Int)*(n:Int)≤(d:Int):=by omega
  clear hy hv hj h2 aA hlenm hx;go_enter Tryz.func172,Tryz.ntmps172;go_wp2_with fail
  go_region_held3 (fun wx=>Boxed w wx K A n c∧wx.cell? ⟨w.heap.size,0,U⟩=Z (D J K)∧wx.cell? ⟨w.heap.size,1,U⟩=Z (H A n c))
   (first | exact hbx.drew.s | exact Boxed.s (Boxed.more (And.left (by assumption)) (by assumption)))
   (first
    | (go_at_call 192;refine (zGK K v A n c L _ (hA.below (Boxed.below (And.left (by assumption)))) (by omega)).mono ?_;rintro e wx ⟨rfl,ah⟩)
    | (go_at_call 194;refine (zHh K v _ A n c _ hvn hle).mono ?_;rintro e wy ⟨rfl,ab⟩))
  all_goals
   go_wp2_with fail
   go_ret;exact ⟨zAu (by rw [hf.out]),Boxed.below (And.left (by assumption))⟩
theorem zEs {d n v:Nat} (hd:d < 2*n) (hv:v=zBC n d):∃e:Nat,(d:Int) / 2=(e:Int)∧v < n∧((d % 2=0∧((e:Int)+1) % (n:Int)=(v:Int))∨(d % 2=1∧v=e)):=by
 refine ⟨d / 2,by omega,by rw [hv];exact zGL hd,?_⟩;unfold zBC at hv;rcases Nat.mod_two_eq_zero_or_one d with h | h
 ·rw [if_pos h] at hv;exact .inl ⟨h,by rw [hv];simp⟩
 ·rw [if_neg (by omega)] at hv;exact .inr ⟨h,hv⟩
theorem zSl {X:List Nat} {v:Nat} (h:v∈X):atI (zEG X) (v:Int)=(zTW X v:Nat):=by
 unfold atI zTW zEG;rw [if_pos (List.mem_map.2 ⟨v,h,rfl⟩),List.findIdx_map]
 congr 1
 congr 1
 funext x
 simp only [Function.comp];rw [Bool.eq_iff_iff];simp;omega
set_option maxRecDepth 100000 in
set_option maxHeartbeats 3200000 in
theorem zIk (K:Int) (d:Nat) (A B:Option Addr) (n c m cb:Nat) (L:List Lt) (w:World) (hA:Lets w A n L) (g:Good K L) (hB:Ints w B m (zEG (axL L))) (hlt:d < 2*n) (hc:isC (la L (zBC n d))=Q) :
  Calls Tryz.prog 172 #[.agg #[D J K,H A n c],H B m cb,D J d] w fun e w'=>e=.returned (D J (zAG L (axL L) d))∧Below w.heap.size w w':=by
 have hle:=hA.le;have aA:L.length=n:=hA.len;have hbx:=Boxed.refl w K A n c;have fF:=hA.below hbx.below;have hlem:=hB.le;obtain ⟨v,hv⟩:∃v,v=zBC n d:=⟨_,rfl⟩
 obtain ⟨e,he,hvn,hcase⟩:=zEs hlt hv;rw [←hv] at hc;have hov:zGA L v < n:=by rw [←aA];exact zEC (g.other hc).2.1
 have hf:=g.left_cross (d:=d) (by omega) (by rw [aA,←hv];exact hc);rw [aA,←hv] at hf;have hk:(la L v).kind=2:=by unfold isC at hc;simpa using hc
 obtain ⟨gg,o,rfl,_,hx,_⟩:=fF.at_ hvn;obtain ⟨x0,x1,x2,x3,x4,x5⟩:=hx;have q0:decide ((2:Int)*(n:Int)≤(d:Int))=E:=by simp;omega
 have q6:((la L v).kind==2)=Q:=by simpa using hk
 have v0:(0:Int)≤(v:Int):=by omega
 have v1:(v:Int) < (n:Int):=by omega
 clear hv hc hk
 cases hX:((la L v).over==((la L v).sign==1))<;>rcases hcase with ⟨hp,hq⟩ | ⟨hp,hq⟩
 all_goals
  rw [hX] at hf
  first
   | (have q2:((d:Int) % 2==0)=Q:=(by simp;omega)
      have eH:(d % 2==0)=Q:=(by simp;omega)
      rw [eH] at hf
      clear eH)
   | (have q2:((d:Int) % 2==0)=E:=(by simp;omega)
      have eH:(d % 2==0)=E:=(by simp;omega)
      rw [eH] at hf
      clear eH
      subst hq)
  have HF:=qH hf;clear hf hp;go_enter Tryz.func172,Tryz.ntmps172;go_wp2_with fail
  try rw [hq]
  try clear hq
  go_region_held3 (fun wx=>Boxed w wx K (Z ⟨gg,o,U⟩) n c∧wx.cell? ⟨w.heap.size,0,U⟩=Z (D J K)∧wx.cell? ⟨w.heap.size,1,U⟩=Z (H (Z ⟨gg,o,U⟩) n c))
   (first | exact (hbx.alloc _).drew.s | exact Boxed.s (Boxed.more (And.left (by assumption)) (by assumption)))
   (first
    | (go_at_call 195;refine (zOJ K v (Z ⟨gg,o,U⟩) n c L _ (hA.below (Boxed.below (And.left (by assumption)))) hvn).mono ?_;rintro e wx ⟨rfl,ah⟩)
    | (go_at_call 194;refine (zHh K (zGA L v) _ (Z ⟨gg,o,U⟩) n c _ hov hle).mono ?_;rintro e wy ⟨rfl,ab⟩))
  all_goals
   go_wp2_with fail
   go_ret;exact ⟨zAu (by rw [HF.out];rfl),Boxed.below (And.left (by assumption))⟩
set_option maxRecDepth 100000 in
set_option maxHeartbeats 3200000 in
theorem zJI (K:Int) (d:Nat) (A B:Option Addr) (n c m cb:Nat) (L:List Lt) (w:World) (hA:Lets w A n L) (g:Good K L) (hB:Ints w B m (zEG (axL L))) (hlt:d < 2*n) (hc:isP (la L (zBC n d))=Q) :
  Calls Tryz.prog 172 #[.agg #[D J K,H A n c],H B m cb,D J d] w fun e w'=>e=.returned (D J (zAG L (axL L) d))∧Below w.heap.size w w':=by
 have hle:=hA.le;have aA:L.length=n:=hA.len;have hbx:=Boxed.refl w K A n c;have fF:=hA.below hbx.below;have zu:=hB.below hbx.below;have hlem:=hB.le;have hlenm:=hB.len;rw [zFb] at hlenm;have hmp:=g.m_pos;rw [hlenm] at hmp;obtain ⟨v,hv⟩:∃v,v=zBC n d:=⟨_,rfl⟩
 obtain ⟨e,he,hvn,hcase⟩:=zEs hlt hv;rw [←hv] at hc;have hf:=g.left_pass (d:=d) (by omega) (by rw [aA,←hv];exact hc);rw [aA,←hv,hlenm] at hf;obtain ⟨j,hj⟩:∃j,j=atN L v:=⟨_,rfl⟩
 have hjm:j < m:=by rw [hj,←hlenm];exact g.at_lt hc
 have hat:=zSl (X:=axL L) (v:=v) (List.mem_of_getElem? (g.at_ hc));rw [g.idx hc,←hj] at hat;rw [←hj] at hf;obtain ⟨t,ht⟩:∃t,t=(j+m-1) % m:=⟨_,rfl⟩
 have htm:t < m:=by rw [ht];exact Nat.mod_lt _ hmp
 rw [←ht] at hf;have q9:((j:Int)+(m:Int)-1) % (m:Int)=(t:Int):=by
  rw [ht,Int.natCast_emod]
  congr 1
  omega
 have hk:(la L v).kind=1:=by unfold isP at hc;simpa using hc
 obtain ⟨gg,o,rfl,_,hx,_⟩:=fF.at_ hvn;obtain ⟨x0,x1,x2,x3,x4,x5⟩:=hx;have q0:decide ((2:Int)*(n:Int)≤(d:Int))=E:=by simp;omega
 have q6:((la L v).kind==2)=E:=by simp;omega
 have v0:(0:Int)≤(v:Int):=by omega
 have v1:(v:Int) < (n:Int):=by omega
 have Ai:=qH hat;have hvle:v≤n:=by omega
 clear hv hc hk hat hj ht hlenm aA
 cases hX:dwn L v<;>rcases hcase with ⟨hp,hq⟩ | ⟨hp,hq⟩
 all_goals
  rw [hX] at hf;have HX:=qH hX;clear hX
  first
   | (have q2:((d:Int) % 2==0)=Q:=(by simp;omega)
      have eH:(d % 2==0)=Q:=(by simp;omega)
      rw [eH] at hf
      clear eH)
   | (have q2:((d:Int) % 2==0)=E:=(by simp;omega)
      have eH:(d % 2==0)=E:=(by simp;omega)
      rw [eH] at hf
      clear eH
      subst hq)
  have HF:=qH hf;clear hf hp;go_enter Tryz.func172,Tryz.ntmps172;go_wp2_with fail
  try rw [hq]
  try clear hq
  refine (zVO B m cb (zEG (axL L)) _ _ (zu.alloc _)).mono ?_;rintro e1 w1 ⟨rfl,rfl⟩;rw [Ai.out];go_wp2_with fail
  try rw [hq]
  try clear hq
  refine (zGK K v (Z ⟨gg,o,U⟩) n c L _ (fF.alloc _) hvle).mono ?_;rintro e2 w2 ⟨rfl,ab⟩;rw [HX.out];go_wp2_with fail
  go_ret;exact ⟨zAu (by rw [HF.out];simp),(hbx.alloc _).below.trans (ab.mono (by simp;omega))⟩
theorem zSm (K:Int) (d:Nat) (A B:Option Addr) (n c m cb:Nat) (L:List Lt) (w:World) (hA:Lets w A n L) (g:Good K L) (hB:Ints w B m (zEG (axL L))) (hd:d < zBS L) :
  Calls Tryz.prog 172 #[.agg #[D J K,H A n c],H B m cb,D J d] w fun e w'=>e=.returned (D J (zAG L (axL L) d))∧Below w.heap.size w w':=by
 rcases Nat.lt_or_ge d (2*n) with h | h
 ·rcases g.kinds (zBC n d) (by rw [hA.len];exact zGL h) with hp | hc
  ·exact zJI K d A B n c m cb L w hA g hB h hp
  ·exact zIk K d A B n c m cb L w hA g hB h hc
 ·exact zJH K d A B n c m cb L w hA g hB hd h
set_option maxRecDepth 100000 in
set_option maxHeartbeats 3200000 in
theorem zJJ (d base p k:Nat) (A:Option Addr) (n c:Nat) (L:List Lt) (b g2 g3 g4 g6:Nat) (s:List Bool) (P C ids:List Int) (w:World) (h:DiaF w base p k A n c L b g2 g3 g4 g6 s P C ids) (hlt:d < 2*n) (hc:isP (la L (zBC n d))=Q) :
  Calls Tryz.prog 200 #[.pointer (Z ⟨p,0,U⟩),D J d] w fun e w'=>e=.returned (D J (zAG L (axL L) d))∧Below w.heap.size w w':=by
 have hn:=h.small;have hA:=h.lets;have g:=h.good;have aA:L.length=n:=hA.len;have hmp:=g.m_pos;have hml:(axL L).length≤n:=by rw [zEJ,←aA];exact zIe L _
 have hD:=h.ranks.dia;have c1:=hD.c1;have c3:=hD.c3;obtain ⟨m,hm⟩:∃m,m=(axL L).length:=⟨_,rfl⟩
 rw [←hm] at hmp hml c3;obtain ⟨v,hv⟩:∃v,v=zBC n d:=⟨_,rfl⟩
 obtain ⟨e,he,hvn,hcase⟩:=zEs hlt hv;rw [←hv] at hc;have hf:=g.left_pass (d:=d) (by omega) (by rw [aA,←hv];exact hc);rw [aA,←hv,←hm] at hf;obtain ⟨j,hj⟩:∃j,j=atN L v:=⟨_,rfl⟩
 have hjm:j < m:=by rw [hj,hm];exact g.at_lt hc
 rw [←hj] at hf;obtain ⟨t,ht⟩:∃t,t=(j+m-1) % m:=⟨_,rfl⟩
 have htm:t < m:=by rw [ht];exact Nat.mod_lt _ hmp
 rw [←ht] at hf;have q9:((j:Int)-1+(m:Int)) % (m:Int)=(t:Int):=by
  rw [ht,Int.natCast_emod]
  congr 1
  omega
 have q9b:((j:Int)-1) % (m:Int)=(t:Int):=by rw [←q9];simp
 have hk:(la L v).kind=1:=by unfold isP at hc;simpa using hc
 have cs:=h.ranks.down.cell hvn;rw [h.ranks.downs v hc] at cs;have cp:=h.ranks.place.cell (h.ranks.places v hc);rw [←hj] at cp;obtain ⟨gg,o,rfl,hgl,hx,_⟩:=hA.at_ hvn;obtain ⟨x0,x1,x2,x3,x4,x5⟩:=hx;have q0:decide ((2:Int)*(n:Int)≤(d:Int))=E:=by simp;omega
 have q6:((la L v).kind==1)=Q:=by simpa using hk
 have v0:(0:Int)≤(v:Int):=by omega
 have v1:(v:Int) < (n:Int):=by omega
 have l0:=hD.lt;have l1:=h.ranks.down.lt;have l2:=h.ranks.place.lt;have mD:=qH hD;clear hv hc hk hj ht hm aA hD q9
 cases hX:dwn L v<;>rcases hcase with ⟨hp,hq⟩ | ⟨hp,hq⟩
 all_goals
  rw [hX] at hf cs;clear hX
  first
   | (have q2:((d:Int) % 2==0)=Q:=(by simp;omega)
      have eH:(d % 2==0)=Q:=(by simp;omega)
      rw [eH] at hf
      clear eH)
   | (have q2:((d:Int) % 2==0)=E:=(by simp;omega)
      have eH:(d % 2==0)=E:=(by simp;omega)
      rw [eH] at hf
      clear eH
      subst hq)
  have HF:=qH hf;clear hf hp;go_enter Tryz.func200,Tryz.ntmps200;go_wp2_with fail
  go_quiet (fail)
  generalize hwx:w.drewN nq=wx;have hbx:Below w.heap.size w wx:=by rw [←hwx];exact zAe (Below.refl _ _) _
  have y1:=(mD.out.next hbx).c1;have y2:=(mD.out.next hbx).c2;have y4:=(mD.out.next hbx).c4;have ys:=(hbx.cell (World.block_lt_of_cell? w _ cs)).trans cs;have yp:=(hbx.cell (World.block_lt_of_cell? w _ cp)).trans cp;have z0:=(hbx.cell (World.block_lt_of_cell? w _ x0)).trans x0;have z1:=(hbx.cell (World.block_lt_of_cell? w _ x1)).trans x1;have z2:=(hbx.cell (World.block_lt_of_cell? w _ x2)).trans x2;have z3:=(hbx.cell (World.block_lt_of_cell? w _ x3)).trans x3;have z4:=(hbx.cell (World.block_lt_of_cell? w _ x4)).trans x4;have z5:=(hbx.cell (World.block_lt_of_cell? w _ x5)).trans x5;have hzz:=hbx.size;have m0:p < wx.heap.size:=by omega
  have m1:g2 < wx.heap.size:=by omega
  have m2:g4 < wx.heap.size:=by omega
  clear hwx c1 c3 cs cp x0 x1 x2 x3 x4 x5;go_wp2_with fail
  go_ret;exact ⟨zAu (by rw [HF.out];simp),zAa hbx ((Below.refl _ _).alloc (Nat.le_refl _) _) hbx.size⟩
theorem KMap.lookNo {P:Program} {w:World} {k:TypeId} {b:Nat} {kv:List (Value×Value)} (h:KMap w P k b kv) (K:Go.Maps.Keyed P k) {t e:TypeId} (ht:P.underlying t=Z (.map k e)) {z:Value} (hz:∀w,(zeroValue e).run P w=.ok z w) {key v:Value} {l:Lit} (hkey:keyOf P k key=Z l) (hone:∃j:Nat,kv[j]? = Z (key,v)) (huniq:∀(i j:Nat) (u u':Value),kv[i]? = Z (key,u)→kv[j]? = Z (key,u')→u=u') :
  (Instr.lookup t (.map (Z b)) key E).run P w=.ok v w:=by
 rcases h.look K ht (hz w) hkey with ⟨_,h2⟩ | ⟨j,u,h1,h2⟩
 ·obtain ⟨j,hj⟩:=hone;exact absurd rfl (h2 _ (List.mem_of_getElem? hj))
 ·obtain ⟨j',Bo⟩:=hone;rw [h1,huniq j j' u v h2 Bo]
theorem Vis.get {w:World} {b n:Nat} {L:List Lt} {ids:List Int} (h:Vis w b L n ids) {d:Int} (hd:I64 d) (ht:0 < tN L d n) :
  (Instr.lookup 146 (.map (Z b)) (D J d) E).run Tryz.prog w=.ok (.agg #[D J (zAt L d E n),D J (zAt L d Q n)]) w:=by
 obtain ⟨l,hl⟩:=zPU d hd;obtain ⟨j,hj,hje⟩:=List.getElem_of_mem ((h.mem d).2 ht);refine h.map.lookNo zGV Tryz.underlying146 zMP hl ⟨j,by rw [List.getElem?_map,List.getElem?_eq_getElem hj,hje];rfl⟩ (fun i j u u' hi hj=>?_);rw [List.getElem?_map] at hi hj;obtain ⟨d1,e1,f1⟩:=Option.map_eq_some_iff.1 hi;obtain ⟨d2,e2,f2⟩:=Option.map_eq_some_iff.1 hj;simp only [ent,Prod.mk.injEq,Value.int.injEq,true_and] at f1 f2;obtain ⟨rfl,rfl⟩:=f1;obtain ⟨rfl,rfl⟩:=f2;rfl
end Go.Proofs.YtlmdfmnbcndhoaaGreatDoor
