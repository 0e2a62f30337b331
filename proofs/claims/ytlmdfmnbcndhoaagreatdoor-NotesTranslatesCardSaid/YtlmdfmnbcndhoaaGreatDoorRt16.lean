/-
  Lemmas. Conditions: each one's own.
-/
import Derived.Test.YtlmdfmnbcndhoaaGreatDoorRt15
import Derived.BigRegion
import Derived.Maps.OwnOps
import Derived.DeepKeys4
import Derived.Maps.OwnSet
open Go.RowKit
set_option maxHeartbeats 6400000
set_option maxRecDepth 100000
open Go renaming World->ZY
open Go.Value renaming bool->G,int->D,slice->H
open Option renaming none->U,some->Z
open Bool renaming false->E,true->Q
open Go.IntKind renaming i64->J
open Go.Proofs.Tryz renaming prog->ZX
open Nat renaming le_refl->O
open Go.RowKit renaming Below->ZZ
open Go.RowKit.Below renaming refl->M
namespace Go.Proofs.YtlmdfmnbcndhoaaGreatDoor
structure DiaR (w:ZY) (base p:Nat) (k:Nat) (A:Option Addr) (n c:Nat) (L:List Lt) (v5:Value) (g2 g3 g4 g6:Nat) (s:List Bool) (P C:List Int):Prop where
 dia:Dia w p (k:Int) A n c (H (Z ⟨g2,0,U⟩) n n) (.slice (Z ⟨g3,0,U⟩) (axL L).length (axL L).length) (H (Z ⟨g4,0,U⟩) n n) v5 (H (Z ⟨g6,0,U⟩) (k+1) (k+1))
 down:OwnB w base g2 n s
 axis:OwnI w base g3 (axL L).length (zWi (axL L))
 place:OwnI w base g4 n P
 count:OwnI w base g6 (k+1) C
 downs:∀i,isP (la L i)=Q->sat s i=dwn L i
 places:∀i,isP (la L i)=Q->P[i]? = Z ((atN L i:Nat):Int)
 counts:∀g:Nat,g<=k->C[g]? = Z ((gN L (g:Int) n:Nat):Int)
 ndown:∀i,i < n->isP (la L i)=E->sat s i=E
section
variable {w:ZY} {p:Nat} {K:Int} {A:Option Addr} {n c:Nat} {v2 v3 v4 v5 v6:Value}
theorem Dia.set2 (h:Dia w p K A n c v2 v3 v4 v5 v6) (u:Value):Dia (w.setCell ⟨p,2,U⟩ u) p K A n c u v3 v4 v5 v6:=Blk.set_ h 2 u
theorem Dia.set3 (h:Dia w p K A n c v2 v3 v4 v5 v6) (u:Value):Dia (w.setCell ⟨p,3,U⟩ u) p K A n c v2 u v4 v5 v6:=Blk.set_ h 3 u
theorem Dia.set4 (h:Dia w p K A n c v2 v3 v4 v5 v6) (u:Value):Dia (w.setCell ⟨p,4,U⟩ u) p K A n c v2 v3 u v5 v6:=Blk.set_ h 4 u
theorem Dia.set5 (h:Dia w p K A n c v2 v3 v4 v5 v6) (u:Value):Dia (w.setCell ⟨p,5,U⟩ u) p K A n c v2 v3 v4 u v6:=Blk.set_ h 5 u
theorem Dia.set6 (h:Dia w p K A n c v2 v3 v4 v5 v6) (u:Value):Dia (w.setCell ⟨p,6,U⟩ u) p K A n c v2 v3 v4 v5 u:=Blk.set_ h 6 u
theorem Dia.alloc (h:Dia w p K A n c v2 v3 v4 v5 v6) (o:Obj):Dia (w.alloc o) p K A n c v2 v3 v4 v5 v6:=Blk.alloc h o
theorem Dia.drew (h:Dia w p K A n c v2 v3 v4 v5 v6):Dia w.drew p K A n c v2 v3 v4 v5 v6:=h
theorem Dia.far (h:Dia w p K A n c v2 v3 v4 v5 v6) {q:Addr} (hq:p≠q.block) (u:Value):Dia (w.setCell q u) p K A n c v2 v3 v4 v5 v6:=Blk.far h hq u
end
def zQm (w:ZY) (p k:Nat) (A:Option Addr) (n c:Nat) (L:List Lt) (v5:Value) (e:Ending) (w':ZY):Prop :=
 e=.returned (G (zCw L))/\w.grownBy w' (Z p)/\(zCw L=Q->∃g2 g3 g4 g6 s P C,DiaR w' w.heap.size p k A n c L v5 g2 g3 g4 g6 s P C)
theorem Lets.growG {w w':ZY} {n:Nat} {L:List Lt} {row:Option Nat} {A:Option Addr} (hg:w.grownBy w' row) (hne:∀a,A=Z a->row≠Z a.block) (h:Lets w A n L):Lets w' A n L :=
 ⟨h.1,h.2.1,h.2.2.1,fun hn=>by
  obtain ⟨g,o,e,hb,hc⟩:=h.2.2.2 hn
  refine ⟨g,o,e,Nat.lt_of_lt_of_le hb hg.size,fun j x hx=>(hc j x hx).keep fun q hq=>?_⟩
  exact World.cell?_of_block (hg.block _ (by rw [hq];exact hb) (by rw [hq];exact fun h=>hne _ e h.symm))⟩
theorem zEP {K:Int} {L:List Lt} {n i:Nat} (hL:L.length=n) (h:zAE K L=Q) (hi:i < n) (hp:isP (la L i)=Q):0<=(la L i).gate/\(la L i).gate<=K:=by
 unfold zAE at h;rw [zAL] at h;have:=h i (by omega);unfold lpB at this;rw [qP (by unfold isP at hp;simpa using hp)] at this;simp only [decide_eq_true_eq] at this;exact ⟨this.1,this.2.1⟩
theorem zVm {L:List Lt} {g γ:Int} {i:Nat} (hp:isP (la L i)=Q) (hg:(la L i).gate=γ):gN L g (i+1)=gN L g i+(if γ=g then 1 else 0):=by
 unfold gN;by_cases h:γ=g
 ·rw [zAY (by rw [hp,hg];simp [h]),qP h]
 ·rw [zAG (by rw [hp,hg];simp [h]),qN h];rfl
theorem zVn {L:List Lt} {g:Int} {i:Nat} (hp:isP (la L i)=E):gN L g (i+1)=gN L g i:=zAG (by rw [hp];rfl)
theorem zSq {L:List Lt} {i:Nat} (hp:isP (la L i)=Q):dwn L (i+1) = !dwn L i:=by
 have h:pN L (i+1)=pN L i+1:=zAY hp;unfold dwn;rw [h,Bool.eq_iff_iff];simp;omega
theorem zSr {L:List Lt} {i:Nat} (hp:isP (la L i)=E):dwn L (i+1)=dwn L i:=by
 have h:pN L (i+1)=pN L i:=zAG hp;unfold dwn;rw [h]
theorem zQn {k:Nat} {L:List Lt} {n:Nat} (hL:L.length=n) (h:zAE (k:Int) L=Q):fsN L (k+1)=pN L n:=by
 unfold fsN pN
 rw [zEh (p:=fun i=>isP (la L i)) (c:=fun i=>(la L i).gate.toNat) (n:=n) (k:=k+1) (by
  intro m hm hp
  have:=zEP hL h hm hp
  omega),hL]
 refine zEg fun d _=>zEY fun m hm=>?_
 cases hp:isP (la L m) with
 | false=>rfl
 | true =>
  have:=zEP hL h hm hp;simp only [Bool.true_and];rw [Bool.eq_iff_iff];simp;omega
theorem zWV {k:Nat} {L:List Lt} {n:Nat} (hL:L.length=n) (h:zAE (k:Int) L=Q) {t:Nat} (ht:t<=k+1):fsN L t<=n:=by
 have h1:=zQn hL h;have h2:=zNF L n;rcases Nat.lt_or_ge t (k+1) with hl | hl
 ·have:=zGJ L hl;omega
 ·have:t=k+1:=by omega
  subst this;omega
theorem zWW {L:List Lt} {n i j:Nat} (hL:L.length=n) (hgi:0<=(la L i).gate) (hgj:0<=(la L j).gate) (hi:1<=(la L i).rank/\(la L i).rank<=(gN L (la L i).gate n:Int)) (hj:1<=(la L j).rank/\(la L j).rank<=(gN L (la L j).gate n:Int)) (h:atN L i=atN L j) :
  (la L i).gate=(la L j).gate/\(la L i).rank=(la L j).rank:=by
 unfold atN at h;rw [<-hL] at hi hj;rcases Int.lt_trichotomy (la L i).gate (la L j).gate with hl | he | hl
 ·have:=zGJ L (a:=(la L i).gate.toNat) (b:=(la L j).gate.toNat) (by omega);rw [show (((la L i).gate.toNat:Nat):Int)=(la L i).gate by omega] at this;omega
 ·rw [he] at h;omega
 ·have:=zGJ L (a:=(la L j).gate.toNat) (b:=(la L i).gate.toNat) (by omega);rw [show (((la L j).gate.toNat:Nat):Int)=(la L j).gate by omega] at this;omega
theorem zHM {L:List Lt} {n i:Nat} (hL:L.length=n) (hi:i < n) (h:rkB L i=E):zCw L=E:=by
 unfold zCw;rw [hL];exact zEX hi h
theorem zBF {a b:ZY} {row:Option Nat} (h:a.grownBy b row) (k:Nat):a.grownBy (b.drewN k) row:=⟨h.os,h.tape,h.output,h.size,h.block⟩
section
variable {w:ZY} {p:Nat} {K:Int} {A:Option Addr} {n c:Nat} {v2 v3 v4 v5 v6:Value} {base g:Nat} {L:List Int} {s:List Bool}
theorem Dia.drewN (h:Dia w p K A n c v2 v3 v4 v5 v6) (k:Nat):Dia (w.drewN k) p K A n c v2 v3 v4 v5 v6:=h
theorem Dia.farG {q:Addr} {u:Value} (hq:p≠q.block) (h:Dia w p K A n c v2 v3 v4 v5 v6):Dia (w.setCell q u) p K A n c v2 v3 v4 v5 v6:=Blk.far h hq u
theorem OwnI.farG {q:Addr} {u:Value} (hq:g≠q.block) (h:OwnI w base g n L):OwnI (w.setCell q u) base g n L:=h.far hq u
theorem OwnB.farG {q:Addr} {u:Value} (hq:g≠q.block) (h:OwnB w base g n s):OwnB (w.setCell q u) base g n s:=h.far hq u
theorem OwnI.storedG {k:Nat} {x:Int} (h:OwnI w base g n L):OwnI (w.setCell ⟨g,k,U⟩ (D J x)) base g n (L.set k x):=h.stored k x
theorem OwnB.storedG {k:Nat} {x:Bool} (h:OwnB w base g n s):OwnB (w.setCell ⟨g,k,U⟩ (G x)) base g n (s.set k x):=h.stored k x
theorem zQo {a b:ZY} {q:Addr} {u:Value} (hq:q.block=p∨a.heap.size<=q.block) (h:a.grownBy b (Z p)):a.grownBy (b.setCell q u) (Z p):=zAk h hq u
end
theorem zVo (L:List Lt) (g:Int) (k:Nat):gN L g k<=k:=zCS _ _
theorem zKT (p k:Nat) (A:Option Addr) (n c:Nat) (L:List Lt) (v2 v3 v4 v5 v6:Value) (w:ZY) (hA:Lets w A n L) (hn:n<=400) (kU:k<=40) (hl:zAE (k:Int) L=Q)
  (iF:∀a,A=Z a->p≠a.block) (hd:Dia w p (k:Int) A n c v2 v3 v4 v5 v6) :
  Calls ZX 177 #[.pointer (Z ⟨p,0,U⟩)] w (zQm w p k A n c L v5):=by
 have HL:=qH hA.len;have lB:=qH hl;clear hl;have hc0:=hd.c0;have hplt:=hd.lt;have aq:k+1<=17592186044416:=by omega
 have mU:n<=17592186044416:=by omega
 go_enter Tryz.func177,Tryz.ntmps177
 go_wp2_with (first
  | (at_make;refine zIs rfl _ _ rfl (k+1) _ rfl rfl (by omega) aq (O _) ?_;intro wa hcnt hba hza
     have hda:=(hd.next hba)
     have a0:=hda.c0
     have a1:=hda.c1
     have a6:=hda.c6
     have af:=hda.frozen 6
     have hdb:=hda.set6 (H (Z ⟨w.heap.size,0,U⟩) (k+1) (k+1))
     have hcb:=hcnt.far (p:=⟨p,6,U⟩) (by simp;omega) (H (Z ⟨w.heap.size,0,U⟩) (k+1) (k+1))
     have gb:=zAk (zDk hba (Z p)) (p:=⟨p,6,U⟩) (.inl rfl) (H (Z ⟨w.heap.size,0,U⟩) (k+1) (k+1)))
  | (at_make;refine zPa rfl _ _ rfl n _ rfl rfl (by omega) mU (O _) ?_;intro wc hdn hbc hzc
     have hzb:(wa.setCell ⟨p,6,U⟩ (H (Z ⟨w.heap.size,0,U⟩) (k+1) (k+1))).heap.size=w.heap.size+1:=by simp [hza]
     rw [hzb] at hdn hbc hzc
     have hdc:=hdb.below hbc (by omega)
     have hcc:=hcb.below hbc (by omega)
     have gc:=zAq gb hbc (by omega)
     have c1:=hdc.c1
     have c2:=hdc.c2
     have cf:=hdc.frozen 2
     have hdd:=hdc.set2 (H (Z ⟨w.heap.size+1,0,U⟩) n n)
     have hcd:=hcc.far (p:=⟨p,2,U⟩) (by simp;omega) (H (Z ⟨w.heap.size+1,0,U⟩) n n)
     have hnd:=hdn.far (p:=⟨p,2,U⟩) (by simp;omega) (H (Z ⟨w.heap.size+1,0,U⟩) n n)
     have gd:=zAk gc (p:=⟨p,2,U⟩) (.inl rfl) (H (Z ⟨w.heap.size+1,0,U⟩) n n)
     clear hdb hcb gb hdc hcc gc hda hba)
  | (at_make;refine zIs rfl _ _ rfl n _ rfl rfl (by omega) mU (O _) ?_;intro we hpl hbe hze
     have hzd:(wc.setCell ⟨p,2,U⟩ (H (Z ⟨w.heap.size+1,0,U⟩) n n)).heap.size=w.heap.size+2:=by simp [hzc]
     rw [hzd] at hpl hbe hze
     have hde:=hdd.below hbe (by omega)
     have hce:=hcd.below hbe (by omega)
     have hne:=hnd.below hbe (by omega)
     have ge:=zAq gd hbe (by omega)
     have e1:=hde.c1
     have e4:=hde.c4
     have ef:=hde.frozen 4
     have hdf:=hde.set4 (H (Z ⟨w.heap.size+2,0,U⟩) n n)
     have hcf:=hce.far (p:=⟨p,4,U⟩) (by simp;omega) (H (Z ⟨w.heap.size+2,0,U⟩) n n)
     have hnf:=hne.far (p:=⟨p,4,U⟩) (by simp;omega) (H (Z ⟨w.heap.size+2,0,U⟩) n n)
     have hpf:=hpl.far (p:=⟨p,4,U⟩) (by simp;omega) (H (Z ⟨w.heap.size+2,0,U⟩) n n)
     have gf:=zAk ge (p:=⟨p,4,U⟩) (.inl rfl) (H (Z ⟨w.heap.size+2,0,U⟩) n n)
     have q1:=hdf.c1
     clear hdd hcd hnd gd hde hce hne ge))
 clear hcnt hdn hpl a0 a1 a6 af c1 c2 cf e1 e4 ef hc0;have FJ:Lets w A n L:=hA;have cS:Hid (∀g:Nat,g<=k->(List.replicate (k+1) (0:Int))[g]? = Z ((gN L (g:Int) 0:Nat):Int)):=qH (fun g hg=>by rw [List.getElem?_replicate,qP (by omega)];rfl);have xT:Hid (∀j,j < n->sat (List.replicate n E) j=(decide (j < 0)&&isP (la L j)&&dwn L j)):=qH (fun j hj=>by unfold sat;rw [List.getElem?_replicate,qP hj];simp);have hsz:w.heap.size+3<=(we.setCell ⟨p,4,U⟩ (H (Z ⟨w.heap.size+2,0,U⟩) n n)).heap.size:=by simp;omega
 go_loopw [3,4,5,50] (fun s3 _ _ s50 wr=>∃(i:Nat) (C:List Int) (s:List Bool),i<=n/\s50=D J i/\s3=G (dwn L i)/\Dia wr p (k:Int) A n c (H (Z ⟨w.heap.size+1,0,U⟩) n n) v3 (H (Z ⟨w.heap.size+2,0,U⟩) n n) v5 (H (Z ⟨w.heap.size,0,U⟩) (k+1) (k+1))/\OwnI wr w.heap.size w.heap.size (k+1) C/\OwnB wr (w.heap.size+1) (w.heap.size+1) n s/\OwnI wr (w.heap.size+2) (w.heap.size+2) n (List.replicate n 0)/\w.grownBy wr (Z p)/\w.heap.size+3<=wr.heap.size/\Hid (∀g:Nat,g<=k->C[g]? = Z ((gN L (g:Int) i:Nat):Int))/\Hid (∀j,j < n->sat s j=(decide (j < i)&&isP (la L j)&&dwn L j))) (fun _ _ _ s50 _=>n-(intOf s50).toNat)
 case atStart=>exact ⟨0,_,_,Nat.zero_le _,rfl,rfl,hdf,hcf,hnf,hpf,gf,hsz,cS,xT⟩
 case round =>
  obtain ⟨i,C,s,hi,rfl,rfl,hdi,hC,hS,hP,hg,hz,HC,HS⟩:=hrel;clear hdf hcf hnf hpf gf hsz cS xT q1;have ft:=FJ.growG hg (fun a ha e=>iF a ha (by injection e));have d2:=hdi.c2;have d6:=hdi.c6;have hp1:=hdi.lt;have hh1:=hC.lt;have wA:=hS.lt;by_cases hlt:i < n
  ·obtain ⟨g,o,rfl,hgl,hx,hok⟩:=ft.at_ hlt;obtain ⟨h0,h1,h2,h3,h4,h5⟩:=hx;have i0:(0:Int)<=(i:Int):=by omega
   have i1:(i:Int) < (n:Int):=by omega
   by_cases hp:(la L i).kind=1
   ·have HPP:=qH (zKh hp);obtain ⟨tj,hgk⟩:=zEP HL.out lB.out hlt (zKh hp);obtain ⟨γ,hγ⟩:∃γ:Nat,(la L i).gate=(γ:Int):=⟨(la L i).gate.toNat,by omega⟩
    have hγk:γ<=k:=by omega
    have hcell:=hC.cell (HC.out γ hγk);have hcf:=hC.frozen γ;have hsf:=hS.frozen i;have hsc:=hS.cell hlt;have g0:(0:Int)<=(γ:Int):=by omega
    have g1':(γ:Int) < (k:Int)+1:=by omega
    have hgn:=zVo L (γ:Int) i;rw [hγ] at h1;have HG:=qH hγ;have B8:((la L i).kind==1)=Q:=by simpa using hp
    have uo:=qH (show ∀g:Nat,g<=k->(C.set γ (((gN L (γ:Int) i:Nat):Int)+1))[g]? = Z ((gN L (g:Int) (i+1):Nat):Int) from fun g hg=>by
     have hCl:=hC.len
     rw [zVm (zKh hp) hγ,List.getElem?_set]
     by_cases e:γ=g
     ·subst e
      rw [qP rfl,qP (by omega),qP rfl];rfl
     ·rw [qN e,HC.out g hg,qN (by omega)];rfl)
    have nz:=qH (show ∀j,j < n->sat (s.set i (dwn L i)) j=(decide (j < i+1)&&isP (la L j)&&dwn L j) from fun j hj=>by
     have hSl:=hS.len
     have hold:=HS.out j hj
     unfold sat at hold ⊢
     rw [List.getElem?_set]
     by_cases e:i=j
     ·subst e
      rw [qP rfl,qP (by omega),HPP.out];simp
     ·rw [qN e,hold]
      congr 2
      rw [decide_eq_decide];omega)
    have un:=qH (zSq (L:=L) (zKh hp));clear hγ tj hgk hp HC HS;go_wp2_with fail
    go_region
    go_wp2_with fail
    go_roundw
    case rel =>
     refine ⟨i+1,C.set γ (((gN L (γ:Int) i:Nat):Int)+1),s.set i (dwn L i),by omega,by go_num,by rw [un.out],?_,?_,?_,?_,?_,?_,uo,nz⟩
     ·exact (((hdi.far (q:=⟨w.heap.size,γ,U⟩) (by simp;omega) _).far (q:=⟨w.heap.size+1,i,U⟩) (by simp;omega) _).alloc _).drew
     ·exact (((hC.stored γ _).far (p:=⟨w.heap.size+1,i,U⟩) (by simp) _).alloc _).drew
     ·exact (((hS.far (p:=⟨w.heap.size,γ,U⟩) (by simp) _).stored i _).alloc _).drew
     ·exact (((hP.far (p:=⟨w.heap.size,γ,U⟩) (by simp) _).far (p:=⟨w.heap.size+1,i,U⟩) (by simp) _).alloc _).drew
     ·exact zBL (zBl (zAk (zAk hg (p:=⟨w.heap.size,γ,U⟩) (.inr (by simp)) _) (p:=⟨w.heap.size+1,i,U⟩) (.inr (by simp)) _) _)
     ·simp;omega
    case measure=>simp [intOf];omega
   ·have uo:=qH (fun g (hg:g<=k)=>(HC.out g hg).trans (show Z ((gN L (g:Int) i:Nat):Int)=Z ((gN L (g:Int) (i+1):Nat):Int) by rw [zVn (zLo hp)]))
    have nz:=qH (show ∀j,j < n->sat s j=(decide (j < i+1)&&isP (la L j)&&dwn L j) from fun j hj=>by
     rw [HS.out j hj]
     by_cases e:j=i
     ·subst e
      rw [zLo hp];simp
     ·congr 2
      rw [decide_eq_decide];omega)
    have un:=qH (zSr (L:=L) (zLo hp));have pW:((la L i).kind==1)=E:=by simpa using hp
    clear hp HC HS;go_wp2_with fail
    go_roundw
    case rel=>exact ⟨i+1,C,s,by omega,by go_num,by rw [un.out],hdi.alloc _,hC.alloc _,hS.alloc _,hP.alloc _,zAb hg (World.grownBy_alloc _ _ _),by simp;omega,uo,nz⟩
    case measure=>simp [intOf];omega
  ·obtain rfl:n=i:=by omega
   have hfl:=qH (fun t (ht:t<=k+1)=>zWV (t:=t) HL.out lB.out ht);obtain ⟨w1,rfl⟩:∃w1:ZY,w1=wr:=⟨_,rfl⟩
   have d0:=hdi.c0;clear ft
   go_wp2_with (at_make;refine zIs rfl _ _ rfl (k+1) _ rfl rfl (by omega) aq (O _) ?_;intro wf hfst hbf hzf
                have hdf:=hdi.next hbf
                have q6:=hdf.c6)
   clear d0 d2 d6 q6;have xS:Hid (∀g:Nat,g < 0->(List.replicate (k+1) (0:Int))[g]? = Z ((fsN L g:Nat):Int)):=qH (fun g hg=>by omega);go_loopw [7,8,9,90] (fun s7 _ _ s90 wr=>∃(t:Nat) (F:List Int),t<=k+1/\s90=D J t/\s7=D J (fsN L t)/\OwnI wr w1.heap.size w1.heap.size (k+1) F/\ZZ w1.heap.size w1 wr/\Hid (∀g:Nat,g < t->F[g]? = Z ((fsN L g:Nat):Int))) (fun _ _ _ s90 _=>k+1-(intOf s90).toNat)
   case atStart=>exact ⟨0,_,Nat.zero_le _,rfl,rfl,hfst,hbf,xS⟩
   case round =>
    obtain ⟨t,F,ht,rfl,rfl,hF,hbw,HF⟩:=hrel;clear hfst hbf xS hdf;by_cases htl:t < k+1
    ·have yP:=hC.below hbw hC.lt;have hcell:=yP.cell (HC.out t (by omega));have hft:fsN L t<=n:=hfl.out t (by omega);have hgt:=zVo L (t:Int) n;have AS:=hF.len;obtain ⟨y,hy⟩:∃y,F[t]? = Z y:=⟨_,List.getElem?_eq_getElem (by omega)⟩
     have hfc:=hF.cell hy;have hff:=hF.frozen t;have t0:(0:Int)<=(t:Int):=by omega
     have t1:(t:Int) < (k:Int)+1:=by omega
     have eP:=qH (show ∀g:Nat,g < t+1->(F.set t ((fsN L t:Nat):Int))[g]? = Z ((fsN L g:Nat):Int) from fun g hg=>by
      rw [List.getElem?_set]
      by_cases e:t=g
      ·subst e
       rw [qP rfl,qP (by omega)]
      ·rw [qN e];exact HF.out g (by omega))
     have Ax:=qH (show fsN L (t+1)=fsN L t+gN L (t:Int) n by
      have h:fsN L (t+1)=fsN L t+gN L (t:Int) L.length:=rfl
      rw [h,HL.out])
     clear HF AS hy;go_wp2_with fail
     go_roundw
     case rel=>exact ⟨t+1,F.set t ((fsN L t:Nat):Int),by omega,by go_num,by rw [Ax.out];go_num,hF.stored t _,hbw.setCell (p:=⟨w1.heap.size,t,U⟩) (O _) _,eP⟩
     case measure=>simp [intOf];omega
    ·obtain rfl:t=k+1:=by omega
     have tk:=hdi.next hbw;have yP:=hC.below hbw hC.lt;have wE:=hS.below hbw hS.lt;have yF:=hP.below hbw hP.lt;have dr:=zAq hg hbw hg.size;have hm:=zQn HL.out lB.out;have hmn:fsN L (k+1)<=n:=hfl.out (k+1) (O _);obtain ⟨m,hmm⟩:∃m,m=fsN L (k+1):=⟨_,rfl⟩
     have HM:=qH (show m=(axL L).length by rw [hmm,hm,zFP,HL.out]);rw [<-hmm] at hmn ⊢;have HMF:=qH hmm;have yg:m<=17592186044416:=by omega
     obtain ⟨w2,rfl⟩:∃w2:ZY,w2=wr:=⟨_,rfl⟩
     have hF12:=hF.lt;clear hm hmm hdi hC hS hP hg hbw
     go_wp2_with (first
      | (at_make;refine zIs rfl _ _ rfl m _ rfl rfl (by omega) yg (O _) ?_;intro w3 hX al uk
         have qv:=tk.next al
         have e3:=qv.c3
         have ef3:=qv.frozen 3
         have E3:=qv.set3 (H (Z ⟨w2.heap.size,0,U⟩) m m)
         have m9:=hX.far (p:=⟨p,3,U⟩) (by simp;omega) (H (Z ⟨w2.heap.size,0,U⟩) m m)
         have FG:=(yP.below al yP.lt).far (p:=⟨p,3,U⟩) (by simp;omega) (H (Z ⟨w2.heap.size,0,U⟩) m m)
         have yD:=(wE.below al wE.lt).far (p:=⟨p,3,U⟩) (by simp;omega) (H (Z ⟨w2.heap.size,0,U⟩) m m)
         have Fo:=(yF.below al yF.lt).far (p:=⟨p,3,U⟩) (by simp;omega) (H (Z ⟨w2.heap.size,0,U⟩) m m)
         have CW:=(hF.below al hF.lt).far (p:=⟨p,3,U⟩) (by simp;omega) (H (Z ⟨w2.heap.size,0,U⟩) m m)
         have ja:=zAk (zAq dr al dr.size) (p:=⟨p,3,U⟩) (.inl rfl) (H (Z ⟨w2.heap.size,0,U⟩) m m)
         clear tk yP wE yF dr hX qv hF)
      | (at_make;refine zPa rfl _ _ rfl m _ rfl rfl (by omega) yg (O _) ?_;intro w5 hT az BL
         have BS:(w3.setCell ⟨p,3,U⟩ (H (Z ⟨w2.heap.size,0,U⟩) m m)).heap.size=w2.heap.size+1:=by simp [uk]
         rw [BS] at hT az BL
         have AC:=E3.below az (by omega)
         have qF:=m9.below az (by omega)
         have FE:=FG.below az (by omega)
         have Fe:=yD.below az (by omega)
         have Fn:=Fo.below az (by omega)
         have CV:=CW.below az (by have:=CW.lt;omega)
         have mV:=zAq ja az (by omega)
         have r1:=AC.c1
         clear E3 m9 FG yD Fo CW ja e3 ef3))
     obtain ⟨H2,Fw⟩:∃H2,H2=w2.heap.size:=⟨_,rfl⟩
     obtain ⟨H1,Fx⟩:∃H1,H1=w1.heap.size:=⟨_,rfl⟩
     rw [<-Fw] at AC qF hT ⊢;rw [<-Fx] at CV ⊢;have hsz5:w.heap.size+3<=H1/\H1 < H2/\H2+2<=w5.heap.size:=by omega
     have xR:Hid (∀j,j < 0->isP (la L j)=Q->(List.replicate m (0:Int))[atN L j]? = Z (j:Int)/\(List.replicate n (0:Int))[j]? = Z ((atN L j:Nat):Int)):=qH (fun j hj=>by omega)
     have xQ:Hid (∀t,t < m->(sat (List.replicate m E) t=Q↔∃j,j < 0/\isP (la L j)=Q/\atN L j=t)):=qH (fun t ht=>by
      unfold sat
      rw [List.getElem?_replicate,qP ht]
      simp)
     have xP:Hid (∀j,j < 0->rkB L j=Q):=qH (fun j hj=>by omega);clear hp1 hh1 wA hbc hzb hbe hzd hza hzc hze r1 Fx Fw
     go_loopw [11,12,13,116] (fun _ _ _ s116 wr=>∃(i:Nat) (X P:List Int) (T:List Bool),i<=n/\s116=D J i/\Dia wr p (k:Int) A n c (H (Z ⟨w.heap.size+1,0,U⟩) n n) (H (Z ⟨H2,0,U⟩) m m) (H (Z ⟨w.heap.size+2,0,U⟩) n n) v5 (H (Z ⟨w.heap.size,0,U⟩) (k+1) (k+1))/\OwnI wr H2 H2 m X/\OwnI wr w.heap.size w.heap.size (k+1) C/\OwnB wr (w.heap.size+1) (w.heap.size+1) n s/\OwnI wr (w.heap.size+2) (w.heap.size+2) n P/\OwnI wr H1 H1 (k+1) F/\OwnB wr (H2+1) (H2+1) m T/\w.grownBy wr (Z p)/\H2+2<=wr.heap.size /\
      Hid (∀j,j < i->isP (la L j)=Q->X[atN L j]? = Z (j:Int)/\P[j]? = Z ((atN L j:Nat):Int))/\Hid (∀t,t < m->(sat T t=Q↔∃j,j < i/\isP (la L j)=Q/\atN L j=t))/\Hid (∀j,j < i->rkB L j=Q)) (fun _ _ _ s116 _=>n-(intOf s116).toNat)
     case atStart=>exact ⟨0,_,_,_,Nat.zero_le _,rfl,AC,qF,FE,Fe,Fn,CV,hT,mV,by omega,xR,xQ,xP⟩
     case round =>
      obtain ⟨i,X,P,T,hi,rfl,hD,hX,hC,hS,hP,hF,hT,hg,hz,HX,HT,HR⟩:=hrel;clear AC qF FE Fe Fn CV mV xR xQ xP;have ft:=FJ.growG hg (fun a ha e=>iF a ha (by injection e));have e1:=hD.c1;have e3:=hD.c3;have e4:=hD.c4;have e6:=hD.c6;have l0:=hD.lt;have l1:=hC.lt;have l2:=hX.lt;have l3:=hP.lt;have l4:=hF.lt;have l5:=hT.lt;by_cases hlt:i < n
      ·obtain ⟨g,o,rfl,hgl,hx,hok⟩:=ft.at_ hlt;obtain ⟨h0,h1,h2,h3,h4,h5⟩:=hx;have i0:(0:Int)<=(i:Int):=by omega
       have i1:(i:Int) < (n:Int):=by omega
       by_cases hp:(la L i).kind=1
       ·have hpt:=zKh hp;obtain ⟨tj,hgk⟩:=zEP HL.out lB.out hlt hpt;obtain ⟨γ,hγ⟩:∃γ:Nat,(la L i).gate=(γ:Int):=⟨(la L i).gate.toNat,by omega⟩
        have hγk:γ<=k:=by omega
        have cC:=hC.cell (HC.out γ hγk);have g0:(0:Int)<=(γ:Int):=by omega
        have g1':(γ:Int) < (k:Int)+1:=by omega
        have hgn:=zVo L (γ:Int) n;obtain ⟨r,hr⟩:∃r,r=(la L i).rank:=⟨_,rfl⟩
        have x9:=hok.rank;rw [<-hr] at h2 x9;obtain ⟨r64a,r64b⟩:=x9;rw [hγ] at h1;have B8:((la L i).kind != 1)=E:=by simpa using hp
        have GI:=qH hpt;have oq:=qH hr;have HG:=qH hγ
        have hrk:Hid (rkB L i=Q↔((1<=r/\r<=(gN L (γ:Int) n:Int))/\∀j,j < i->isP (la L j)=Q->(la L j).gate=(γ:Int)->(la L j).rank≠r)):=qH (by
         rw [zBW,<-hr,hγ,HL.out]
         exact ⟨fun h=>h hpt,fun h _=>h⟩)
        clear hp hpt tj hgk hr hγ
        cases q1:decide (r < 1) with
        | true =>
         have Ar:r < 1:=by simpa using q1
         have hf:=qH (zHM (L:=L) HL.out hlt (by
          cases hq:rkB L i with
          | false=>rfl
          | true=>have:=(hrk.out.1 hq).1;omega))
         clear HX HT HR;go_wp2_with fail
         go_quiet (fail)
         go_wp2_with fail
         go_ret;exact ⟨zAm hf.out.symm,zBF (zBl hg _) _,fun h=>by rw [hf.out] at h;cases h⟩
        | false =>
         have Ar:¬r < 1:=by simpa using q1
         cases q2:decide (((gN L (γ:Int) n:Nat):Int) < r) with
         | true =>
          have Aq:((gN L (γ:Int) n:Nat):Int) < r:=by simpa using q2
          have hf:=qH (zHM (L:=L) HL.out hlt (by
           cases hq:rkB L i with
           | false=>rfl
           | true=>have:=(hrk.out.1 hq).1;omega))
          clear HX HT HR;go_wp2_with fail
          go_quiet (fail)
          go_wp2_with fail
          go_ret;exact ⟨zAm hf.out.symm,zBF (zBl hg _) _,fun h=>by rw [hf.out] at h;cases h⟩
         | false =>
          have Aq:¬((gN L (γ:Int) n:Nat):Int) < r:=by simpa using q2
          obtain ⟨a,ha⟩:∃a,a=atN L i:=⟨_,rfl⟩
          have hav:(a:Int)=(fsN L γ:Int)+r-1:=by
           rw [ha];unfold atN;rw [HG.out,<-oq.out];simp;omega
          have ham:a < m:=by
           have h1:=HMF.out;have h2:fsN L γ+gN L (γ:Int) n<=fsN L (k+1):=by
            have:=zGJ L (a:=γ) (b:=k+1) (by omega)
            rwa [HL.out] at this
           omega
          have HA:=qH ha;clear ha;have s5:=hav.symm;clear hav;have a0:(0:Int)<=(a:Int):=by omega
          have a1:(a:Int) < (m:Int):=by omega
          go_wp2_with fail
          go_quiet (fail)
          generalize hwq:(World.alloc wr _).drewN nq=wq;have hbq:ZZ wr.heap.size wr wq:=by rw [<-hwq];exact zAg ((M _ _).alloc (O _) _) _
          have hgq:w.grownBy wq (Z p):=zAq hg hbq hg.size;have hblk:Blk wq wr.heap.size 76 #[D J (la L i).kind,D J (γ:Int),D J r,D J (la L i).id,D J (la L i).sign,G (la L i).over]:=by rw [<-hwq];exact (Blk.new wr _ _).drewN nq
          have b1:=hblk.cell 1;have b2:=hblk.cell 2;simp at b1 b2;have FC:=hD.next hbq;have AE:=hX.below hbq l2;have CY:=hC.below hbq l1;have CB:=hS.below hbq hS.lt;have wG:=hP.below hbq l3;have AR:=hF.below hbq l4;have AI:=hT.below hbq l5;have cFq:=AR.cell (HF.out γ (by omega));have Dl:=AI.cell ham;have fPq:=wG.frozen i;have Ct:=AE.len;have hPl:=wG.len;obtain ⟨xa,hxa⟩:∃x,X[a]? = Z x:=⟨_,List.getElem?_eq_getElem (by omega)⟩
          obtain ⟨pa,hpa⟩:∃x,P[i]? = Z x:=⟨_,List.getElem?_eq_getElem (by omega)⟩
          have cPq:=wG.cell hpa;have m1:=CY.lt;have m2:=AE.lt;have m3:=wG.lt;have m4:=AR.lt;have m5:=AI.lt;have Gt:=qH hxa;have jV:=qH hpa;clear hwq hxa hpa Ct hPl hD hX hC hS hP hF hT hg e1 e3 e4 e6 cC h0 h1 h2 h3 h4 h5 l0 l1 l2 l3 l4 l5
          cases hta:sat T a with
          | true =>
           rw [hta] at Dl
           have hf:=qH (zHM (L:=L) HL.out hlt (by
            cases hq:rkB L i with
            | false=>rfl
            | true =>
             obtain ⟨j,j1,j2,j3⟩:=(HT.out a ham).1 hta
             have e1:=hrk.out.1 hq
             have e2:=(zBW.1 (HR.out j j1) j2).1
             rw [HL.out] at e2
             have e3:=zWW (i:=j) (j:=i) HL.out (zEP HL.out lB.out (by omega) j2).1 (zEP HL.out lB.out hlt GI.out).1 e2 (by rw [HG.out,<-oq.out];exact e1.1) (by rw [j3,HA.out])
             exact absurd (by rw [e3.2,oq.out]) (e1.2 j j1 j2 (by rw [e3.1,HG.out]))))
           clear HX HT HR hta;go_wp2_with fail
           go_quiet (fail)
           go_wp2_with fail
           go_ret;exact ⟨zAm hf.out.symm,zBF hgq _,fun h=>by rw [hf.out] at h;cases h⟩
          | false =>
           rw [hta] at Dl
           have un:=qH (show ∀j,j < i+1->rkB L j=Q from fun j hj=>by
            rcases Nat.decEq j i with e | e
            ·exact HR.out j (by omega)
            ·subst e
             refine hrk.out.2 ⟨by omega,fun j' h1 h2 h3 h4=>?_⟩
             have:sat T a=Q:=(HT.out a ham).2 ⟨j',h1,h2,by rw [HA.out];unfold atN;rw [h3,h4,HG.out,oq.out]⟩
             rw [hta] at this;cases this)
           have hinj:=qH (show ∀j,j < i->isP (la L j)=Q->atN L j≠a from fun j h1 h2 h3=>by
            have:sat T a=Q:=(HT.out a ham).2 ⟨j,h1,h2,h3⟩
            rw [hta] at this;cases this)
           have uo:=qH (show ∀j,j < i+1->isP (la L j)=Q->(X.set a (i:Int))[atN L j]? = Z (j:Int)/\(P.set i (a:Int))[j]? = Z ((atN L j:Nat):Int) from fun j hj hpj=>by
            have x1:=(List.getElem?_eq_some_iff.1 Gt.out).1
            have x2:=(List.getElem?_eq_some_iff.1 jV.out).1
            rw [List.getElem?_set,List.getElem?_set]
            rcases Nat.decEq j i with e | e
            ·have h1:=hinj.out j (by omega) hpj
             have h2:=HX.out j (by omega) hpj
             rw [qN (fun h=>h1 h.symm),qN (fun h=>e h.symm)]
             exact h2
            ·subst e
             rw [qP HA.out,qP x1,qP rfl,qP x2,HA.out]
             exact ⟨rfl,rfl⟩)
           have nz:=qH (show ∀t,t < m->(sat (T.set a Q) t=Q↔∃j,j < i+1/\isP (la L j)=Q/\atN L j=t) from fun t ht=>by
            rw [zUG,Bool.or_eq_true,HT.out t ht]
            simp only [decide_eq_true_eq]
            constructor
            ·rintro (⟨j,b1,b2,b3⟩ | rfl)
             ·exact ⟨j,by omega,b2,b3⟩
             ·exact ⟨i,by omega,GI.out,HA.out.symm⟩
            ·rintro ⟨j,b1,b2,b3⟩
             rcases Nat.decEq j i with e | e
             ·exact .inl ⟨j,by omega,b2,b3⟩
             ·subst e;exact .inr (by rw [HA.out,b3]))
           clear HX HT HR hta;go_wp2_with fail
           go_quiet (fail)
           go_wp2_with fail
           generalize hwx:wq.drewN nq=wx;have hbx:ZZ wq.heap.size wq wx:=by rw [<-hwx];exact zAg (M _ _) _
           have hgx:w.grownBy wx (Z p):=zAq hgq hbx hgq.size;have vq:=FC.next hbx;have Cr:=AE.below hbx m2;have hCx:=CY.below hbx m1;have hSx:=CB.below hbx CB.lt;have qI:=wG.below hbx m3;have hFx:=AR.below hbx m4;have AH:=AI.below hbx m5;have cTx:=AH.cell ham;have fTx:=AH.frozen a;have fXx:=Cr.frozen a;have fPx:=qI.frozen i;have cXx:=Cr.cell Gt.out;have cPx:=qI.cell jV.out;have y3:=vq.c3;have y4:=vq.c4;have n5:=AH.lt;clear hwx hgq FC AE CY CB wG AR AI cFq Dl fPq cPq m1 m2 m3 m4 m5 b1 b2 hbx hblk hbq s5;go_region
           all_goals
            go_wp2_with fail
            go_roundw
            case rel =>
             refine ⟨i+1,X.set a (i:Int),P.set i (a:Int),T.set a Q,by omega,by go_num,?_,?_,?_,?_,?_,?_,?_,?_,?_,uo,nz,un⟩
             ·repeat (first | with_reducible exact vq | with_reducible apply Dia.drew | with_reducible apply Dia.drewN | ((with_reducible refine Dia.farG ?_ ?_);focus (first | (simp;done) | (simp;omega))))
             ·repeat (first | with_reducible exact Cr | with_reducible apply OwnI.drew | with_reducible apply OwnI.drewN | with_reducible apply OwnI.storedG | ((with_reducible refine OwnI.farG ?_ ?_);focus (first | (simp;done) | (simp;omega))))
             ·repeat (first | with_reducible exact hCx | with_reducible apply OwnI.drew | with_reducible apply OwnI.drewN | ((with_reducible refine OwnI.farG ?_ ?_);focus (first | (simp;done) | (simp;omega))))
             ·repeat (first | with_reducible exact hSx | with_reducible apply OwnB.drew | with_reducible apply OwnB.drewN | ((with_reducible refine OwnB.farG ?_ ?_);focus (first | (simp;done) | (simp;omega))))
             ·repeat (first | with_reducible exact qI | with_reducible apply OwnI.drew | with_reducible apply OwnI.drewN | with_reducible apply OwnI.storedG | ((with_reducible refine OwnI.farG ?_ ?_);focus (first | (simp;done) | (simp;omega))))
             ·repeat (first | with_reducible exact hFx | with_reducible apply OwnI.drew | with_reducible apply OwnI.drewN | ((with_reducible refine OwnI.farG ?_ ?_);focus (first | (simp;done) | (simp;omega))))
             ·repeat (first | with_reducible exact AH | with_reducible apply OwnB.drew | with_reducible apply OwnB.drewN | with_reducible apply OwnB.storedG | ((with_reducible refine OwnB.farG ?_ ?_);focus (first | (simp;done) | (simp;omega))))
             ·repeat (first | with_reducible exact hgx | with_reducible apply zBL | with_reducible apply zBF | ((with_reducible refine zQo ?_ ?_);focus (first | (simp;done) | (simp;omega))))
             ·simp;omega
            case measure=>simp [intOf];omega
       ·have hpf:=zLo hp
        have uo:=qH (show ∀j,j < i+1->isP (la L j)=Q->X[atN L j]? = Z (j:Int)/\P[j]? = Z ((atN L j:Nat):Int) from fun j hj hpj=>HX.out j (by
         rcases Nat.decEq j i with e | e
         ·omega
         ·subst e;rw [hpf] at hpj;cases hpj) hpj)
        have nz:=qH (show ∀t,t < m->(sat T t=Q↔∃j,j < i+1/\isP (la L j)=Q/\atN L j=t) from fun t ht=>(HT.out t ht).trans ⟨fun ⟨j,h1,h2⟩=>⟨j,by omega,h2⟩,fun ⟨j,b1,b2,b3⟩=>⟨j,(by
         rcases Nat.decEq j i with e | e
         ·omega
         ·subst e;rw [hpf] at b2;cases b2),b2,b3⟩⟩)
        have un:=qH (show ∀j,j < i+1->rkB L j=Q from fun j hj=>by
         rcases Nat.decEq j i with e | e
         ·exact HR.out j (by omega)
         ·subst e;exact zBW.2 (fun h=>by rw [hpf] at h;cases h))
        have pW:((la L i).kind != 1)=Q:=by simpa using hp
        clear hp HX HT HR hpf;go_wp2_with fail
        go_roundw
        case rel=>exact ⟨i+1,X,P,T,by omega,by go_num,hD.alloc _,hX.alloc _,hC.alloc _,hS.alloc _,hP.alloc _,hF.alloc _,hT.alloc _,zBl hg _,by simp;omega,uo,nz,un⟩
        case measure=>simp [intOf];omega
      ·obtain rfl:n=i:=by omega
       have hr:zCw L=Q:=by
        unfold zCw;rw [HL.out,zAL];exact HR.out
       have on:=qH hr;clear hr;go_wp2_with fail
       go_ret;refine ⟨zAm on.out.symm,hg,fun _=>?_⟩;have Ct:X=zWi (axL L):=by
        have hgt:∀i,i < L.length->isP (la L i)=Q->0<=(la L i).gate:=fun i hi hp=>(zEP HL.out lB.out (by rw [<-HL.out];exact hi) hp).1
        have hrk:∀i,i < L.length->rkB L i=Q:=fun i hi=>HR.out i (by rw [<-HL.out];exact hi)
        apply List.ext_getElem?;intro t;rcases Nat.lt_or_ge t m with ht | ht
        ·have htl:t < (axL L).length:=by rw [<-HM.out];exact ht
         obtain ⟨a1,a2⟩:=zHi htl;have h1:=zWx hgt hrk a2 a1;have h2:(axL L)[t]? = Z (xat (axL L) t):=by unfold xat;rw [List.getElem?_eq_getElem htl];rfl
         have h3:atN L (xat (axL L) t)=t:=by
          have e1:=zLG (zJh hrk) h1;rw [zLG (zJh hrk) h2] at e1;exact e1.symm
         have h4:=(HX.out _ (by rw [<-HL.out];exact a2) a1).1;rw [h3] at h4;rw [h4,zIU htl]
        ·rw [List.getElem?_eq_none (by rw [hX.len];exact ht),List.getElem?_eq_none (by rw [zRE,<-HM.out];exact ht)]
       rw [Ct] at hX;have hm':=HM.out;subst hm';exact ⟨_,_,_,_,s,P,C,hD,⟨hS.blk,by omega,hS.len⟩,⟨hX.blk,by omega,hX.len⟩,⟨hP.blk,by omega,hP.len⟩,⟨hC.blk,by omega,hC.len⟩,fun j hj=>by rw [HS.out j (by rw [<-HL.out];exact zKB hj),hj];simp;intro h;have:=zKB hj;rw [HL.out] at this;omega,fun j hj=>(HX.out j (by rw [<-HL.out];exact zKB hj) hj).2,HC.out,fun j hj hp=>by rw [HS.out j hj,hp];simp⟩
open Go.Maps (Keyed)
def KMap (w:ZY) (P:Program) (k:TypeId) (b:Nat) (kv:List (Value×Value)):Prop :=
 ∃es clock,w.heap[b]? = Z (.map es clock)/\es.toList.map (fun e=>(e.key,e.val))=kv/\∀p∈kv,∃l,keyOf P k p.1=Z l
section
variable {P:Program} {w w':ZY} {k:TypeId} {b:Nat} {kv:List (Value×Value)}
theorem KMap.made (w:ZY) (P:Program) (k:TypeId):KMap (w.alloc (.map #[] 0)) P k w.heap.size [] :=
 ⟨#[],0,(MapKept.heap_alloc w _).1,rfl,by simp⟩
theorem KMap.lt (h:KMap w P k b kv):b < w.heap.size:=by
 obtain ⟨es,clock,hb,_⟩:=h;exact (Array.getElem?_eq_some_iff.1 hb).1
theorem KMap.below {B:Nat} (h:KMap w P k b kv) (hb:ZZ B w w') (hB:b < B):KMap w' P k b kv:=by
 obtain ⟨es,clock,hh,r⟩:=h;exact ⟨es,clock,(hb.block b hB).trans hh,r⟩
theorem KMap.alloc (h:KMap w P k b kv) (o:Obj):KMap (w.alloc o) P k b kv:=h.below ((M _ _).alloc (O _) o) h.lt
theorem KMap.setCell (h:KMap w P k b kv) {p:Addr} (hp:b≠p.block) (u:Value):KMap (w.setCell p u) P k b kv:=by
 obtain ⟨es,clock,hh,r⟩:=h;exact ⟨es,clock,(Below.heap_setCell w p u b hp).trans hh,r⟩
theorem KMap.find (K:Keyed P k) {es:Array MapEntry} (he:es.toList.map (fun e=>(e.key,e.val))=kv) (hk:∀p∈kv,∃l,keyOf P k p.1=Z l) {key:Value} {l:Lit} (hkey:keyOf P k key=Z l) (w:ZY) :
  ((Instr.findKey k key es.toList).run P w=.ok U w/\∀p∈kv,p.1≠key)∨∃(j:Nat) (v:Value),(Instr.findKey k key es.toList).run P w=.ok (Z (j,v)) w/\kv[j]? = Z (key,v):=by
 have hes:∀e∈es.toList,∃l,keyOf P k e.key=Z l:=fun e hm=>hk (e.key,e.val) (by rw [<-he];exact List.mem_map.2 ⟨e,hm,rfl⟩)
 rcases K.find w hkey es.toList hes with ⟨h1,h2⟩ | ⟨j,e,h1,h2,h3⟩
 ·refine .inl ⟨h1,fun p hp=>?_⟩;rw [<-he] at hp;obtain ⟨e,hm,rfl⟩:=List.mem_map.1 hp;exact h2 e hm
 ·refine .inr ⟨j,e.val,h1,?_⟩;rw [<-he,List.getElem?_map,h2,<-h3];rfl
theorem KMap.look (h:KMap w P k b kv) (K:Keyed P k) {t e:TypeId} (ht:P.underlying t=Z (.map k e)) {z:Value} (hz:(zeroValue e).run P w=.ok z w) {key:Value} {l:Lit} (hkey:keyOf P k key=Z l) :
  ((Instr.lookup t (.map (Z b)) key E).run P w=.ok z w/\∀p∈kv,p.1≠key)∨∃(j:Nat) (v:Value),(Instr.lookup t (.map (Z b)) key E).run P w=.ok v w/\kv[j]? = Z (key,v):=by
 obtain ⟨es,clock,hb,he,hk⟩:=h;rcases KMap.find K he hk hkey w with ⟨h1,h2⟩ | ⟨j,v,h1,h2⟩
 ·exact .inl ⟨by simp [Instr.lookup,run_underlying ht,MapKept.run_getObj_map hb,Result.andThen,K.check w _ hkey,h1,hz],h2⟩
 ·exact .inr ⟨j,v,by simp [Instr.lookup,run_underlying ht,MapKept.run_getObj_map hb,Result.andThen,K.check w _ hkey,h1],h2⟩
theorem KMap.push (h:KMap w P k b kv) (K:Keyed P k) {t e:TypeId} (ht:P.underlying t=Z (.map k e)) {key val:Value} {l:Lit} (hkey:keyOf P k key=Z l) (hnew:∀p∈kv,p.1≠key) :
  ∃w',(Instr.mapUpdate t (.map (Z b)) key val).run P w=.ok () w'/\KMap w' P k b (kv++[(key,val)])/\w.grownBy w' (Z b):=by
 obtain ⟨es,clock,hb,he,hk⟩:=h;rcases KMap.find K he hk hkey w with ⟨h1,_⟩ | ⟨j,v,_,h2⟩
 ·refine ⟨ChangeMaps.setBlock w b (.map (es.push { key,val,born:=clock }) (clock+1)),by simp [Instr.mapUpdate,run_underlying ht,MapKept.run_getObj_map hb,K.check w _ hkey,h1,MapKept.run_setObj_map _ hb,Result.andThen,ChangeMaps.setBlock],?_,?_⟩
  ·refine ⟨_,_,ChangeMaps.heap_setBlock_same hb _,by simp [<-he],fun p hp=>?_⟩;rcases List.mem_append.1 hp with hp | hp
   ·exact hk p hp
   ·simp at hp;subst hp;exact ⟨l,hkey⟩
  ·exact ⟨rfl,rfl,rfl,by simp [ChangeMaps.setBlock],fun i _ hi=>ChangeMaps.heap_setBlock_other hb _ (fun e=>hi (by rw [e]))⟩
 ·exact absurd rfl (hnew _ (List.mem_of_getElem? h2))
theorem KMap.put (h:KMap w P k b kv) (K:Keyed P k) {t e:TypeId} (ht:P.underlying t=Z (.map k e)) {key val v:Value} {l:Lit} {j:Nat} (hkey:keyOf P k key=Z l) (hj:kv[j]? = Z (key,v)) (hone:∀i u,kv[i]? = Z (key,u)->i=j) :
  ∃w',(Instr.mapUpdate t (.map (Z b)) key val).run P w=.ok () w'/\KMap w' P k b (kv.set j (key,val))/\w.grownBy w' (Z b):=by
 obtain ⟨es,clock,hb,he,hk⟩:=h;rcases KMap.find K he hk hkey w with ⟨_,h2⟩ | ⟨j',v',h1,h2⟩
 ·exact absurd rfl (h2 _ (List.mem_of_getElem? hj))
 ·obtain rfl:=hone j' v' h2;have hes:∃x,es[j']? = Z x/\x.key=key:=by
   rw [<-he,List.getElem?_map] at h2;obtain ⟨x,hx,hxe⟩:=Option.map_eq_some_iff.1 h2;exact ⟨x,by simpa using hx,congrArg (·.1) hxe⟩
  obtain ⟨x,hx,hxk⟩:=hes;refine ⟨ChangeMaps.setBlock w b (.map (es.modify j' fun e=>{ e with key:=key,val:=val }) clock),by simp [Instr.mapUpdate,run_underlying ht,MapKept.run_getObj_map hb,K.check w _ hkey,h1,hx,hxk,K.stays w hkey,MapKept.run_setObj_map _ hb,Result.andThen,ChangeMaps.setBlock],?_,?_⟩
  ·refine ⟨_,_,ChangeMaps.heap_setBlock_same hb _,?_,fun p hp=>?_⟩
   ·rw [<-he];apply List.ext_getElem?;intro i;simp only [Array.toList_modify,List.getElem?_map,List.getElem?_set,List.getElem?_modify];by_cases e:j'=i
    ·subst e;have hlt:j' < es.size:=(Array.getElem?_eq_some_iff.1 hx).1;simp [hlt]
    ·simp [e]
   ·rcases List.mem_or_eq_of_mem_set hp with hp | hp
    ·exact hk p hp
    ·subst hp;exact ⟨l,hkey⟩
  ·exact ⟨rfl,rfl,rfl,by simp [ChangeMaps.setBlock],fun i _ hi=>ChangeMaps.heap_setBlock_other hb _ (fun e=>hi (by rw [e]))⟩
end
theorem zGT:Keyed ZX 3:=Go.Maps.int_keyed Tryz.underlying3
theorem zVp:laidOutB ZX=Q:=by kernel_rfl
theorem zSs (w:ZY):(zeroValue 4).run ZX w=.ok (G E) w:=by kernel_rfl
def zFx (L:List Lt) (d:Int) (o:Bool) (j:Nat):Bool:=isC (la L j)&&(la L j).id==d&&(la L j).over==o
def zAw (L:List Lt) (d:Int) (o:Bool):Nat->Int
 | 0=>-1
 | i+1=>if zFx L d o i then (i:Int) else zAw L d o i
theorem zBx {L:List Lt} {d:Int} {o:Bool} {j:Nat}:zFx L d o j=Q↔isC (la L j)=Q/\(la L j).id=d/\(la L j).over=o:=by
 unfold zFx;simp [and_assoc]
theorem zCb (L:List Lt) (d:Int) (o:Bool) (i:Nat):-1<=zAw L d o i/\zAw L d o i < i:=by
 induction i with
 | zero=>exact ⟨by simp [zAw],by simp [zAw]⟩
 | succ i ih=>unfold zAw;split<;>omega
theorem zEq {L:List Lt} {d:Int} {o:Bool} {i:Nat}:zAw L d o i < 0↔∀j,j < i->zFx L d o j=E:=by
 induction i with
 | zero=>simp [zAw]
 | succ i ih =>
  unfold zAw
  cases h:zFx L d o i with
  | true =>
   rw [qP rfl];exact ⟨fun hh=>by omega,fun hh=>by have:=hh i (by omega);rw [h] at this;cases this⟩
  | false =>
   simp only [Bool.false_eq_true,if_false];rw [ih];constructor
   ·intro hh j hj;rcases Nat.decEq j i with e | e
    ·exact hh j (by omega)
    ·subst e;exact h
   ·intro hh j hj;exact hh j (by omega)
theorem zFy {L:List Lt} {d:Int} {o:Bool} {i:Nat} (h:0<=zAw L d o i):∃j:Nat,zAw L d o i=(j:Int)/\j < i/\zFx L d o j=Q:=by
 induction i with
 | zero=>simp [zAw] at h
 | succ i ih =>
  unfold zAw at h ⊢
  cases hv:zFx L d o i with
  | true=>rw [qP rfl];exact ⟨i,rfl,by omega,hv⟩
  | false =>
   rw [hv] at h;simp only [Bool.false_eq_true,if_false] at h ⊢;obtain ⟨j,h1,h2,h3⟩:=ih h;exact ⟨j,h1,by omega,h3⟩
theorem zBG {L:List Lt} {d:Int} {o:Bool} {i:Nat} (h:zFx L d o i=E):zAw L d o (i+1)=zAw L d o i:=by
 conv=>lhs;unfold zAw
 rw [qN (by rw [h];simp)]
theorem zFz {L:List Lt} {d:Int} {o:Bool} {i:Nat} (h:zFx L d o i=Q):zAw L d o (i+1)=i:=by
 conv=>lhs;unfold zAw
 rw [qP h]
def crT (L:List Lt) (i:Nat):Prop :=
 zAw L (la L i).id (la L i).over i < 0/\(0<=zAw L (la L i).id (!(la L i).over) i->(la L (zAw L (la L i).id (!(la L i).over) i).toNat).sign=(la L i).sign)
theorem zVq {L:List Lt} {i:Nat} (hall:∀j,j < i->crB L j=Q) (hc:isC (la L i)=Q) (hb:1<=(la L i).id/\(la L i).id<=((cN L L.length / 2:Nat):Int)):crB L i=Q↔crT L i:=by
 constructor
 ·intro h;have h2:=(zBs.1 h hc).2;refine ⟨zEq.2 fun j hj=>?_,fun hp=>?_⟩
  ·cases hv:zFx L (la L i).id (la L i).over j with
   | false=>rfl
   | true =>
    obtain ⟨v1,v2,v3⟩:=zBx.1 hv;exact absurd v3 (h2 j hj v1 v2).1
  ·obtain ⟨j,e,hj,hv⟩:=zFy hp;obtain ⟨v1,v2,v3⟩:=zBx.1 hv;rw [e,Int.toNat_natCast];exact (h2 j hj v1 v2).2
 ·rintro ⟨t1,t2⟩;refine zBs.2 fun _=>⟨hb,fun j hj hcj hid=>?_⟩
  have hov:(la L j).over≠(la L i).over:=fun e=>by
   have:=zEq.1 t1 j hj;rw [zBx.2 ⟨hcj,hid,e⟩] at this
   cases this
  refine ⟨hov,?_⟩;have ut:(la L j).over = !(la L i).over:=by revert hov;cases (la L j).over<;>cases (la L i).over<;>simp
  have hvj:zFx L (la L i).id (!(la L i).over) j=Q:=zBx.2 ⟨hcj,hid,ut⟩;have hpos:0<=zAw L (la L i).id (!(la L i).over) i:=by
   rcases (show _ < (0:Int)∨(0:Int)<=_ from Int.lt_or_le (zAw L (la L i).id (!(la L i).over) i) 0) with h | h
   ·have:=zEq.1 h j hj;rw [hvj] at this;cases this
   ·exact h
  obtain ⟨j',e,Cf,hv'⟩:=zFy hpos;have hs:=t2 hpos;rw [e,Int.toNat_natCast] at hs;obtain ⟨v1,v2,v3⟩:=zBx.1 hv';have:j'=j:=by
   rcases Nat.lt_trichotomy j' j with hl | he | hl
   ·exact absurd (v3.trans ut.symm) ((zBs.1 (hall j hj) hcj).2 j' hl v1 (v2.trans hid.symm)).1
   ·exact he
   ·exact absurd (ut.trans v3.symm) ((zBs.1 (hall j' Cf) v1).2 j hl hcj (hid.trans v2.symm)).1
  rw [<-this];exact hs
theorem zJG {L:List Lt} {d:Int} {i:Nat}:(0<=zAw L d E i∨0<=zAw L d Q i)↔0 < tN L d i:=by
 constructor
 ·rintro (h | h)
  all_goals
   obtain ⟨j,_,hj,hv⟩:=zFy h;obtain ⟨v1,v2,_⟩:=zBx.1 hv;exact zKg hj (by simp [v1,v2])
 ·intro h;obtain ⟨j,hj,hp⟩:=zUr h;simp at hp;rcases (show _ < (0:Int)∨(0:Int)<=_ from Int.lt_or_le (zAw L d E i) 0) with h1 | h1
  ·rcases (show _ < (0:Int)∨(0:Int)<=_ from Int.lt_or_le (zAw L d Q i) 0) with h2 | h2
   ·have a:=zEq.1 h1 j hj;have b:=zEq.1 h2 j hj;unfold zFx at a b;rw [hp.1,hp.2] at a b
    revert a b
    cases (la L j).over<;>simp
   ·exact .inr h2
  ·exact .inl h1
theorem zTQ {L:List Lt} {i:Nat}:nwB L i=Q↔isC (la L i)=Q/\tN L (la L i).id i=0:=by
 unfold nwB;rw [Bool.and_eq_true,zAL];refine and_congr_right fun _=>?_
 constructor
 ·intro h;exact zIS fun m hm=>by have:=h m hm;simpa only [Bool.not_eq_true'] using this
 ·intro h j hj
  cases hq:(isC (la L j)&&(la L j).id==(la L i).id) with
  | false=>rfl
  | true=>have:=zKg (p:=fun m=>isC (la L m)&&(la L m).id==(la L i).id) hj hq;unfold tN at h;omega
section
variable {K:Int} {L:List Lt}
theorem Good.last (g:Good K L) {i:Nat} (hc:isC (la L i)=Q):zAw L (la L i).id (!(la L i).over) L.length=(zKa L i:Nat):=by
 obtain ⟨h1,h2,h3,h4,h5,h6⟩:=g.other hc;have hlt:=zFg h2;have hv:zFx L (la L i).id (!(la L i).over) (zKa L i)=Q:=zBx.2 ⟨h2,h3,by revert h4;cases (la L (zKa L i)).over<;>cases (la L i).over<;>simp⟩;have hpos:0<=zAw L (la L i).id (!(la L i).over) L.length:=by
  rcases (show _ < (0:Int)∨(0:Int)<=_ from Int.lt_or_le (zAw L (la L i).id (!(la L i).over) L.length) 0) with h | h
  ·have:=zEq.1 h _ hlt;rw [hv] at this;cases this
  ·exact h
 obtain ⟨j,e,hj,hvj⟩:=zFy hpos;obtain ⟨v1,v2,v3⟩:=zBx.1 hvj;rw [e,h6 j v1 v2 (fun e=>by subst e;revert v3;cases (la L j).over<;>simp)]
end
open Go.Maps (Keyed)
section
variable {P:Program} {w w':ZY} {k:TypeId} {b:Nat} {kv:List (Value×Value)}
theorem KMap.lookOk (h:KMap w P k b kv) (K:Keyed P k) {t e:TypeId} (ht:P.underlying t=Z (.map k e)) {z:Value} (hz:∀w,(zeroValue e).run P w=.ok z w) {key:Value} {l:Lit} (hkey:keyOf P k key=Z l) :
  ((Instr.lookup t (.map (Z b)) key Q).run P w=.ok (.tuple #[z,G E]) w/\∀p∈kv,p.1≠key)∨∃(j:Nat) (v:Value),(Instr.lookup t (.map (Z b)) key Q).run P w=.ok (.tuple #[v,G Q]) w/\kv[j]? = Z (key,v):=by
 obtain ⟨es,clock,hb,he,hk⟩:=h;rcases KMap.find K he hk hkey w with ⟨h1,h2⟩ | ⟨j,v,h1,h2⟩
 ·exact .inl ⟨by simp [Instr.lookup,run_underlying ht,MapKept.run_getObj_map hb,Result.andThen,K.check w _ hkey,h1,hz],h2⟩
 ·exact .inr ⟨j,v,by simp [Instr.lookup,run_underlying ht,MapKept.run_getObj_map hb,Result.andThen,K.check w _ hkey,h1],h2⟩
end
def ent (L:List Lt) (i:Nat) (d:Int):Value×Value:=(D J d,.agg #[D J (zAw L d E i),D J (zAw L d Q i)])
structure Vis (w:ZY) (b:Nat) (L:List Lt) (i:Nat) (ids:List Int):Prop where
 map:KMap w ZX 3 b (ids.map (ent L i))
 nodup:ids.Nodup
 mem:∀d,d∈ids↔0 < tN L d i
 len:ids.length=dN L i
theorem zNa (w:ZY):(zeroValue 226).run ZX w=.ok (.agg #[D J 0,D J 0]) w:=by kernel_rfl
theorem zQp (x:Int) (hx:I64 x):∃l,keyOf ZX 3 (D J x)=Z l:=⟨_,Go.Maps.keyOf_int_mk Tryz.underlying3 (Go.WalkArith.wf_i64 hx)⟩
section
variable {w w':ZY} {b i:Nat} {L:List Lt} {ids:List Int}
theorem Vis.look (h:Vis w b L i ids) {d:Int} (hd:I64 d) :
  ((Instr.lookup 146 (.map (Z b)) (D J d) Q).run ZX w=.ok (.tuple #[.agg #[D J 0,D J 0],G E]) w/\tN L d i=0) ∨
  ((Instr.lookup 146 (.map (Z b)) (D J d) Q).run ZX w=.ok (.tuple #[.agg #[D J (zAw L d E i),D J (zAw L d Q i)],G Q]) w/\0 < tN L d i):=by
 obtain ⟨l,hl⟩:=zQp d hd;rcases h.map.lookOk zGT Tryz.underlying146 zNa hl with ⟨h1,h2⟩ | ⟨j,v,h1,h2⟩
 ·refine .inl ⟨h1,?_⟩;rcases Nat.eq_zero_or_pos (tN L d i) with h0 | h0
  ·exact h0
  ·exact absurd rfl (h2 (ent L i d) (List.mem_map.2 ⟨d,(h.mem d).2 h0,rfl⟩))
 ·rw [List.getElem?_map] at h2;obtain ⟨d',tp,he⟩:=Option.map_eq_some_iff.1 h2;simp only [ent,Prod.mk.injEq,Value.int.injEq,true_and] at he;obtain ⟨rfl,rfl⟩:=he;exact .inr ⟨h1,(h.mem d').1 (List.mem_of_getElem? tp)⟩
theorem Vis.lookNo (h:Vis w b L i ids) {d:Int} (hd:I64 d) (ht:tN L d i=0):(Instr.lookup 146 (.map (Z b)) (D J d) Q).run ZX w=.ok (.tuple #[.agg #[D J 0,D J 0],G E]) w:=by
 rcases h.look hd with ⟨h1,_⟩ | ⟨_,h2⟩
 ·exact h1
 ·omega
theorem Vis.lookYes (h:Vis w b L i ids) {d:Int} (hd:I64 d) (ht:0 < tN L d i):(Instr.lookup 146 (.map (Z b)) (D J d) Q).run ZX w=.ok (.tuple #[.agg #[D J (zAw L d E i),D J (zAw L d Q i)],G Q]) w:=by
 rcases h.look hd with ⟨_,h2⟩ | ⟨h1,_⟩
 ·omega
 ·exact h1
theorem zMb (L:List Lt) (d:Int) (i:Nat):tN L d (i+1)=tN L d i+(if (isC (la L i)&&(la L i).id==d)=Q then 1 else 0):=rfl
theorem Vis.skip (h:Vis w b L i ids) (hc:isC (la L i)=E):Vis w b L (i+1) ids:=by
 have hv:∀d o,zFx L d o i=E:=fun d o=>by unfold zFx;rw [hc];rfl
 refine ⟨?_,h.nodup,fun d=>?_,?_⟩
 ·have:ids.map (ent L (i+1))=ids.map (ent L i):=List.map_congr_left fun d _=>by unfold ent;rw [zBG (hv d E),zBG (hv d Q)]
  rw [this];exact h.map
 ·rw [h.mem d,zMb,hc];simp
 ·rw [h.len];unfold dN;rw [zAG (by unfold nwB;rw [hc];rfl)]
theorem Vis.store (h:Vis w b L i ids) (hc:isC (la L i)=Q) (hd:I64 (la L i).id) :
  ∃w' ids',(Instr.mapUpdate 146 (.map (Z b)) (D J (la L i).id) (.agg #[D J (zAw L (la L i).id E (i+1)),D J (zAw L (la L i).id Q (i+1))])).run ZX w=.ok () w'/\Vis w' b L (i+1) ids'/\w.grownBy w' (Z b):=by
 obtain ⟨l,hl⟩:=zQp _ hd;have hoth:∀d,d≠(la L i).id->ent L (i+1) d=ent L i d:=fun d hne=>by
  have hv:∀o,zFx L d o i=E:=fun o=>by unfold zFx;simp;intro _ e;exact absurd e.symm hne
  unfold ent;rw [zBG (hv E),zBG (hv Q)]
 by_cases hm:(la L i).id∈ids
 ·obtain ⟨j,hj,hje⟩:=List.getElem_of_mem hm;have hj2:(ids.map (ent L i))[j]? = Z (ent L i (la L i).id):=by rw [List.getElem?_map,List.getElem?_eq_getElem hj,hje];rfl
  have huniq:∀t u,(ids.map (ent L i))[t]? = Z (D J (la L i).id,u)->t=j:=fun t u ht=>by
   rw [List.getElem?_map] at ht;obtain ⟨d',tp,he⟩:=Option.map_eq_some_iff.1 ht;simp only [ent,Prod.mk.injEq,Value.int.injEq,true_and] at he;have e1:=he.1;subst e1;exact (List.getElem?_inj (List.getElem?_eq_some_iff.1 tp).1 h.nodup).1 (tp.trans (by rw [List.getElem?_eq_getElem hj,hje]))
  obtain ⟨w',h1,h2,h3⟩:=h.map.put zGT Tryz.underlying146 (val:=.agg #[D J (zAw L (la L i).id E (i+1)),D J (zAw L (la L i).id Q (i+1))]) hl hj2 huniq;refine ⟨w',ids,h1,⟨?_,h.nodup,fun d=>?_,?_⟩,h3⟩
  ·have:(ids.map (ent L i)).set j (D J (la L i).id,.agg #[D J (zAw L (la L i).id E (i+1)),D J (zAw L (la L i).id Q (i+1))])=ids.map (ent L (i+1)):=by
    apply List.ext_getElem?;intro t;rw [List.getElem?_set,List.getElem?_map,List.getElem?_map];by_cases e:j=t
    ·subst e;rw [qP rfl,qP (by simpa using hj),List.getElem?_eq_getElem hj,hje];rfl
    ·rw [qN e]
     cases ht:ids[t]? with
     | none=>rfl
     | some d =>
      simp only [Option.map_some]
      rw [hoth d (fun ed=>e (by
       subst ed
       exact (List.getElem?_inj hj h.nodup).1 (by rw [List.getElem?_eq_getElem hj,hje,ht]))) ]
   rw [<-this];exact h2
  ·rw [h.mem d,zMb];by_cases e:(la L i).id=d
   ·have:=(h.mem d).1 (by rw [<-e];exact hm);omega
   ·rw [qN (by simp [e])];omega
  ·rw [h.len];unfold dN;rw [zAG]
   cases hq:nwB L i with
   | false=>rfl
   | true =>
    have:=(zTQ.1 hq).2;have:=(h.mem _).1 hm;omega
 ·have hnew:∀p∈ids.map (ent L i),p.1≠D J (la L i).id:=fun p hp e=>by
   obtain ⟨d,tp,rfl⟩:=List.mem_map.1 hp;simp only [ent,Value.int.injEq,true_and] at e;subst e;exact hm tp
  obtain ⟨w',h1,h2,h3⟩:=h.map.push zGT Tryz.underlying146 (val:=.agg #[D J (zAw L (la L i).id E (i+1)),D J (zAw L (la L i).id Q (i+1))]) hl hnew;refine ⟨w',ids++[(la L i).id],h1,⟨?_,?_,fun d=>?_,?_⟩,h3⟩
  ·have:ids.map (ent L i)++[(D J (la L i).id,.agg #[D J (zAw L (la L i).id E (i+1)),D J (zAw L (la L i).id Q (i+1))])]=(ids++[(la L i).id]).map (ent L (i+1)):=by
    rw [List.map_append];refine congr (congrArg _ (List.map_congr_left fun d tp=>?_)) rfl;rw [hoth d (fun e=>by subst e;exact hm tp)]
   rw [<-this];exact h2
  ·rw [List.nodup_append];exact ⟨h.nodup,by simp,fun a ha b' pe e=>by simp at pe;subst pe;subst e;exact hm ha⟩
  ·rw [List.mem_append,h.mem d,zMb,List.mem_singleton];by_cases e:(la L i).id=d
   ·rw [qP (by simp [hc,e])];constructor
    ·intro _;omega
    ·intro _;exact .inr e.symm
   ·rw [qN (by simp [e])];constructor
    ·rintro (h | h)
     ·omega
     ·exact absurd h.symm e
    ·intro h;exact .inl (by omega)
  ·rw [List.length_append,h.len];unfold dN
   rw [zAY (zTQ.2 ⟨hc,by
    rcases Nat.eq_zero_or_pos (tN L (la L i).id i) with h0 | h0
    ·exact h0
    ·exact absurd ((h.mem _).2 h0) hm⟩)]
   rfl
theorem Vis.made (w:ZY) (L:List Lt):Vis (w.alloc (.map #[] 0)) w.heap.size L 0 [] :=
 ⟨KMap.made w _ _,by simp,fun d=>by simp [tN,zAe],rfl⟩
theorem Vis.lt (h:Vis w b L i ids):b < w.heap.size:=h.map.lt
theorem Vis.alloc (h:Vis w b L i ids) (o:Obj):Vis (w.alloc o) b L i ids:=⟨h.map.alloc o,h.nodup,h.mem,h.len⟩
theorem Vis.drew (h:Vis w b L i ids):Vis w.drew b L i ids:=⟨h.map,h.nodup,h.mem,h.len⟩
theorem Vis.setCell (h:Vis w b L i ids) {p:Addr} (hp:b≠p.block) (u:Value):Vis (w.setCell p u) b L i ids:=⟨h.map.setCell hp u,h.nodup,h.mem,h.len⟩
theorem Vis.next (h:Vis w b L i ids) (hb:ZZ w.heap.size w w'):Vis w' b L i ids:=⟨h.map.below hb h.lt,h.nodup,h.mem,h.len⟩
theorem Vis.run_len (h:Vis w b L i ids) (ty:TypeId):(Builtin.len_ #[146] ty #[.map (Z b)]).run ZX w=.ok (D J ids.length) w:=by
 obtain ⟨es,clock,hb,he,_⟩:=h.map;have hl:es.size=ids.length:=by
  have:=congrArg List.length he;simpa using this
 simp [Builtin.len_,MapKept.run_getObj_map hb,hl,goInt]
theorem zId {ops:Array Oper} {rest:List Oper} {o:Oper} {a:Act} {ZP:Exit->Act->ZY->Prop} (hg:o.guard=U) (m:Operand) (hop:o.op=Op.call { callee:=Callee.builtin Builtin.len,args:=#[m],argTypes:=#[146] })
  (hm:a.eval m=.map (Z b)) (h:Vis w b L i ids) (hK:wpList ZX ops ZP rest (a.put o.dst (D J ids.length)) w):wpList ZX ops ZP (o :: rest) a w:=by
 refine wpList_plain hg fun K' hK'=>?_
 unfold Oper.wp;simp [execOp,hop,resolve,invoke,builtin,hm,h.run_len,Result.andThen];exact hK' _ _ hK
end
