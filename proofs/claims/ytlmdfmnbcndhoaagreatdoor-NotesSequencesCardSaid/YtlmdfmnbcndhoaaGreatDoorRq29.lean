/-
  Lemmas, part 29. Conditions: each theorem's own.
-/
import Derived.Test.YtlmdfmnbcndhoaaGreatDoorRq28
import Derived.Test.YtlmdfmnbcndhoaaGreatDoorRq02
import Derived.BigRegion
open Go.Value renaming bool→G,int→D,slice→H
open Go.IntKind renaming i64→J
open Option renaming none→U,some→Z
open Bool renaming false→E,true→Q
namespace Go.Proofs.YtlmdfmnbcndhoaaGreatDoor
open Go.RowKit
structure DiaR (w:World) (base p:Nat) (k:Nat) (A:Option Addr) (n c:Nat) (L:List Lt) (v5:Value) (g2 g3 g4 g6:Nat) (s:List Bool) (P C:List Int):Prop where
 dia:Dia w p (k:Int) A n c (H (Z ⟨g2,0,U⟩) n n) (.slice (Z ⟨g3,0,U⟩) (axL L).length (axL L).length) (H (Z ⟨g4,0,U⟩) n n) v5 (H (Z ⟨g6,0,U⟩) (k+1) (k+1))
 down:OwnB w base g2 n s
 axis:OwnI w base g3 (axL L).length (zEM (axL L))
 place:OwnI w base g4 n P
 count:OwnI w base g6 (k+1) C
 downs:∀i,isP (la L i)=Q→sat s i=dwn L i
 places:∀i,isP (la L i)=Q→P[i]? = Z ((atN L i:Nat):Int)
 counts:∀g:Nat,g≤k→C[g]? = Z ((gN L (g:Int) n:Nat):Int)
 ndown:∀i,i < n→isP (la L i)=E→sat s i=E
section
variable {w:World} {p:Nat} {K:Int} {A:Option Addr} {n c:Nat} {v2 v3 v4 v5 v6:Value}
theorem Dia.set2 (h:Dia w p K A n c v2 v3 v4 v5 v6) (u:Value):Dia (w.setCell ⟨p,2,U⟩ u) p K A n c u v3 v4 v5 v6:=Blk.set_ h 2 u
theorem Dia.set3 (h:Dia w p K A n c v2 v3 v4 v5 v6) (u:Value):Dia (w.setCell ⟨p,3,U⟩ u) p K A n c v2 u v4 v5 v6:=Blk.set_ h 3 u
theorem Dia.set4 (h:Dia w p K A n c v2 v3 v4 v5 v6) (u:Value):Dia (w.setCell ⟨p,4,U⟩ u) p K A n c v2 v3 u v5 v6:=Blk.set_ h 4 u
theorem Dia.set5 (h:Dia w p K A n c v2 v3 v4 v5 v6) (u:Value):Dia (w.setCell ⟨p,5,U⟩ u) p K A n c v2 v3 v4 u v6:=Blk.set_ h 5 u
theorem Dia.set6 (h:Dia w p K A n c v2 v3 v4 v5 v6) (u:Value):Dia (w.setCell ⟨p,6,U⟩ u) p K A n c v2 v3 v4 v5 u:=Blk.set_ h 6 u
theorem Dia.alloc (h:Dia w p K A n c v2 v3 v4 v5 v6) (o:Obj):Dia (w.alloc o) p K A n c v2 v3 v4 v5 v6:=Blk.alloc h o
theorem Dia.drew (h:Dia w p K A n c v2 v3 v4 v5 v6):Dia w.drew p K A n c v2 v3 v4 v5 v6:=h
theorem Dia.far (h:Dia w p K A n c v2 v3 v4 v5 v6) {q:Addr} (hq:p≠q.block) (u:Value):Dia (w.setCell q u) p K A n c v2 v3 v4 v5 v6:=Blk.far h hq u
end
def zQt (w:World) (p k:Nat) (A:Option Addr) (n c:Nat) (L:List Lt) (v5:Value) (e:Ending) (w':World):Prop :=
 e=.returned (G (zCx L))∧w.grownBy w' (Z p)∧(zCx L=Q→∃g2 g3 g4 g6 s P C,DiaR w' w.heap.size p k A n c L v5 g2 g3 g4 g6 s P C)
theorem Lets.growG {w w':World} {n:Nat} {L:List Lt} {row:Option Nat} {A:Option Addr} (hg:w.grownBy w' row) (hne:∀a,A=Z a→row≠Z a.block) (h:Lets w A n L):Lets w' A n L :=
 ⟨h.1,h.2.1,h.2.2.1,fun hn=>by
  obtain ⟨g,o,e,hb,hc⟩:=h.2.2.2 hn
  refine ⟨g,o,e,Nat.lt_of_lt_of_le hb hg.size,fun j x hx=>(hc j x hx).keep fun q hq=>?_⟩
  exact World.cell?_of_block (hg.block _ (by rw [hq];exact hb) (by rw [hq];exact fun h=>hne _ e h.symm))⟩
theorem zEX {K:Int} {L:List Lt} {n i:Nat} (hL:L.length=n) (h:zAB K L=Q) (hi:i < n) (hp:isP (la L i)=Q):0≤(la L i).gate∧(la L i).gate≤K:=by
 unfold zAB at h;rw [zAv] at h;have:=h i (by omega);unfold lpB at this;rw [if_pos (by unfold isP at hp;simpa using hp)] at this;simp only [decide_eq_true_eq] at this;exact ⟨this.1,this.2.1⟩
theorem zUT {L:List Lt} {g γ:Int} {i:Nat} (hp:isP (la L i)=Q) (hg:(la L i).gate=γ):gN L g (i+1)=gN L g i+(if γ=g then 1 else 0):=by
 unfold gN;by_cases h:γ=g
 ·rw [zAm (by rw [hp,hg];simp [h]),if_pos h]
 ·rw [zAi (by rw [hp,hg];simp [h]),if_neg h];rfl
theorem zUU {L:List Lt} {g:Int} {i:Nat} (hp:isP (la L i)=E):gN L g (i+1)=gN L g i:=zAi (by rw [hp];rfl)
theorem zSm {L:List Lt} {i:Nat} (hp:isP (la L i)=Q):dwn L (i+1) = !dwn L i:=by
 have h:pN L (i+1)=pN L i+1:=zAm hp;unfold dwn;rw [h,Bool.eq_iff_iff];simp;omega
theorem zSn {L:List Lt} {i:Nat} (hp:isP (la L i)=E):dwn L (i+1)=dwn L i:=by
 have h:pN L (i+1)=pN L i:=zAi hp;unfold dwn;rw [h]
theorem zQu {k:Nat} {L:List Lt} {n:Nat} (hL:L.length=n) (h:zAB (k:Int) L=Q):fsN L (k+1)=pN L n:=by
 unfold fsN pN
 rw [zEm (p:=fun i=>isP (la L i)) (c:=fun i=>(la L i).gate.toNat) (n:=n) (k:=k+1) (by
  intro m hm hp
  have:=zEX hL h hm hp
  omega),hL]
 refine zEl fun d _=>zCf fun m hm=>?_
 cases hp:isP (la L m) with
 | false=>rfl
 | true =>
  have:=zEX hL h hm hp;simp only [Bool.true_and];rw [Bool.eq_iff_iff];simp;omega
theorem zWw {k:Nat} {L:List Lt} {n:Nat} (hL:L.length=n) (h:zAB (k:Int) L=Q) {t:Nat} (ht:t≤k+1):fsN L t≤n:=by
 have h1:=zQu hL h;have h2:=zIm L n;rcases Nat.lt_or_ge t (k+1) with hl | hl
 ·have:=zGW L hl;omega
 ·have:t=k+1:=by omega
  subst this;omega
theorem zWx {L:List Lt} {n i j:Nat} (hL:L.length=n) (hgi:0≤(la L i).gate) (hgj:0≤(la L j).gate) (hi:1≤(la L i).rank∧(la L i).rank≤(gN L (la L i).gate n:Int)) (hj:1≤(la L j).rank∧(la L j).rank≤(gN L (la L j).gate n:Int)) (h:atN L i=atN L j) :
  (la L i).gate=(la L j).gate∧(la L i).rank=(la L j).rank:=by
 unfold atN at h;rw [←hL] at hi hj;rcases Int.lt_trichotomy (la L i).gate (la L j).gate with hl | he | hl
 ·have:=zGW L (a:=(la L i).gate.toNat) (b:=(la L j).gate.toNat) (by omega);rw [show (((la L i).gate.toNat:Nat):Int)=(la L i).gate by omega] at this;omega
 ·rw [he] at h;omega
 ·have:=zGW L (a:=(la L j).gate.toNat) (b:=(la L i).gate.toNat) (by omega);rw [show (((la L j).gate.toNat:Nat):Int)=(la L j).gate by omega] at this;omega
theorem zIi {L:List Lt} {n i:Nat} (hL:L.length=n) (hi:i < n) (h:rkB L i=E):zCx L=E:=by
 unfold zCx;rw [hL];exact zDm hi h
theorem zBN {a b:World} {row:Option Nat} (h:a.grownBy b row) (k:Nat):a.grownBy (b.drewN k) row:=⟨h.os,h.tape,h.output,h.size,h.block⟩
section
variable {w:World} {p:Nat} {K:Int} {A:Option Addr} {n c:Nat} {v2 v3 v4 v5 v6:Value} {base g:Nat} {L:List Int} {s:List Bool}
theorem Dia.drewN (h:Dia w p K A n c v2 v3 v4 v5 v6) (k:Nat):Dia (w.drewN k) p K A n c v2 v3 v4 v5 v6:=h
theorem Dia.farG {q:Addr} {u:Value} (hq:p≠q.block) (h:Dia w p K A n c v2 v3 v4 v5 v6):Dia (w.setCell q u) p K A n c v2 v3 v4 v5 v6:=Blk.far h hq u
theorem OwnI.farG {q:Addr} {u:Value} (hq:g≠q.block) (h:OwnI w base g n L):OwnI (w.setCell q u) base g n L:=h.far hq u
theorem OwnB.farG {q:Addr} {u:Value} (hq:g≠q.block) (h:OwnB w base g n s):OwnB (w.setCell q u) base g n s:=h.far hq u
theorem OwnI.storedG {k:Nat} {x:Int} (h:OwnI w base g n L):OwnI (w.setCell ⟨g,k,U⟩ (D J x)) base g n (L.set k x):=h.stored k x
theorem OwnB.storedG {k:Nat} {x:Bool} (h:OwnB w base g n s):OwnB (w.setCell ⟨g,k,U⟩ (G x)) base g n (s.set k x):=h.stored k x
theorem zQv {a b:World} {q:Addr} {u:Value} (hq:q.block=p∨a.heap.size≤q.block) (h:a.grownBy b (Z p)):a.grownBy (b.setCell q u) (Z p):=zAk h hq u
end
theorem zUV (L:List Lt) (g:Int) (k:Nat):gN L g k≤k:=zBt _ _
set_option maxRecDepth 100000 in
set_option maxHeartbeats 6400000 in
theorem zKR (p k:Nat) (A:Option Addr) (n c:Nat) (L:List Lt) (v2 v3 v4 v5 v6:Value) (w:World) (hA:Lets w A n L) (hn:n≤400) (ja:k≤40) (hl:zAB (k:Int) L=Q)
  (fI:∀a,A=Z a→p≠a.block) (hd:Dia w p (k:Int) A n c v2 v3 v4 v5 v6) :
  Calls Tryz.prog 177 #[.pointer (Z ⟨p,0,U⟩)] w (zQt w p k A n c L v5):=by
 have HL:=qH hA.len;have ni:=qH hl;clear hl;have hc0:=hd.c0;have hplt:=hd.lt;have ag:k+1≤17592186044416:=by omega
 have nU:n≤17592186044416:=by omega
 go_enter Tryz.func177,Tryz.ntmps177
 go_wp2_with (first
  | (at_make;refine zIB rfl _ _ rfl (k+1) _ rfl rfl (by omega) ag (Nat.le_refl _) ?_;intro wa hcnt hba hza
     have hda:=(hd.next hba)
     have a0:=hda.c0
     have a1:=hda.c1
     have a6:=hda.c6
     have af:=hda.frozen 6
     have hdb:=hda.set6 (H (Z ⟨w.heap.size,0,U⟩) (k+1) (k+1))
     have hcb:=hcnt.far (p:=⟨p,6,U⟩) (by simp;omega) (H (Z ⟨w.heap.size,0,U⟩) (k+1) (k+1))
     have gb:=zAk (zDM hba (Z p)) (p:=⟨p,6,U⟩) (.inl rfl) (H (Z ⟨w.heap.size,0,U⟩) (k+1) (k+1)))
  | (at_make;refine zMN rfl _ _ rfl n _ rfl rfl (by omega) nU (Nat.le_refl _) ?_;intro wc hdn hbc hzc
     have hzb:(wa.setCell ⟨p,6,U⟩ (H (Z ⟨w.heap.size,0,U⟩) (k+1) (k+1))).heap.size=w.heap.size+1:=by simp [hza]
     rw [hzb] at hdn hbc hzc
     have hdc:=hdb.below hbc (by omega)
     have hcc:=hcb.below hbc (by omega)
     have gc:=zAn gb hbc (by omega)
     have c1:=hdc.c1
     have c2:=hdc.c2
     have cf:=hdc.frozen 2
     have hdd:=hdc.set2 (H (Z ⟨w.heap.size+1,0,U⟩) n n)
     have hcd:=hcc.far (p:=⟨p,2,U⟩) (by simp;omega) (H (Z ⟨w.heap.size+1,0,U⟩) n n)
     have hnd:=hdn.far (p:=⟨p,2,U⟩) (by simp;omega) (H (Z ⟨w.heap.size+1,0,U⟩) n n)
     have gd:=zAk gc (p:=⟨p,2,U⟩) (.inl rfl) (H (Z ⟨w.heap.size+1,0,U⟩) n n)
     clear hdb hcb gb hdc hcc gc hda hba)
  | (at_make;refine zIB rfl _ _ rfl n _ rfl rfl (by omega) nU (Nat.le_refl _) ?_;intro we hpl hbe hze
     have hzd:(wc.setCell ⟨p,2,U⟩ (H (Z ⟨w.heap.size+1,0,U⟩) n n)).heap.size=w.heap.size+2:=by simp [hzc]
     rw [hzd] at hpl hbe hze
     have hde:=hdd.below hbe (by omega)
     have hce:=hcd.below hbe (by omega)
     have hne:=hnd.below hbe (by omega)
     have ge:=zAn gd hbe (by omega)
     have e1:=hde.c1
     have e4:=hde.c4
     have ef:=hde.frozen 4
     have hdf:=hde.set4 (H (Z ⟨w.heap.size+2,0,U⟩) n n)
     have hcf:=hce.far (p:=⟨p,4,U⟩) (by simp;omega) (H (Z ⟨w.heap.size+2,0,U⟩) n n)
     have hnf:=hne.far (p:=⟨p,4,U⟩) (by simp;omega) (H (Z ⟨w.heap.size+2,0,U⟩) n n)
     have hpf:=hpl.far (p:=⟨p,4,U⟩) (by simp;omega) (H (Z ⟨w.heap.size+2,0,U⟩) n n)
     have gf:=zAk ge (p:=⟨p,4,U⟩) (.inl rfl) (H (Z ⟨w.heap.size+2,0,U⟩) n n)
     have q1:=hdf.c1
     clear hdd hcd hnd gd hde hce hne ge))
 clear hcnt hdn hpl a0 a1 a6 af c1 c2 cf e1 e4 ef hc0;have D9:Lets w A n L:=hA;have bE:Hid (∀g:Nat,g≤k→(List.replicate (k+1) (0:Int))[g]? = Z ((gN L (g:Int) 0:Nat):Int)):=qH (fun g hg=>by rw [List.getElem?_replicate,if_pos (by omega)];rfl);have uQ:Hid (∀j,j < n→sat (List.replicate n E) j=(decide (j < 0)&&isP (la L j)&&dwn L j)):=qH (fun j hj=>by unfold sat;rw [List.getElem?_replicate,if_pos hj];simp);have hsz:w.heap.size+3≤(we.setCell ⟨p,4,U⟩ (H (Z ⟨w.heap.size+2,0,U⟩) n n)).heap.size:=by simp;omega
 go_loopw [3,4,5,50] (fun s3 _ _ s50 wr=>∃(i:Nat) (C:List Int) (s:List Bool),i≤n∧s50=D J i∧s3=G (dwn L i)∧Dia wr p (k:Int) A n c (H (Z ⟨w.heap.size+1,0,U⟩) n n) v3 (H (Z ⟨w.heap.size+2,0,U⟩) n n) v5 (H (Z ⟨w.heap.size,0,U⟩) (k+1) (k+1))∧OwnI wr w.heap.size w.heap.size (k+1) C∧OwnB wr (w.heap.size+1) (w.heap.size+1) n s∧OwnI wr (w.heap.size+2) (w.heap.size+2) n (List.replicate n 0)∧w.grownBy wr (Z p)∧w.heap.size+3≤wr.heap.size∧Hid (∀g:Nat,g≤k→C[g]? = Z ((gN L (g:Int) i:Nat):Int))∧Hid (∀j,j < n→sat s j=(decide (j < i)&&isP (la L j)&&dwn L j))) (fun _ _ _ s50 _=>n-(intOf s50).toNat)
 case atStart=>exact ⟨0,_,_,Nat.zero_le _,rfl,rfl,hdf,hcf,hnf,hpf,gf,hsz,bE,uQ⟩
 case round =>
  obtain ⟨i,C,s,hi,rfl,rfl,hdi,hC,hS,hP,hg,hz,HC,HS⟩:=hrel;clear hdf hcf hnf hpf gf hsz bE uQ q1;have dz:=D9.growG hg (fun a ha e=>fI a ha (by injection e));have d2:=hdi.c2;have d6:=hdi.c6;have ik:=hdi.lt;have hh1:=hC.lt;have tu:=hS.lt;by_cases hlt:i < n
  ·obtain ⟨g,o,rfl,hgl,hx,hok⟩:=dz.at_ hlt;obtain ⟨h0,h1,h2,h3,h4,h5⟩:=hx;have i0:(0:Int)≤(i:Int):=by omega
   have i1:(i:Int) < (n:Int):=by omega
   by_cases hp:(la L i).kind=1
   ·have HPP:=qH (zGc hp);obtain ⟨qE,hgk⟩:=zEX HL.out ni.out hlt (zGc hp);obtain ⟨γ,hγ⟩:∃γ:Nat,(la L i).gate=(γ:Int):=⟨(la L i).gate.toNat,by omega⟩
    have hγk:γ≤k:=by omega
    have hcell:=hC.cell (HC.out γ hγk);have hcf:=hC.frozen γ;have hsf:=hS.frozen i;have hsc:=hS.cell hlt;have g0:(0:Int)≤(γ:Int):=by omega
    have g1':(γ:Int) < (k:Int)+1:=by omega
    have hgn:=zUV L (γ:Int) i;rw [hγ] at h1;have HG:=qH hγ;have zM:((la L i).kind==1)=Q:=by simpa using hp
    have qB:=qH (show ∀g:Nat,g≤k→(C.set γ (((gN L (γ:Int) i:Nat):Int)+1))[g]? = Z ((gN L (g:Int) (i+1):Nat):Int) from fun g hg=>by
     have hCl:=hC.len
     rw [zUT (zGc hp) hγ,List.getElem?_set]
     by_cases e:γ=g
     ·subst e
      rw [if_pos rfl,if_pos (by omega),if_pos rfl];rfl
     ·rw [if_neg e,HC.out g hg,if_neg (by omega)];rfl)
    have iY:=qH (show ∀j,j < n→sat (s.set i (dwn L i)) j=(decide (j < i+1)&&isP (la L j)&&dwn L j) from fun j hj=>by
     have hSl:=hS.len
     have hold:=HS.out j hj
     unfold sat at hold ⊢
     rw [List.getElem?_set]
     by_cases e:i=j
     ·subst e
      rw [if_pos rfl,if_pos (by omega),HPP.out];simp
     ·rw [if_neg e,hold]
      congr 2
      rw [decide_eq_decide];omega)
    have rA:=qH (zSm (L:=L) (zGc hp));clear hγ qE hgk hp HC HS;go_wp2_with fail
    go_region
    go_wp2_with fail
    go_roundw
    case rel =>
     refine ⟨i+1,C.set γ (((gN L (γ:Int) i:Nat):Int)+1),s.set i (dwn L i),by omega,by go_num,by rw [rA.out],?_,?_,?_,?_,?_,?_,qB,iY⟩
     ·exact (((hdi.far (q:=⟨w.heap.size,γ,U⟩) (by simp;omega) _).far (q:=⟨w.heap.size+1,i,U⟩) (by simp;omega) _).alloc _).drew
     ·exact (((hC.stored γ _).far (p:=⟨w.heap.size+1,i,U⟩) (by simp) _).alloc _).drew
     ·exact (((hS.far (p:=⟨w.heap.size,γ,U⟩) (by simp) _).stored i _).alloc _).drew
     ·exact (((hP.far (p:=⟨w.heap.size,γ,U⟩) (by simp) _).far (p:=⟨w.heap.size+1,i,U⟩) (by simp) _).alloc _).drew
     ·exact zBS (zBu (zAk (zAk hg (p:=⟨w.heap.size,γ,U⟩) (.inr (by simp)) _) (p:=⟨w.heap.size+1,i,U⟩) (.inr (by simp)) _) _)
     ·simp;omega
    case measure=>simp [intOf];omega
   ·have qB:=qH (fun g (hg:g≤k)=>(HC.out g hg).trans (show Z ((gN L (g:Int) i:Nat):Int)=Z ((gN L (g:Int) (i+1):Nat):Int) by rw [zUU (zGQ hp)]))
    have iY:=qH (show ∀j,j < n→sat s j=(decide (j < i+1)&&isP (la L j)&&dwn L j) from fun j hj=>by
     rw [HS.out j hj]
     by_cases e:j=i
     ·subst e
      rw [zGQ hp];simp
     ·congr 2
      rw [decide_eq_decide];omega)
    have rA:=qH (zSn (L:=L) (zGQ hp));have gI:((la L i).kind==1)=E:=by simpa using hp
    clear hp HC HS;go_wp2_with fail
    go_roundw
    case rel=>exact ⟨i+1,C,s,by omega,by go_num,by rw [rA.out],hdi.alloc _,hC.alloc _,hS.alloc _,hP.alloc _,zAb hg (World.grownBy_alloc _ _ _),by simp;omega,qB,iY⟩
    case measure=>simp [intOf];omega
  ·obtain rfl:n=i:=by omega
   have hfl:=qH (fun t (ht:t≤k+1)=>zWw (t:=t) HL.out ni.out ht);obtain ⟨w1,rfl⟩:∃w1:World,w1=wr:=⟨_,rfl⟩
   have d0:=hdi.c0;clear dz
   go_wp2_with (at_make;refine zIB rfl _ _ rfl (k+1) _ rfl rfl (by omega) ag (Nat.le_refl _) ?_;intro wf hfst hbf hzf
                have hdf:=hdi.next hbf
                have q6:=hdf.c6)
   clear d0 d2 d6 q6;have uP:Hid (∀g:Nat,g < 0→(List.replicate (k+1) (0:Int))[g]? = Z ((fsN L g:Nat):Int)):=qH (fun g hg=>by omega);go_loopw [7,8,9,90] (fun s7 _ _ s90 wr=>∃(t:Nat) (F:List Int),t≤k+1∧s90=D J t∧s7=D J (fsN L t)∧OwnI wr w1.heap.size w1.heap.size (k+1) F∧Below w1.heap.size w1 wr∧Hid (∀g:Nat,g < t→F[g]? = Z ((fsN L g:Nat):Int))) (fun _ _ _ s90 _=>k+1-(intOf s90).toNat)
   case atStart=>exact ⟨0,_,Nat.zero_le _,rfl,rfl,hfst,hbf,uP⟩
   case round =>
    obtain ⟨t,F,ht,rfl,rfl,hF,hbw,HF⟩:=hrel;clear hfst hbf uP hdf;by_cases htl:t < k+1
    ·have vU:=hC.below hbw hC.lt;have hcell:=vU.cell (HC.out t (by omega));have hft:fsN L t≤n:=hfl.out t (by omega);have hgt:=zUV L (t:Int) n;have yb:=hF.len;obtain ⟨y,hy⟩:∃y,F[t]? = Z y:=⟨_,List.getElem?_eq_getElem (by omega)⟩
     have hfc:=hF.cell hy;have hff:=hF.frozen t;have t0:(0:Int)≤(t:Int):=by omega
     have t1:(t:Int) < (k:Int)+1:=by omega
     have cO:=qH (show ∀g:Nat,g < t+1→(F.set t ((fsN L t:Nat):Int))[g]? = Z ((fsN L g:Nat):Int) from fun g hg=>by
      rw [List.getElem?_set]
      by_cases e:t=g
      ·subst e
       rw [if_pos rfl,if_pos (by omega)]
      ·rw [if_neg e];exact HF.out g (by omega))
     have rz:=qH (show fsN L (t+1)=fsN L t+gN L (t:Int) n by
      have h:fsN L (t+1)=fsN L t+gN L (t:Int) L.length:=rfl
      rw [h,HL.out])
     clear HF yb hy;go_wp2_with fail
     go_roundw
     case rel=>exact ⟨t+1,F.set t ((fsN L t:Nat):Int),by omega,by go_num,by rw [rz.out];go_num,hF.stored t _,hbw.setCell (p:=⟨w1.heap.size,t,U⟩) (Nat.le_refl _) _,cO⟩
     case measure=>simp [intOf];omega
    ·obtain rfl:t=k+1:=by omega
     have ip:=hdi.next hbw;have vU:=hC.below hbw hC.lt;have AD:=hS.below hbw hS.lt;have vH:=hP.below hbw hP.lt;have bn:=zAn hg hbw hg.size;have hm:=zQu HL.out ni.out;have hmn:fsN L (k+1)≤n:=hfl.out (k+1) (Nat.le_refl _);obtain ⟨m,hmm⟩:∃m,m=fsN L (k+1):=⟨_,rfl⟩
     have HM:=qH (show m=(axL L).length by rw [hmm,hm,zEJ,HL.out]);rw [←hmm] at hmn ⊢;have Co:=qH hmm;have vc:m≤17592186044416:=by omega
     obtain ⟨w2,rfl⟩:∃w2:World,w2=wr:=⟨_,rfl⟩
     have hF12:=hF.lt;clear hm hmm hdi hC hS hP hg hbw
     go_wp2_with (first
      | (at_make;refine zIB rfl _ _ rfl m _ rfl rfl (by omega) vc (Nat.le_refl _) ?_;intro w3 hX ac hz3
         have nX:=ip.next ac
         have e3:=nX.c3
         have ef3:=nX.frozen 3
         have Dz:=nX.set3 (H (Z ⟨w2.heap.size,0,U⟩) m m)
         have kD:=hX.far (p:=⟨p,3,U⟩) (by simp;omega) (H (Z ⟨w2.heap.size,0,U⟩) m m)
         have D5:=(vU.below ac vU.lt).far (p:=⟨p,3,U⟩) (by simp;omega) (H (Z ⟨w2.heap.size,0,U⟩) m m)
         have vF:=(AD.below ac AD.lt).far (p:=⟨p,3,U⟩) (by simp;omega) (H (Z ⟨w2.heap.size,0,U⟩) m m)
         have DO:=(vH.below ac vH.lt).far (p:=⟨p,3,U⟩) (by simp;omega) (H (Z ⟨w2.heap.size,0,U⟩) m m)
         have AU:=(hF.below ac hF.lt).far (p:=⟨p,3,U⟩) (by simp;omega) (H (Z ⟨w2.heap.size,0,U⟩) m m)
         have dj:=zAk (zAn bn ac bn.size) (p:=⟨p,3,U⟩) (.inl rfl) (H (Z ⟨w2.heap.size,0,U⟩) m m)
         clear ip vU AD vH bn hX nX hF)
      | (at_make;refine zMN rfl _ _ rfl m _ rfl rfl (by omega) vc (Nat.le_refl _) ?_;intro w5 hT ai zj
         have zA:(w3.setCell ⟨p,3,U⟩ (H (Z ⟨w2.heap.size,0,U⟩) m m)).heap.size=w2.heap.size+1:=by simp [hz3]
         rw [zA] at hT ai zj
         have xH:=Dz.below ai (by omega)
         have oh:=kD.below ai (by omega)
         have D4:=D5.below ai (by omega)
         have DH:=vF.below ai (by omega)
         have DN:=DO.below ai (by omega)
         have AT:=AU.below ai (by have:=AU.lt;omega)
         have im:=zAn dj ai (by omega)
         have r1:=xH.c1
         clear Dz kD D5 vF DO AU dj e3 ef3))
     obtain ⟨H2,DW⟩:∃H2,H2=w2.heap.size:=⟨_,rfl⟩
     obtain ⟨H1,DX⟩:∃H1,H1=w1.heap.size:=⟨_,rfl⟩
     rw [←DW] at xH oh hT ⊢;rw [←DX] at AT ⊢;have hsz5:w.heap.size+3≤H1∧H1 < H2∧H2+2≤w5.heap.size:=by omega
     have uO:Hid (∀j,j < 0→isP (la L j)=Q→(List.replicate m (0:Int))[atN L j]? = Z (j:Int)∧(List.replicate n (0:Int))[j]? = Z ((atN L j:Nat):Int)):=qH (fun j hj=>by omega)
     have uN:Hid (∀t,t < m→(sat (List.replicate m E) t=Q↔∃j,j < 0∧isP (la L j)=Q∧atN L j=t)):=qH (fun t ht=>by
      unfold sat
      rw [List.getElem?_replicate,if_pos ht]
      simp)
     have uM:Hid (∀j,j < 0→rkB L j=Q):=qH (fun j hj=>by omega);clear ik hh1 tu hbc hzb hbe hzd hza hzc hze r1 DX DW
     go_loopw [11,12,13,116] (fun _ _ _ s116 wr=>∃(i:Nat) (X P:List Int) (T:List Bool),i≤n∧s116=D J i∧Dia wr p (k:Int) A n c (H (Z ⟨w.heap.size+1,0,U⟩) n n) (H (Z ⟨H2,0,U⟩) m m) (H (Z ⟨w.heap.size+2,0,U⟩) n n) v5 (H (Z ⟨w.heap.size,0,U⟩) (k+1) (k+1))∧OwnI wr H2 H2 m X∧OwnI wr w.heap.size w.heap.size (k+1) C∧OwnB wr (w.heap.size+1) (w.heap.size+1) n s∧OwnI wr (w.heap.size+2) (w.heap.size+2) n P∧OwnI wr H1 H1 (k+1) F∧OwnB wr (H2+1) (H2+1) m T∧w.grownBy wr (Z p)∧H2+2≤wr.heap.size ∧
      Hid (∀j,j < i→isP (la L j)=Q→X[atN L j]? = Z (j:Int)∧P[j]? = Z ((atN L j:Nat):Int))∧Hid (∀t,t < m→(sat T t=Q↔∃j,j < i∧isP (la L j)=Q∧atN L j=t))∧Hid (∀j,j < i→rkB L j=Q)) (fun _ _ _ s116 _=>n-(intOf s116).toNat)
     case atStart=>exact ⟨0,_,_,_,Nat.zero_le _,rfl,xH,oh,D4,DH,DN,AT,hT,im,by omega,uO,uN,uM⟩
     case round =>
      obtain ⟨i,X,P,T,hi,rfl,hD,hX,hC,hS,hP,hF,hT,hg,hz,HX,HT,HR⟩:=hrel;clear xH oh D4 DH DN AT im uO uN uM;have dz:=D9.growG hg (fun a ha e=>fI a ha (by injection e));have e1:=hD.c1;have e3:=hD.c3;have e4:=hD.c4;have e6:=hD.c6;have l0:=hD.lt;have l1:=hC.lt;have l2:=hX.lt;have l3:=hP.lt;have l4:=hF.lt;have l5:=hT.lt;by_cases hlt:i < n
      ·obtain ⟨g,o,rfl,hgl,hx,hok⟩:=dz.at_ hlt;obtain ⟨h0,h1,h2,h3,h4,h5⟩:=hx;have i0:(0:Int)≤(i:Int):=by omega
       have i1:(i:Int) < (n:Int):=by omega
       by_cases hp:(la L i).kind=1
       ·have hpt:=zGc hp;obtain ⟨qE,hgk⟩:=zEX HL.out ni.out hlt hpt;obtain ⟨γ,hγ⟩:∃γ:Nat,(la L i).gate=(γ:Int):=⟨(la L i).gate.toNat,by omega⟩
        have hγk:γ≤k:=by omega
        have cC:=hC.cell (HC.out γ hγk);have g0:(0:Int)≤(γ:Int):=by omega
        have g1':(γ:Int) < (k:Int)+1:=by omega
        have hgn:=zUV L (γ:Int) n;obtain ⟨r,hr⟩:∃r,r=(la L i).rank:=⟨_,rfl⟩
        have uY:=hok.rank;rw [←hr] at h2 uY;obtain ⟨r64a,r64b⟩:=uY;rw [hγ] at h1;have zM:((la L i).kind != 1)=E:=by simpa using hp
        have EZ:=qH hpt;have yo:=qH hr;have HG:=qH hγ
        have hrk:Hid (rkB L i=Q↔((1≤r∧r≤(gN L (γ:Int) n:Int))∧∀j,j < i→isP (la L j)=Q→(la L j).gate=(γ:Int)→(la L j).rank≠r)):=qH (by
         rw [zBo,←hr,hγ,HL.out]
         exact ⟨fun h=>h hpt,fun h _=>h⟩)
        clear hp hpt qE hgk hr hγ
        cases q1:decide (r < 1) with
        | true =>
         have xt:r < 1:=by simpa using q1
         have hf:=qH (zIi (L:=L) HL.out hlt (by
          cases hq:rkB L i with
          | false=>rfl
          | true=>have:=(hrk.out.1 hq).1;omega))
         clear HX HT HR;go_wp2_with fail
         go_quiet (fail)
         go_wp2_with fail
         go_ret;exact ⟨zAj hf.out.symm,zBN (zBu hg _) _,fun h=>by rw [hf.out] at h;cases h⟩
        | false =>
         have xt:¬r < 1:=by simpa using q1
         cases q2:decide (((gN L (γ:Int) n:Nat):Int) < r) with
         | true =>
          have xq:((gN L (γ:Int) n:Nat):Int) < r:=by simpa using q2
          have hf:=qH (zIi (L:=L) HL.out hlt (by
           cases hq:rkB L i with
           | false=>rfl
           | true=>have:=(hrk.out.1 hq).1;omega))
          clear HX HT HR;go_wp2_with fail
          go_quiet (fail)
          go_wp2_with fail
          go_ret;exact ⟨zAj hf.out.symm,zBN (zBu hg _) _,fun h=>by rw [hf.out] at h;cases h⟩
         | false =>
          have xq:¬((gN L (γ:Int) n:Nat):Int) < r:=by simpa using q2
          obtain ⟨a,ha⟩:∃a,a=atN L i:=⟨_,rfl⟩
          have hav:(a:Int)=(fsN L γ:Int)+r-1:=by
           rw [ha];unfold atN;rw [HG.out,←yo.out];simp;omega
          have ham:a < m:=by
           have h1:=Co.out;have h2:fsN L γ+gN L (γ:Int) n≤fsN L (k+1):=by
            have:=zGW L (a:=γ) (b:=k+1) (by omega)
            rwa [HL.out] at this
           omega
          have HA:=qH ha;clear ha;have s5:=hav.symm;clear hav;have a0:(0:Int)≤(a:Int):=by omega
          have a1:(a:Int) < (m:Int):=by omega
          go_wp2_with fail
          go_quiet (fail)
          generalize hwq:(World.alloc wr _).drewN nq=wq;have hbq:Below wr.heap.size wr wq:=by rw [←hwq];exact zAf ((Below.refl _ _).alloc (Nat.le_refl _) _) _
          have hgq:w.grownBy wq (Z p):=zAn hg hbq hg.size;have hblk:Blk wq wr.heap.size 76 #[D J (la L i).kind,D J (γ:Int),D J r,D J (la L i).id,D J (la L i).sign,G (la L i).over]:=by rw [←hwq];exact (Blk.new wr _ _).drewN nq
          have b1:=hblk.cell 1;have b2:=hblk.cell 2;simp at b1 b2;have D3:=hD.next hbq;have xN:=hX.below hbq l2;have AY:=hC.below hbq l1;have Az:=hS.below hbq hS.lt;have tJ:=hP.below hbq l3;have ya:=hF.below hbq l4;have xR:=hT.below hbq l5;have cFq:=ya.cell (HF.out γ (by omega));have BK:=xR.cell ham;have fPq:=tJ.frozen i;have Ap:=xN.len;have hPl:=tJ.len;obtain ⟨xa,hxa⟩:∃x,X[a]? = Z x:=⟨_,List.getElem?_eq_getElem (by omega)⟩
          obtain ⟨pa,hpa⟩:∃x,P[i]? = Z x:=⟨_,List.getElem?_eq_getElem (by omega)⟩
          have cPq:=tJ.cell hpa;have m1:=AY.lt;have m2:=xN.lt;have m3:=tJ.lt;have m4:=ya.lt;have m5:=xR.lt;have ER:=qH hxa;have ic:=qH hpa;clear hwq hxa hpa Ap hPl hD hX hC hS hP hF hT hg e1 e3 e4 e6 cC h0 h1 h2 h3 h4 h5 l0 l1 l2 l3 l4 l5
          cases hta:sat T a with
          | true =>
           rw [hta] at BK
           have hf:=qH (zIi (L:=L) HL.out hlt (by
            cases hq:rkB L i with
            | false=>rfl
            | true =>
             obtain ⟨j,j1,j2,j3⟩:=(HT.out a ham).1 hta
             have e1:=hrk.out.1 hq
             have e2:=(zBo.1 (HR.out j j1) j2).1
             rw [HL.out] at e2
             have e3:=zWx (i:=j) (j:=i) HL.out (zEX HL.out ni.out (by omega) j2).1 (zEX HL.out ni.out hlt EZ.out).1 e2 (by rw [HG.out,←yo.out];exact e1.1) (by rw [j3,HA.out])
             exact absurd (by rw [e3.2,yo.out]) (e1.2 j j1 j2 (by rw [e3.1,HG.out]))))
           clear HX HT HR hta;go_wp2_with fail
           go_quiet (fail)
           go_wp2_with fail
           go_ret;exact ⟨zAj hf.out.symm,zBN hgq _,fun h=>by rw [hf.out] at h;cases h⟩
          | false =>
           rw [hta] at BK
           have rA:=qH (show ∀j,j < i+1→rkB L j=Q from fun j hj=>by
            rcases Nat.decEq j i with e | e
            ·exact HR.out j (by omega)
            ·subst e
             refine hrk.out.2 ⟨by omega,fun j' h1 h2 h3 h4=>?_⟩
             have:sat T a=Q:=(HT.out a ham).2 ⟨j',h1,h2,by rw [HA.out];unfold atN;rw [h3,h4,HG.out,yo.out]⟩
             rw [hta] at this;cases this)
           have hinj:=qH (show ∀j,j < i→isP (la L j)=Q→atN L j≠a from fun j h1 h2 h3=>by
            have:sat T a=Q:=(HT.out a ham).2 ⟨j,h1,h2,h3⟩
            rw [hta] at this;cases this)
           have qB:=qH (show ∀j,j < i+1→isP (la L j)=Q→(X.set a (i:Int))[atN L j]? = Z (j:Int)∧(P.set i (a:Int))[j]? = Z ((atN L j:Nat):Int) from fun j hj hpj=>by
            have x1:=(List.getElem?_eq_some_iff.1 ER.out).1
            have x2:=(List.getElem?_eq_some_iff.1 ic.out).1
            rw [List.getElem?_set,List.getElem?_set]
            rcases Nat.decEq j i with e | e
            ·have h1:=hinj.out j (by omega) hpj
             have h2:=HX.out j (by omega) hpj
             rw [if_neg (fun h=>h1 h.symm),if_neg (fun h=>e h.symm)]
             exact h2
            ·subst e
             rw [if_pos HA.out,if_pos x1,if_pos rfl,if_pos x2,HA.out]
             exact ⟨rfl,rfl⟩)
           have iY:=qH (show ∀t,t < m→(sat (T.set a Q) t=Q↔∃j,j < i+1∧isP (la L j)=Q∧atN L j=t) from fun t ht=>by
            rw [zPa,Bool.or_eq_true,HT.out t ht]
            simp only [decide_eq_true_eq]
            constructor
            ·rintro (⟨j,b1,b2,b3⟩ | rfl)
             ·exact ⟨j,by omega,b2,b3⟩
             ·exact ⟨i,by omega,EZ.out,HA.out.symm⟩
            ·rintro ⟨j,b1,b2,b3⟩
             rcases Nat.decEq j i with e | e
             ·exact .inl ⟨j,by omega,b2,b3⟩
             ·subst e;exact .inr (by rw [HA.out,b3]))
           clear HX HT HR hta;go_wp2_with fail
           go_quiet (fail)
           go_wp2_with fail
           generalize hwx:wq.drewN nq=wx;have hbx:Below wq.heap.size wq wx:=by rw [←hwx];exact zAf (Below.refl _ _) _
           have hgx:w.grownBy wx (Z p):=zAn hgq hbx hgq.size;have sB:=D3.next hbx;have Ao:=xN.below hbx m2;have hCx:=AY.below hbx m1;have hSx:=Az.below hbx Az.lt;have hPx:=tJ.below hbx m3;have hFx:=ya.below hbx m4;have xQ:=xR.below hbx m5;have cTx:=xQ.cell ham;have fTx:=xQ.frozen a;have fXx:=Ao.frozen a;have fPx:=hPx.frozen i;have cXx:=Ao.cell ER.out;have cPx:=hPx.cell ic.out;have y3:=sB.c3;have y4:=sB.c4;have n5:=xQ.lt;clear hwx hgq D3 xN AY Az tJ ya xR cFq BK fPq cPq m1 m2 m3 m4 m5 b1 b2 hbx hblk hbq s5;go_region
           all_goals
            go_wp2_with fail
            go_roundw
            case rel =>
             refine ⟨i+1,X.set a (i:Int),P.set i (a:Int),T.set a Q,by omega,by go_num,?_,?_,?_,?_,?_,?_,?_,?_,?_,qB,iY,rA⟩
             ·repeat (first | with_reducible exact sB | with_reducible apply Dia.drew | with_reducible apply Dia.drewN | ((with_reducible refine Dia.farG ?_ ?_);focus (first | (simp;done) | (simp;omega))))
             ·repeat (first | with_reducible exact Ao | with_reducible apply OwnI.drew | with_reducible apply OwnI.drewN | with_reducible apply OwnI.storedG | ((with_reducible refine OwnI.farG ?_ ?_);focus (first | (simp;done) | (simp;omega))))
             ·repeat (first | with_reducible exact hCx | with_reducible apply OwnI.drew | with_reducible apply OwnI.drewN | ((with_reducible refine OwnI.farG ?_ ?_);focus (first | (simp;done) | (simp;omega))))
             ·repeat (first | with_reducible exact hSx | with_reducible apply OwnB.drew | with_reducible apply OwnB.drewN | ((with_reducible refine OwnB.farG ?_ ?_);focus (first | (simp;done) | (simp;omega))))
             ·repeat (first | with_reducible exact hPx | with_reducible apply OwnI.drew | with_reducible apply OwnI.drewN | with_reducible apply OwnI.storedG | ((with_reducible refine OwnI.farG ?_ ?_);focus (first | (simp;done) | (simp;omega))))
             ·repeat (first | with_reducible exact hFx | with_reducible apply OwnI.drew | with_reducible apply OwnI.drewN | ((with_reducible refine OwnI.farG ?_ ?_);focus (first | (simp;done) | (simp;omega))))
             ·repeat (first | with_reducible exact xQ | with_reducible apply OwnB.drew | with_reducible apply OwnB.drewN | with_reducible apply OwnB.storedG | ((with_reducible refine OwnB.farG ?_ ?_);focus (first | (simp;done) | (simp;omega))))
             ·repeat (first | with_reducible exact hgx | with_reducible apply zBS | with_reducible apply zBN | ((with_reducible refine zQv ?_ ?_);focus (first | (simp;done) | (simp;omega))))
             ·simp;omega
            case measure=>simp [intOf];omega
       ·have hpf:=zGQ hp
        have qB:=qH (show ∀j,j < i+1→isP (la L j)=Q→X[atN L j]? = Z (j:Int)∧P[j]? = Z ((atN L j:Nat):Int) from fun j hj hpj=>HX.out j (by
         rcases Nat.decEq j i with e | e
         ·omega
         ·subst e;rw [hpf] at hpj;cases hpj) hpj)
        have iY:=qH (show ∀t,t < m→(sat T t=Q↔∃j,j < i+1∧isP (la L j)=Q∧atN L j=t) from fun t ht=>(HT.out t ht).trans ⟨fun ⟨j,h1,h2⟩=>⟨j,by omega,h2⟩,fun ⟨j,b1,b2,b3⟩=>⟨j,(by
         rcases Nat.decEq j i with e | e
         ·omega
         ·subst e;rw [hpf] at b2;cases b2),b2,b3⟩⟩)
        have rA:=qH (show ∀j,j < i+1→rkB L j=Q from fun j hj=>by
         rcases Nat.decEq j i with e | e
         ·exact HR.out j (by omega)
         ·subst e;exact zBo.2 (fun h=>by rw [hpf] at h;cases h))
        have gI:((la L i).kind != 1)=Q:=by simpa using hp
        clear hp HX HT HR hpf;go_wp2_with fail
        go_roundw
        case rel=>exact ⟨i+1,X,P,T,by omega,by go_num,hD.alloc _,hX.alloc _,hC.alloc _,hS.alloc _,hP.alloc _,hF.alloc _,hT.alloc _,zBu hg _,by simp;omega,qB,iY,rA⟩
        case measure=>simp [intOf];omega
      ·obtain rfl:n=i:=by omega
       have hr:zCx L=Q:=by
        unfold zCx;rw [HL.out,zAv];exact HR.out
       have HRP:=qH hr;clear hr;go_wp2_with fail
       go_ret;refine ⟨zAj HRP.out.symm,hg,fun _=>?_⟩;have Ap:X=zEM (axL L):=by
        have hgt:∀i,i < L.length→isP (la L i)=Q→0≤(la L i).gate:=fun i hi hp=>(zEX HL.out ni.out (by rw [←HL.out];exact hi) hp).1
        have hrk:∀i,i < L.length→rkB L i=Q:=fun i hi=>HR.out i (by rw [←HL.out];exact hi)
        apply List.ext_getElem?;intro t;rcases Nat.lt_or_ge t m with ht | ht
        ·have htl:t < (axL L).length:=by rw [←HM.out];exact ht
         obtain ⟨a1,a2⟩:=zBR htl;have h1:=zVN hgt hrk a2 a1;have h2:(axL L)[t]? = Z (xat (axL L) t):=by unfold xat;rw [List.getElem?_eq_getElem htl];rfl
         have h3:atN L (xat (axL L) t)=t:=by
          have e1:=zHq (zJb hrk) h1;rw [zHq (zJb hrk) h2] at e1;exact e1.symm
         have h4:=(HX.out _ (by rw [←HL.out];exact a2) a1).1;rw [h3] at h4;rw [h4,zDL htl]
        ·rw [List.getElem?_eq_none (by rw [hX.len];exact ht),List.getElem?_eq_none (by rw [zFh,←HM.out];exact ht)]
       rw [Ap] at hX;have hm':=HM.out;subst hm';exact ⟨_,_,_,_,s,P,C,hD,⟨hS.blk,by omega,hS.len⟩,⟨hX.blk,by omega,hX.len⟩,⟨hP.blk,by omega,hP.len⟩,⟨hC.blk,by omega,hC.len⟩,fun j hj=>by rw [HS.out j (by rw [←HL.out];exact zBA hj),hj];simp;intro h;have:=zBA hj;rw [HL.out] at this;omega,fun j hj=>(HX.out j (by rw [←HL.out];exact zBA hj) hj).2,HC.out,fun j hj hp=>by rw [HS.out j hj,hp];simp⟩
end Go.Proofs.YtlmdfmnbcndhoaaGreatDoor
