/-
  Lemmas, part 27. Conditions: each theorem's own.
-/
import Derived.Test.YtlmdfmnbcndhoaaGreatDoorRc26
import Derived.Test.YtlmdfmnbcndhoaaGreatDoorRc12
import Derived.BigRegion
open Go.Value renaming bool→G,int→D,slice→H
open Option renaming none→U,some→Z
open Bool renaming false→E,true→Q
open Go.IntKind renaming i64→J
namespace Go.Proofs.YtlmdfmnbcndhoaaGreatDoor
open Go.RowKit
structure DiaR (w:World) (base p:Nat) (k:Nat) (A:Option Addr) (n c:Nat) (L:List Lt) (v5:Value) (g2 g3 g4 g6:Nat) (s:List Bool) (P C:List Int):Prop where
 dia:Dia w p (k:Int) A n c (H (Z ⟨g2,0,U⟩) n n) (.slice (Z ⟨g3,0,U⟩) (axL L).length (axL L).length) (H (Z ⟨g4,0,U⟩) n n) v5 (H (Z ⟨g6,0,U⟩) (k+1) (k+1))
 down:OwnB w base g2 n s
 axis:OwnI w base g3 (axL L).length (zEG (axL L))
 place:OwnI w base g4 n P
 count:OwnI w base g6 (k+1) C
 downs:∀i,isP (la L i)=Q→sat s i=dwn L i
 places:∀i,isP (la L i)=Q→P[i]? = Z ((atN L i:Nat):Int)
 counts:∀g:Nat,g≤k→C[g]? = Z ((gN L (g:Int) n:Nat):Int)
 ndown:∀i,i < n→isP (la L i)=E→sat s i=E
section
variable {w:World} {p:Nat} {K:Int} {A:Option Addr} {n c:Nat} {v2 v3 v4 v5 v6:Value}
theorem Dia.set2 (h:Dia w p K A n c v2 v3 v4 v5 v6) (u:Value):Dia (w.setCell ⟨p,2,U⟩ u) p K A n c u v3 v4 v5 v6:=Blk.set_ h 2 u
theorem Dia.set3 (h:Dia w p K A n c v2 v3 v4 v5 v6) (u:Value):Dia (w.setCell ⟨p,3,U⟩ u) p K A n c v2 u v4 v5 v6:=Blk.set_ h 3 u
theorem Dia.set4 (h:Dia w p K A n c v2 v3 v4 v5 v6) (u:Value):Dia (w.setCell ⟨p,4,U⟩ u) p K A n c v2 v3 u v5 v6:=Blk.set_ h 4 u
theorem Dia.set5 (h:Dia w p K A n c v2 v3 v4 v5 v6) (u:Value):Dia (w.setCell ⟨p,5,U⟩ u) p K A n c v2 v3 v4 u v6:=Blk.set_ h 5 u
theorem Dia.set6 (h:Dia w p K A n c v2 v3 v4 v5 v6) (u:Value):Dia (w.setCell ⟨p,6,U⟩ u) p K A n c v2 v3 v4 v5 u:=Blk.set_ h 6 u
theorem Dia.alloc (h:Dia w p K A n c v2 v3 v4 v5 v6) (o:Obj):Dia (w.alloc o) p K A n c v2 v3 v4 v5 v6:=Blk.alloc h o
theorem Dia.drew (h:Dia w p K A n c v2 v3 v4 v5 v6):Dia w.drew p K A n c v2 v3 v4 v5 v6:=h
theorem Dia.far (h:Dia w p K A n c v2 v3 v4 v5 v6) {q:Addr} (hq:p≠q.block) (u:Value):Dia (w.setCell q u) p K A n c v2 v3 v4 v5 v6:=Blk.far h hq u
end
def zPR (w:World) (p k:Nat) (A:Option Addr) (n c:Nat) (L:List Lt) (v5:Value) (e:Ending) (w':World):Prop :=
 e=.returned (G (zCy L))∧w.grownBy w' (Z p)∧(zCy L=Q→∃g2 g3 g4 g6 s P C,DiaR w' w.heap.size p k A n c L v5 g2 g3 g4 g6 s P C)
theorem Lets.growG {w w':World} {n:Nat} {L:List Lt} {row:Option Nat} {A:Option Addr} (hg:w.grownBy w' row) (hne:∀a,A=Z a→row≠Z a.block) (h:Lets w A n L):Lets w' A n L :=
 ⟨h.1,h.2.1,h.2.2.1,fun hn=>by
  obtain ⟨g,o,e,hb,hc⟩:=h.2.2.2 hn
  refine ⟨g,o,e,Nat.lt_of_lt_of_le hb hg.size,fun j x hx=>(hc j x hx).keep fun q hq=>?_⟩
  exact World.cell?_of_block (hg.block _ (by rw [hq];exact hb) (by rw [hq];exact fun h=>hne _ e h.symm))⟩
theorem zES {K:Int} {L:List Lt} {n i:Nat} (hL:L.length=n) (h:zAB K L=Q) (hi:i < n) (hp:isP (la L i)=Q):0≤(la L i).gate∧(la L i).gate≤K:=by
 unfold zAB at h;rw [zAF] at h;have:=h i (by omega);unfold lpB at this;rw [if_pos (by unfold isP at hp;simpa using hp)] at this;simp only [decide_eq_true_eq] at this;exact ⟨this.1,this.2.1⟩
theorem zUP {L:List Lt} {g γ:Int} {i:Nat} (hp:isP (la L i)=Q) (hg:(la L i).gate=γ):gN L g (i+1)=gN L g i+(if γ=g then 1 else 0):=by
 unfold gN;by_cases h:γ=g
 ·rw [zAA (by rw [hp,hg];simp [h]),if_pos h]
 ·rw [zAp (by rw [hp,hg];simp [h]),if_neg h];rfl
theorem zUQ {L:List Lt} {g:Int} {i:Nat} (hp:isP (la L i)=E):gN L g (i+1)=gN L g i:=zAp (by rw [hp];rfl)
theorem zSh {L:List Lt} {i:Nat} (hp:isP (la L i)=Q):dwn L (i+1) = !dwn L i:=by
 have h:pN L (i+1)=pN L i+1:=zAA hp;unfold dwn;rw [h,Bool.eq_iff_iff];simp;omega
theorem zSi {L:List Lt} {i:Nat} (hp:isP (la L i)=E):dwn L (i+1)=dwn L i:=by
 have h:pN L (i+1)=pN L i:=zAp hp;unfold dwn;rw [h]
theorem zPS {k:Nat} {L:List Lt} {n:Nat} (hL:L.length=n) (h:zAB (k:Int) L=Q):fsN L (k+1)=pN L n:=by
 unfold fsN pN
 rw [zEh (p:=fun i=>isP (la L i)) (c:=fun i=>(la L i).gate.toNat) (n:=n) (k:=k+1) (by
  intro m hm hp
  have:=zES hL h hm hp
  omega),hL]
 refine zEg fun d _=>zFa fun m hm=>?_
 cases hp:isP (la L m) with
 | false=>rfl
 | true =>
  have:=zES hL h hm hp;simp only [Bool.true_and];rw [Bool.eq_iff_iff];simp;omega
theorem zWt {k:Nat} {L:List Lt} {n:Nat} (hL:L.length=n) (h:zAB (k:Int) L=Q) {t:Nat} (ht:t≤k+1):fsN L t≤n:=by
 have h1:=zPS hL h;have h2:=zIe L n;rcases Nat.lt_or_ge t (k+1) with hl | hl
 ·have:=zGM L hl;omega
 ·have:t=k+1:=by omega
  subst this;omega
theorem zWu {L:List Lt} {n i j:Nat} (hL:L.length=n) (hgi:0≤(la L i).gate) (hgj:0≤(la L j).gate) (hi:1≤(la L i).rank∧(la L i).rank≤(gN L (la L i).gate n:Int)) (hj:1≤(la L j).rank∧(la L j).rank≤(gN L (la L j).gate n:Int)) (h:atN L i=atN L j) :
  (la L i).gate=(la L j).gate∧(la L i).rank=(la L j).rank:=by
 unfold atN at h;rw [←hL] at hi hj;rcases Int.lt_trichotomy (la L i).gate (la L j).gate with hl | he | hl
 ·have:=zGM L (a:=(la L i).gate.toNat) (b:=(la L j).gate.toNat) (by omega);rw [show (((la L i).gate.toNat:Nat):Int)=(la L i).gate by omega] at this;omega
 ·rw [he] at h;omega
 ·have:=zGM L (a:=(la L j).gate.toNat) (b:=(la L i).gate.toNat) (by omega);rw [show (((la L j).gate.toNat:Nat):Int)=(la L j).gate by omega] at this;omega
theorem zHT {L:List Lt} {n i:Nat} (hL:L.length=n) (hi:i < n) (h:rkB L i=E):zCy L=E:=by
 unfold zCy;rw [hL];exact zDq hi h
theorem zBM {a b:World} {row:Option Nat} (h:a.grownBy b row) (k:Nat):a.grownBy (b.drewN k) row:=⟨h.os,h.tape,h.output,h.size,h.block⟩
section
variable {w:World} {p:Nat} {K:Int} {A:Option Addr} {n c:Nat} {v2 v3 v4 v5 v6:Value} {base g:Nat} {L:List Int} {s:List Bool}
theorem Dia.drewN (h:Dia w p K A n c v2 v3 v4 v5 v6) (k:Nat):Dia (w.drewN k) p K A n c v2 v3 v4 v5 v6:=h
theorem Dia.farG {q:Addr} {u:Value} (hq:p≠q.block) (h:Dia w p K A n c v2 v3 v4 v5 v6):Dia (w.setCell q u) p K A n c v2 v3 v4 v5 v6:=Blk.far h hq u
theorem OwnI.farG {q:Addr} {u:Value} (hq:g≠q.block) (h:OwnI w base g n L):OwnI (w.setCell q u) base g n L:=h.far hq u
theorem OwnB.farG {q:Addr} {u:Value} (hq:g≠q.block) (h:OwnB w base g n s):OwnB (w.setCell q u) base g n s:=h.far hq u
theorem OwnI.storedG {k:Nat} {x:Int} (h:OwnI w base g n L):OwnI (w.setCell ⟨g,k,U⟩ (D J x)) base g n (L.set k x):=h.stored k x
theorem OwnB.storedG {k:Nat} {x:Bool} (h:OwnB w base g n s):OwnB (w.setCell ⟨g,k,U⟩ (G x)) base g n (s.set k x):=h.stored k x
theorem zPT {a b:World} {q:Addr} {u:Value} (hq:q.block=p∨a.heap.size≤q.block) (h:a.grownBy b (Z p)):a.grownBy (b.setCell q u) (Z p):=zAg h hq u
end
theorem zUR (L:List Lt) (g:Int) (k:Nat):gN L g k≤k:=zBs _ _
set_option maxRecDepth 100000 in
set_option maxHeartbeats 6400000 in
theorem zKL (p k:Nat) (A:Option Addr) (n c:Nat) (L:List Lt) (v2 v3 v4 v5 v6:Value) (w:World) (hA:Lets w A n L) (hn:n≤400) (jt:k≤40) (hl:zAB (k:Int) L=Q)
  (f8:∀a,A=Z a→p≠a.block) (hd:Dia w p (k:Int) A n c v2 v3 v4 v5 v6) :
  Calls Tryz.prog 177 #[.pointer (Z ⟨p,0,U⟩)] w (zPR w p k A n c L v5):=by
 have HL:=qH hA.len;have n9:=qH hl;clear hl;have hc0:=hd.c0;have hplt:=hd.lt;have ag:k+1≤17592186044416:=by omega
 have lr:n≤17592186044416:=by omega
 go_enter Tryz.func177,Tryz.ntmps177
 go_wp2_with (first
  | (at_make;refine zGq rfl _ _ rfl (k+1) _ rfl rfl (by omega) ag (Nat.le_refl _) ?_;intro wa hcnt hba hza
     have hda:=(hd.next hba)
     have a0:=hda.c0
     have a1:=hda.c1
     have a6:=hda.c6
     have af:=hda.frozen 6
     have hdb:=hda.set6 (H (Z ⟨w.heap.size,0,U⟩) (k+1) (k+1))
     have hcb:=hcnt.far (p:=⟨p,6,U⟩) (by simp;omega) (H (Z ⟨w.heap.size,0,U⟩) (k+1) (k+1))
     have gb:=zAg (zDK hba (Z p)) (p:=⟨p,6,U⟩) (.inl rfl) (H (Z ⟨w.heap.size,0,U⟩) (k+1) (k+1)))
  | (at_make;refine zMs rfl _ _ rfl n _ rfl rfl (by omega) lr (Nat.le_refl _) ?_;intro wc hdn hbc hzc
     have hzb:(wa.setCell ⟨p,6,U⟩ (H (Z ⟨w.heap.size,0,U⟩) (k+1) (k+1))).heap.size=w.heap.size+1:=by simp [hza]
     rw [hzb] at hdn hbc hzc
     have hdc:=hdb.below hbc (by omega)
     have hcc:=hcb.below hbc (by omega)
     have gc:=zAm gb hbc (by omega)
     have c1:=hdc.c1
     have c2:=hdc.c2
     have cf:=hdc.frozen 2
     have hdd:=hdc.set2 (H (Z ⟨w.heap.size+1,0,U⟩) n n)
     have hcd:=hcc.far (p:=⟨p,2,U⟩) (by simp;omega) (H (Z ⟨w.heap.size+1,0,U⟩) n n)
     have hnd:=hdn.far (p:=⟨p,2,U⟩) (by simp;omega) (H (Z ⟨w.heap.size+1,0,U⟩) n n)
     have gd:=zAg gc (p:=⟨p,2,U⟩) (.inl rfl) (H (Z ⟨w.heap.size+1,0,U⟩) n n)
     clear hdb hcb gb hdc hcc gc hda hba)
  | (at_make;refine zGq rfl _ _ rfl n _ rfl rfl (by omega) lr (Nat.le_refl _) ?_;intro we hpl hbe hze
     have hzd:(wc.setCell ⟨p,2,U⟩ (H (Z ⟨w.heap.size+1,0,U⟩) n n)).heap.size=w.heap.size+2:=by simp [hzc]
     rw [hzd] at hpl hbe hze
     have hde:=hdd.below hbe (by omega)
     have hce:=hcd.below hbe (by omega)
     have hne:=hnd.below hbe (by omega)
     have ge:=zAm gd hbe (by omega)
     have e1:=hde.c1
     have e4:=hde.c4
     have ef:=hde.frozen 4
     have hdf:=hde.set4 (H (Z ⟨w.heap.size+2,0,U⟩) n n)
     have hcf:=hce.far (p:=⟨p,4,U⟩) (by simp;omega) (H (Z ⟨w.heap.size+2,0,U⟩) n n)
     have hnf:=hne.far (p:=⟨p,4,U⟩) (by simp;omega) (H (Z ⟨w.heap.size+2,0,U⟩) n n)
     have hpf:=hpl.far (p:=⟨p,4,U⟩) (by simp;omega) (H (Z ⟨w.heap.size+2,0,U⟩) n n)
     have gf:=zAg ge (p:=⟨p,4,U⟩) (.inl rfl) (H (Z ⟨w.heap.size+2,0,U⟩) n n)
     have q1:=hdf.c1
     clear hdd hcd hnd gd hde hce hne ge))
 clear hcnt hdn hpl a0 a1 a6 af c1 c2 cf e1 e4 ef hc0;have Fs:Lets w A n L:=hA;have bO:Hid (∀g:Nat,g≤k→(List.replicate (k+1) (0:Int))[g]? = Z ((gN L (g:Int) 0:Nat):Int)):=qH (fun g hg=>by rw [List.getElem?_replicate,if_pos (by omega)];rfl);have vV:Hid (∀j,j < n→sat (List.replicate n E) j=(decide (j < 0)&&isP (la L j)&&dwn L j)):=qH (fun j hj=>by unfold sat;rw [List.getElem?_replicate,if_pos hj];simp);have hsz:w.heap.size+3≤(we.setCell ⟨p,4,U⟩ (H (Z ⟨w.heap.size+2,0,U⟩) n n)).heap.size:=by simp;omega
 go_loopw [3,4,5,50] (fun s3 _ _ s50 wr=>∃(i:Nat) (C:List Int) (s:List Bool),i≤n∧s50=D J i∧s3=G (dwn L i)∧Dia wr p (k:Int) A n c (H (Z ⟨w.heap.size+1,0,U⟩) n n) v3 (H (Z ⟨w.heap.size+2,0,U⟩) n n) v5 (H (Z ⟨w.heap.size,0,U⟩) (k+1) (k+1))∧OwnI wr w.heap.size w.heap.size (k+1) C∧OwnB wr (w.heap.size+1) (w.heap.size+1) n s∧OwnI wr (w.heap.size+2) (w.heap.size+2) n (List.replicate n 0)∧w.grownBy wr (Z p)∧w.heap.size+3≤wr.heap.size∧Hid (∀g:Nat,g≤k→C[g]? = Z ((gN L (g:Int) i:Nat):Int))∧Hid (∀j,j < n→sat s j=(decide (j < i)&&isP (la L j)&&dwn L j))) (fun _ _ _ s50 _=>n-(intOf s50).toNat)
 case atStart=>exact ⟨0,_,_,Nat.zero_le _,rfl,rfl,hdf,hcf,hnf,hpf,gf,hsz,bO,vV⟩
 case round =>
  obtain ⟨i,C,s,hi,rfl,rfl,hdi,hC,hS,hP,hg,hz,HC,HS⟩:=hrel;clear hdf hcf hnf hpf gf hsz bO vV q1;have dM:=Fs.growG hg (fun a ha e=>f8 a ha (by injection e));have d2:=hdi.c2;have d6:=hdi.c6;have gB:=hdi.lt;have hh1:=hC.lt;have uK:=hS.lt;by_cases hlt:i < n
  ·obtain ⟨g,o,rfl,hgl,hx,hok⟩:=dM.at_ hlt;obtain ⟨h0,h1,h2,h3,h4,h5⟩:=hx;have i0:(0:Int)≤(i:Int):=by omega
   have i1:(i:Int) < (n:Int):=by omega
   by_cases hp:(la L i).kind=1
   ·have HPP:=qH (zFP hp);obtain ⟨rG,hgk⟩:=zES HL.out n9.out hlt (zFP hp);obtain ⟨γ,hγ⟩:∃γ:Nat,(la L i).gate=(γ:Int):=⟨(la L i).gate.toNat,by omega⟩
    have hγk:γ≤k:=by omega
    have hcell:=hC.cell (HC.out γ hγk);have hcf:=hC.frozen γ;have hsf:=hS.frozen i;have hsc:=hS.cell hlt;have g0:(0:Int)≤(γ:Int):=by omega
    have g1':(γ:Int) < (k:Int)+1:=by omega
    have hgn:=zUR L (γ:Int) i;rw [hγ] at h1;have HG:=qH hγ;have Ba:((la L i).kind==1)=Q:=by simpa using hp
    have sM:=qH (show ∀g:Nat,g≤k→(C.set γ (((gN L (γ:Int) i:Nat):Int)+1))[g]? = Z ((gN L (g:Int) (i+1):Nat):Int) from fun g hg=>by
     have hCl:=hC.len
     rw [zUP (zFP hp) hγ,List.getElem?_set]
     by_cases e:γ=g
     ·subst e
      rw [if_pos rfl,if_pos (by omega),if_pos rfl];rfl
     ·rw [if_neg e,HC.out g hg,if_neg (by omega)];rfl)
    have fZ:=qH (show ∀j,j < n→sat (s.set i (dwn L i)) j=(decide (j < i+1)&&isP (la L j)&&dwn L j) from fun j hj=>by
     have hSl:=hS.len
     have hold:=HS.out j hj
     unfold sat at hold ⊢
     rw [List.getElem?_set]
     by_cases e:i=j
     ·subst e
      rw [if_pos rfl,if_pos (by omega),HPP.out];simp
     ·rw [if_neg e,hold]
      congr 2
      rw [decide_eq_decide];omega)
    have sL:=qH (zSh (L:=L) (zFP hp));clear hγ rG hgk hp HC HS;go_wp2_with fail
    go_region
    go_wp2_with fail
    go_roundw
    case rel =>
     refine ⟨i+1,C.set γ (((gN L (γ:Int) i:Nat):Int)+1),s.set i (dwn L i),by omega,by go_num,by rw [sL.out],?_,?_,?_,?_,?_,?_,sM,fZ⟩
     ·exact (((hdi.far (q:=⟨w.heap.size,γ,U⟩) (by simp;omega) _).far (q:=⟨w.heap.size+1,i,U⟩) (by simp;omega) _).alloc _).drew
     ·exact (((hC.stored γ _).far (p:=⟨w.heap.size+1,i,U⟩) (by simp) _).alloc _).drew
     ·exact (((hS.far (p:=⟨w.heap.size,γ,U⟩) (by simp) _).stored i _).alloc _).drew
     ·exact (((hP.far (p:=⟨w.heap.size,γ,U⟩) (by simp) _).far (p:=⟨w.heap.size+1,i,U⟩) (by simp) _).alloc _).drew
     ·exact zBT (zBt (zAg (zAg hg (p:=⟨w.heap.size,γ,U⟩) (.inr (by simp)) _) (p:=⟨w.heap.size+1,i,U⟩) (.inr (by simp)) _) _)
     ·simp;omega
    case measure=>simp [intOf];omega
   ·have sM:=qH (fun g (hg:g≤k)=>(HC.out g hg).trans (show Z ((gN L (g:Int) i:Nat):Int)=Z ((gN L (g:Int) (i+1):Nat):Int) by rw [zUQ (zGB hp)]))
    have fZ:=qH (show ∀j,j < n→sat s j=(decide (j < i+1)&&isP (la L j)&&dwn L j) from fun j hj=>by
     rw [HS.out j hj]
     by_cases e:j=i
     ·subst e
      rw [zGB hp];simp
     ·congr 2
      rw [decide_eq_decide];omega)
    have sL:=qH (zSi (L:=L) (zGB hp));have ik:((la L i).kind==1)=E:=by simpa using hp
    clear hp HC HS;go_wp2_with fail
    go_roundw
    case rel=>exact ⟨i+1,C,s,by omega,by go_num,by rw [sL.out],hdi.alloc _,hC.alloc _,hS.alloc _,hP.alloc _,zAb hg (World.grownBy_alloc _ _ _),by simp;omega,sM,fZ⟩
    case measure=>simp [intOf];omega
  ·obtain rfl:n=i:=by omega
   have hfl:=qH (fun t (ht:t≤k+1)=>zWt (t:=t) HL.out n9.out ht);obtain ⟨w1,rfl⟩:∃w1:World,w1=wr:=⟨_,rfl⟩
   have d0:=hdi.c0;clear dM
   go_wp2_with (at_make;refine zGq rfl _ _ rfl (k+1) _ rfl rfl (by omega) ag (Nat.le_refl _) ?_;intro wf hfst hbf hzf
                have hdf:=hdi.next hbf
                have q6:=hdf.c6)
   clear d0 d2 d6 q6;have nt:Hid (∀g:Nat,g < 0→(List.replicate (k+1) (0:Int))[g]? = Z ((fsN L g:Nat):Int)):=qH (fun g hg=>by omega);go_loopw [7,8,9,90] (fun s7 _ _ s90 wr=>∃(t:Nat) (F:List Int),t≤k+1∧s90=D J t∧s7=D J (fsN L t)∧OwnI wr w1.heap.size w1.heap.size (k+1) F∧Below w1.heap.size w1 wr∧Hid (∀g:Nat,g < t→F[g]? = Z ((fsN L g:Nat):Int))) (fun _ _ _ s90 _=>k+1-(intOf s90).toNat)
   case atStart=>exact ⟨0,_,Nat.zero_le _,rfl,rfl,hfst,hbf,nt⟩
   case round =>
    obtain ⟨t,F,ht,rfl,rfl,hF,hbw,HF⟩:=hrel;clear hfst hbf nt hdf;by_cases htl:t < k+1
    ·have xu:=hC.below hbw hC.lt;have hcell:=xu.cell (HC.out t (by omega));have hft:fsN L t≤n:=hfl.out t (by omega);have hgt:=zUR L (t:Int) n;have zr:=hF.len;obtain ⟨y,hy⟩:∃y,F[t]? = Z y:=⟨_,List.getElem?_eq_getElem (by omega)⟩
     have hfc:=hF.cell hy;have hff:=hF.frozen t;have t0:(0:Int)≤(t:Int):=by omega
     have t1:(t:Int) < (k:Int)+1:=by omega
     have de:=qH (show ∀g:Nat,g < t+1→(F.set t ((fsN L t:Nat):Int))[g]? = Z ((fsN L g:Nat):Int) from fun g hg=>by
      rw [List.getElem?_set]
      by_cases e:t=g
      ·subst e
       rw [if_pos rfl,if_pos (by omega)]
      ·rw [if_neg e];exact HF.out g (by omega))
     have sK:=qH (show fsN L (t+1)=fsN L t+gN L (t:Int) n by
      have h:fsN L (t+1)=fsN L t+gN L (t:Int) L.length:=rfl
      rw [h,HL.out])
     clear HF zr hy;go_wp2_with fail
     go_roundw
     case rel=>exact ⟨t+1,F.set t ((fsN L t:Nat):Int),by omega,by go_num,by rw [sK.out];go_num,hF.stored t _,hbw.setCell (p:=⟨w1.heap.size,t,U⟩) (Nat.le_refl _) _,de⟩
     case measure=>simp [intOf];omega
    ·obtain rfl:t=k+1:=by omega
     have rI:=hdi.next hbw;have xu:=hC.below hbw hC.lt;have B0:=hS.below hbw hS.lt;have wY:=hP.below hbw hP.lt;have bG:=zAm hg hbw hg.size;have hm:=zPS HL.out n9.out;have hmn:fsN L (k+1)≤n:=hfl.out (k+1) (Nat.le_refl _);obtain ⟨m,hmm⟩:∃m,m=fsN L (k+1):=⟨_,rfl⟩
     have HM:=qH (show m=(axL L).length by rw [hmm,hm,zEJ,HL.out]);rw [←hmm] at hmn ⊢;have HMF:=qH hmm;have wl:m≤17592186044416:=by omega
     obtain ⟨w2,rfl⟩:∃w2:World,w2=wr:=⟨_,rfl⟩
     have hF12:=hF.lt;clear hm hmm hdi hC hS hP hg hbw
     go_wp2_with (first
      | (at_make;refine zGq rfl _ _ rfl m _ rfl rfl (by omega) wl (Nat.le_refl _) ?_;intro w3 hX ac hz3
         have oZ:=rI.next ac
         have e3:=oZ.c3
         have ef3:=oZ.frozen 3
         have EK:=oZ.set3 (H (Z ⟨w2.heap.size,0,U⟩) m m)
         have lx:=hX.far (p:=⟨p,3,U⟩) (by simp;omega) (H (Z ⟨w2.heap.size,0,U⟩) m m)
         have Fp:=(xu.below ac xu.lt).far (p:=⟨p,3,U⟩) (by simp;omega) (H (Z ⟨w2.heap.size,0,U⟩) m m)
         have wW:=(B0.below ac B0.lt).far (p:=⟨p,3,U⟩) (by simp;omega) (H (Z ⟨w2.heap.size,0,U⟩) m m)
         have E3:=(wY.below ac wY.lt).far (p:=⟨p,3,U⟩) (by simp;omega) (H (Z ⟨w2.heap.size,0,U⟩) m m)
         have Ck:=(hF.below ac hF.lt).far (p:=⟨p,3,U⟩) (by simp;omega) (H (Z ⟨w2.heap.size,0,U⟩) m m)
         have dF:=zAg (zAm bG ac bG.size) (p:=⟨p,3,U⟩) (.inl rfl) (H (Z ⟨w2.heap.size,0,U⟩) m m)
         clear rI xu B0 wY bG hX oZ hF)
      | (at_make;refine zMs rfl _ _ rfl m _ rfl rfl (by omega) wl (Nat.le_refl _) ?_;intro w5 hT ai AQ
         have AX:(w3.setCell ⟨p,3,U⟩ (H (Z ⟨w2.heap.size,0,U⟩) m m)).heap.size=w2.heap.size+1:=by simp [hz3]
         rw [AX] at hT ai AQ
         have yW:=EK.below ai (by omega)
         have nD:=lx.below ai (by omega)
         have Fo:=Fp.below ai (by omega)
         have ER:=wW.below ai (by omega)
         have E0:=E3.below ai (by omega)
         have Cj:=Ck.below ai (by have:=Ck.lt;omega)
         have iE:=zAm dF ai (by omega)
         have r1:=yW.c1
         clear EK lx Fp wW E3 Ck dF e3 ef3))
     obtain ⟨H2,Ff⟩:∃H2,H2=w2.heap.size:=⟨_,rfl⟩
     obtain ⟨H1,Fh⟩:∃H1,H1=w1.heap.size:=⟨_,rfl⟩
     rw [←Ff] at yW nD hT ⊢;rw [←Fh] at Cj ⊢;have hsz5:w.heap.size+3≤H1∧H1 < H2∧H2+2≤w5.heap.size:=by omega
     have vS:Hid (∀j,j < 0→isP (la L j)=Q→(List.replicate m (0:Int))[atN L j]? = Z (j:Int)∧(List.replicate n (0:Int))[j]? = Z ((atN L j:Nat):Int)):=qH (fun j hj=>by omega)
     have vR:Hid (∀t,t < m→(sat (List.replicate m E) t=Q↔∃j,j < 0∧isP (la L j)=Q∧atN L j=t)):=qH (fun t ht=>by
      unfold sat
      rw [List.getElem?_replicate,if_pos ht]
      simp)
     have vQ:Hid (∀j,j < 0→rkB L j=Q):=qH (fun j hj=>by omega);clear gB hh1 uK hbc hzb hbe hzd hza hzc hze r1 Fh Ff
     go_loopw [11,12,13,116] (fun _ _ _ s116 wr=>∃(i:Nat) (X P:List Int) (T:List Bool),i≤n∧s116=D J i∧Dia wr p (k:Int) A n c (H (Z ⟨w.heap.size+1,0,U⟩) n n) (H (Z ⟨H2,0,U⟩) m m) (H (Z ⟨w.heap.size+2,0,U⟩) n n) v5 (H (Z ⟨w.heap.size,0,U⟩) (k+1) (k+1))∧OwnI wr H2 H2 m X∧OwnI wr w.heap.size w.heap.size (k+1) C∧OwnB wr (w.heap.size+1) (w.heap.size+1) n s∧OwnI wr (w.heap.size+2) (w.heap.size+2) n P∧OwnI wr H1 H1 (k+1) F∧OwnB wr (H2+1) (H2+1) m T∧w.grownBy wr (Z p)∧H2+2≤wr.heap.size ∧
      Hid (∀j,j < i→isP (la L j)=Q→X[atN L j]? = Z (j:Int)∧P[j]? = Z ((atN L j:Nat):Int))∧Hid (∀t,t < m→(sat T t=Q↔∃j,j < i∧isP (la L j)=Q∧atN L j=t))∧Hid (∀j,j < i→rkB L j=Q)) (fun _ _ _ s116 _=>n-(intOf s116).toNat)
     case atStart=>exact ⟨0,_,_,_,Nat.zero_le _,rfl,yW,nD,Fo,ER,E0,Cj,hT,iE,by omega,vS,vR,vQ⟩
     case round =>
      obtain ⟨i,X,P,T,hi,rfl,hD,hX,hC,hS,hP,hF,hT,hg,hz,HX,HT,HR⟩:=hrel;clear yW nD Fo ER E0 Cj iE vS vR vQ;have dM:=Fs.growG hg (fun a ha e=>f8 a ha (by injection e));have e1:=hD.c1;have e3:=hD.c3;have e4:=hD.c4;have e6:=hD.c6;have l0:=hD.lt;have l1:=hC.lt;have l2:=hX.lt;have l3:=hP.lt;have l4:=hF.lt;have l5:=hT.lt;by_cases hlt:i < n
      ·obtain ⟨g,o,rfl,hgl,hx,hok⟩:=dM.at_ hlt;obtain ⟨h0,h1,h2,h3,h4,h5⟩:=hx;have i0:(0:Int)≤(i:Int):=by omega
       have i1:(i:Int) < (n:Int):=by omega
       by_cases hp:(la L i).kind=1
       ·have hpt:=zFP hp;obtain ⟨rG,hgk⟩:=zES HL.out n9.out hlt hpt;obtain ⟨γ,hγ⟩:∃γ:Nat,(la L i).gate=(γ:Int):=⟨(la L i).gate.toNat,by omega⟩
        have hγk:γ≤k:=by omega
        have cC:=hC.cell (HC.out γ hγk);have g0:(0:Int)≤(γ:Int):=by omega
        have g1':(γ:Int) < (k:Int)+1:=by omega
        have hgn:=zUR L (γ:Int) n;obtain ⟨r,hr⟩:∃r,r=(la L i).rank:=⟨_,rfl⟩
        have lY:=hok.rank;rw [←hr] at h2 lY;obtain ⟨r64a,r64b⟩:=lY;rw [hγ] at h1;have Ba:((la L i).kind != 1)=E:=by simpa using hp
        have Gn:=qH hpt;have zU:=qH hr;have HG:=qH hγ
        have hrk:Hid (rkB L i=Q↔((1≤r∧r≤(gN L (γ:Int) n:Int))∧∀j,j < i→isP (la L j)=Q→(la L j).gate=(γ:Int)→(la L j).rank≠r)):=qH (by
         rw [zCf,←hr,hγ,HL.out]
         exact ⟨fun h=>h hpt,fun h _=>h⟩)
        clear hp hpt rG hgk hr hγ
        cases q1:decide (r < 1) with
        | true =>
         have yN:r < 1:=by simpa using q1
         have hf:=qH (zHT (L:=L) HL.out hlt (by
          cases hq:rkB L i with
          | false=>rfl
          | true=>have:=(hrk.out.1 hq).1;omega))
         clear HX HT HR;go_wp2_with fail
         go_quiet (fail)
         go_wp2_with fail
         go_ret;exact ⟨zAi hf.out.symm,zBM (zBt hg _) _,fun h=>by rw [hf.out] at h;cases h⟩
        | false =>
         have yN:¬r < 1:=by simpa using q1
         cases q2:decide (((gN L (γ:Int) n:Nat):Int) < r) with
         | true =>
          have yM:((gN L (γ:Int) n:Nat):Int) < r:=by simpa using q2
          have hf:=qH (zHT (L:=L) HL.out hlt (by
           cases hq:rkB L i with
           | false=>rfl
           | true=>have:=(hrk.out.1 hq).1;omega))
          clear HX HT HR;go_wp2_with fail
          go_quiet (fail)
          go_wp2_with fail
          go_ret;exact ⟨zAi hf.out.symm,zBM (zBt hg _) _,fun h=>by rw [hf.out] at h;cases h⟩
         | false =>
          have yM:¬((gN L (γ:Int) n:Nat):Int) < r:=by simpa using q2
          obtain ⟨a,ha⟩:∃a,a=atN L i:=⟨_,rfl⟩
          have hav:(a:Int)=(fsN L γ:Int)+r-1:=by
           rw [ha];unfold atN;rw [HG.out,←zU.out];simp;omega
          have ham:a < m:=by
           have h1:=HMF.out;have h2:fsN L γ+gN L (γ:Int) n≤fsN L (k+1):=by
            have:=zGM L (a:=γ) (b:=k+1) (by omega)
            rwa [HL.out] at this
           omega
          have HA:=qH ha;clear ha;have s5:=hav.symm;clear hav;have a0:(0:Int)≤(a:Int):=by omega
          have a1:(a:Int) < (m:Int):=by omega
          go_wp2_with fail
          go_quiet (fail)
          generalize hwq:(World.alloc wr _).drewN nq=wq;have hbq:Below wr.heap.size wr wq:=by rw [←hwq];exact zAe ((Below.refl _ _).alloc (Nat.le_refl _) _) _
          have hgq:w.grownBy wq (Z p):=zAm hg hbq hg.size;have hblk:Blk wq wr.heap.size 76 #[D J (la L i).kind,D J (γ:Int),D J r,D J (la L i).id,D J (la L i).sign,G (la L i).over]:=by rw [←hwq];exact (Blk.new wr _ _).drewN nq
          have b1:=hblk.cell 1;have b2:=hblk.cell 2;simp at b1 b2;have Fn:=hD.next hbq;have y9:=hX.below hbq l2;have Co:=hC.below hbq l1;have BT:=hS.below hbq hS.lt;have uR:=hP.below hbq l3;have zq:=hF.below hbq l4;have zg:=hT.below hbq l5;have cFq:=zq.cell (HF.out γ (by omega));have CX:=zg.cell ham;have fPq:=uR.frozen i;have BJ:=y9.len;have uS:=uR.len;obtain ⟨xa,hxa⟩:∃x,X[a]? = Z x:=⟨_,List.getElem?_eq_getElem (by omega)⟩
          obtain ⟨pa,hpa⟩:∃x,P[i]? = Z x:=⟨_,List.getElem?_eq_getElem (by omega)⟩
          have cPq:=uR.cell hpa;have m1:=Co.lt;have m2:=y9.lt;have m3:=uR.lt;have m4:=zq.lt;have m5:=zg.lt;have xS:=qH hxa;have iw:=qH hpa;clear hwq hxa hpa BJ uS hD hX hC hS hP hF hT hg e1 e3 e4 e6 cC h0 h1 h2 h3 h4 h5 l0 l1 l2 l3 l4 l5
          cases hta:sat T a with
          | true =>
           rw [hta] at CX
           have hf:=qH (zHT (L:=L) HL.out hlt (by
            cases hq:rkB L i with
            | false=>rfl
            | true =>
             obtain ⟨j,j1,j2,j3⟩:=(HT.out a ham).1 hta
             have e1:=hrk.out.1 hq
             have e2:=(zCf.1 (HR.out j j1) j2).1
             rw [HL.out] at e2
             have e3:=zWu (i:=j) (j:=i) HL.out (zES HL.out n9.out (by omega) j2).1 (zES HL.out n9.out hlt Gn.out).1 e2 (by rw [HG.out,←zU.out];exact e1.1) (by rw [j3,HA.out])
             exact absurd (by rw [e3.2,zU.out]) (e1.2 j j1 j2 (by rw [e3.1,HG.out]))))
           clear HX HT HR hta;go_wp2_with fail
           go_quiet (fail)
           go_wp2_with fail
           go_ret;exact ⟨zAi hf.out.symm,zBM hgq _,fun h=>by rw [hf.out] at h;cases h⟩
          | false =>
           rw [hta] at CX
           have sL:=qH (show ∀j,j < i+1→rkB L j=Q from fun j hj=>by
            rcases Nat.decEq j i with e | e
            ·exact HR.out j (by omega)
            ·subst e
             refine hrk.out.2 ⟨by omega,fun j' h1 h2 h3 h4=>?_⟩
             have:sat T a=Q:=(HT.out a ham).2 ⟨j',h1,h2,by rw [HA.out];unfold atN;rw [h3,h4,HG.out,zU.out]⟩
             rw [hta] at this;cases this)
           have hinj:=qH (show ∀j,j < i→isP (la L j)=Q→atN L j≠a from fun j h1 h2 h3=>by
            have:sat T a=Q:=(HT.out a ham).2 ⟨j,h1,h2,h3⟩
            rw [hta] at this;cases this)
           have sM:=qH (show ∀j,j < i+1→isP (la L j)=Q→(X.set a (i:Int))[atN L j]? = Z (j:Int)∧(P.set i (a:Int))[j]? = Z ((atN L j:Nat):Int) from fun j hj hpj=>by
            have x1:=(List.getElem?_eq_some_iff.1 xS.out).1
            have x2:=(List.getElem?_eq_some_iff.1 iw.out).1
            rw [List.getElem?_set,List.getElem?_set]
            rcases Nat.decEq j i with e | e
            ·have h1:=hinj.out j (by omega) hpj
             have h2:=HX.out j (by omega) hpj
             rw [if_neg (fun h=>h1 h.symm),if_neg (fun h=>e h.symm)]
             exact h2
            ·subst e
             rw [if_pos HA.out,if_pos x1,if_pos rfl,if_pos x2,HA.out]
             exact ⟨rfl,rfl⟩)
           have fZ:=qH (show ∀t,t < m→(sat (T.set a Q) t=Q↔∃j,j < i+1∧isP (la L j)=Q∧atN L j=t) from fun t ht=>by
            rw [zUm,Bool.or_eq_true,HT.out t ht]
            simp only [decide_eq_true_eq]
            constructor
            ·rintro (⟨j,b1,b2,b3⟩ | rfl)
             ·exact ⟨j,by omega,b2,b3⟩
             ·exact ⟨i,by omega,Gn.out,HA.out.symm⟩
            ·rintro ⟨j,b1,b2,b3⟩
             rcases Nat.decEq j i with e | e
             ·exact .inl ⟨j,by omega,b2,b3⟩
             ·subst e;exact .inr (by rw [HA.out,b3]))
           clear HX HT HR hta;go_wp2_with fail
           go_quiet (fail)
           go_wp2_with fail
           generalize hwx:wq.drewN nq=wx;have hbx:Below wq.heap.size wq wx:=by rw [←hwx];exact zAe (Below.refl _ _) _
           have hgx:w.grownBy wx (Z p):=zAm hgq hbx hgq.size;have tR:=Fn.next hbx;have BH:=y9.below hbx m2;have hCx:=Co.below hbx m1;have wU:=BT.below hbx BT.lt;have hPx:=uR.below hbx m3;have hFx:=zq.below hbx m4;have ze:=zg.below hbx m5;have cTx:=ze.cell ham;have fTx:=ze.frozen a;have fXx:=BH.frozen a;have fPx:=hPx.frozen i;have cXx:=BH.cell xS.out;have cPx:=hPx.cell iw.out;have y3:=tR.c3;have y4:=tR.c4;have n5:=ze.lt;clear hwx hgq Fn y9 Co BT uR zq zg cFq CX fPq cPq m1 m2 m3 m4 m5 b1 b2 hbx hblk hbq s5;go_region
           all_goals
            go_wp2_with fail
            go_roundw
            case rel =>
             refine ⟨i+1,X.set a (i:Int),P.set i (a:Int),T.set a Q,by omega,by go_num,?_,?_,?_,?_,?_,?_,?_,?_,?_,sM,fZ,sL⟩
             ·repeat (first | with_reducible exact tR | with_reducible apply Dia.drew | with_reducible apply Dia.drewN | ((with_reducible refine Dia.farG ?_ ?_);focus (first | (simp;done) | (simp;omega))))
             ·repeat (first | with_reducible exact BH | with_reducible apply OwnI.drew | with_reducible apply OwnI.drewN | with_reducible apply OwnI.storedG | ((with_reducible refine OwnI.farG ?_ ?_);focus (first | (simp;done) | (simp;omega))))
             ·repeat (first | with_reducible exact hCx | with_reducible apply OwnI.drew | with_reducible apply OwnI.drewN | ((with_reducible refine OwnI.farG ?_ ?_);focus (first | (simp;done) | (simp;omega))))
             ·repeat (first | with_reducible exact wU | with_reducible apply OwnB.drew | with_reducible apply OwnB.drewN | ((with_reducible refine OwnB.farG ?_ ?_);focus (first | (simp;done) | (simp;omega))))
             ·repeat (first | with_reducible exact hPx | with_reducible apply OwnI.drew | with_reducible apply OwnI.drewN | with_reducible apply OwnI.storedG | ((with_reducible refine OwnI.farG ?_ ?_);focus (first | (simp;done) | (simp;omega))))
             ·repeat (first | with_reducible exact hFx | with_reducible apply OwnI.drew | with_reducible apply OwnI.drewN | ((with_reducible refine OwnI.farG ?_ ?_);focus (first | (simp;done) | (simp;omega))))
             ·repeat (first | with_reducible exact ze | with_reducible apply OwnB.drew | with_reducible apply OwnB.drewN | with_reducible apply OwnB.storedG | ((with_reducible refine OwnB.farG ?_ ?_);focus (first | (simp;done) | (simp;omega))))
             ·repeat (first | with_reducible exact hgx | with_reducible apply zBT | with_reducible apply zBM | ((with_reducible refine zPT ?_ ?_);focus (first | (simp;done) | (simp;omega))))
             ·simp;omega
            case measure=>simp [intOf];omega
       ·have hpf:=zGB hp
        have sM:=qH (show ∀j,j < i+1→isP (la L j)=Q→X[atN L j]? = Z (j:Int)∧P[j]? = Z ((atN L j:Nat):Int) from fun j hj hpj=>HX.out j (by
         rcases Nat.decEq j i with e | e
         ·omega
         ·subst e;rw [hpf] at hpj;cases hpj) hpj)
        have fZ:=qH (show ∀t,t < m→(sat T t=Q↔∃j,j < i+1∧isP (la L j)=Q∧atN L j=t) from fun t ht=>(HT.out t ht).trans ⟨fun ⟨j,h1,h2⟩=>⟨j,by omega,h2⟩,fun ⟨j,b1,b2,b3⟩=>⟨j,(by
         rcases Nat.decEq j i with e | e
         ·omega
         ·subst e;rw [hpf] at b2;cases b2),b2,b3⟩⟩)
        have sL:=qH (show ∀j,j < i+1→rkB L j=Q from fun j hj=>by
         rcases Nat.decEq j i with e | e
         ·exact HR.out j (by omega)
         ·subst e;exact zCf.2 (fun h=>by rw [hpf] at h;cases h))
        have ik:((la L i).kind != 1)=Q:=by simpa using hp
        clear hp HX HT HR hpf;go_wp2_with fail
        go_roundw
        case rel=>exact ⟨i+1,X,P,T,by omega,by go_num,hD.alloc _,hX.alloc _,hC.alloc _,hS.alloc _,hP.alloc _,hF.alloc _,hT.alloc _,zBt hg _,by simp;omega,sM,fZ,sL⟩
        case measure=>simp [intOf];omega
      ·obtain rfl:n=i:=by omega
       have hr:zCy L=Q:=by
        unfold zCy;rw [HL.out,zAF];exact HR.out
       have HRP:=qH hr;clear hr;go_wp2_with fail
       go_ret;refine ⟨zAi HRP.out.symm,hg,fun _=>?_⟩;have BJ:X=zEG (axL L):=by
        have hgt:∀i,i < L.length→isP (la L i)=Q→0≤(la L i).gate:=fun i hi hp=>(zES HL.out n9.out (by rw [←HL.out];exact hi) hp).1
        have hrk:∀i,i < L.length→rkB L i=Q:=fun i hi=>HR.out i (by rw [←HL.out];exact hi)
        apply List.ext_getElem?;intro t;rcases Nat.lt_or_ge t m with ht | ht
        ·have htl:t < (axL L).length:=by rw [←HM.out];exact ht
         obtain ⟨a1,a2⟩:=zEK htl;have h1:=zVX hgt hrk a2 a1;have h2:(axL L)[t]? = Z (xat (axL L) t):=by unfold xat;rw [List.getElem?_eq_getElem htl];rfl
         have h3:atN L (xat (axL L) t)=t:=by
          have e1:=zLI (zJj hrk) h1;rw [zLI (zJj hrk) h2] at e1;exact e1.symm
         have h4:=(HX.out _ (by rw [←HL.out];exact a2) a1).1;rw [h3] at h4;rw [h4,zDJ htl]
        ·rw [List.getElem?_eq_none (by rw [hX.len];exact ht),List.getElem?_eq_none (by rw [zFb,←HM.out];exact ht)]
       rw [BJ] at hX;have hm':=HM.out;subst hm';exact ⟨_,_,_,_,s,P,C,hD,⟨hS.blk,by omega,hS.len⟩,⟨hX.blk,by omega,hX.len⟩,⟨hP.blk,by omega,hP.len⟩,⟨hC.blk,by omega,hC.len⟩,fun j hj=>by rw [HS.out j (by rw [←HL.out];exact zKw hj),hj];simp;intro h;have:=zKw hj;rw [HL.out] at this;omega,fun j hj=>(HX.out j (by rw [←HL.out];exact zKw hj) hj).2,HC.out,fun j hj hp=>by rw [HS.out j hj,hp];simp⟩
end Go.Proofs.YtlmdfmnbcndhoaaGreatDoor
