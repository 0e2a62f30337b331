/-
  Contract: the program's Forget. Conditions: the letters read.
  Contracts: the document's Copy, Place, Forget, Insert. Conditions: the letters read.
  Contracts: rotated; the document's Swap; the program's Swap. Conditions: the letters read and are tame.
  Contracts: the program's Swap. Conditions: the letters read.
  Contracts: the document's Word, the program's Word. Conditions: the letters read.
  Plain: the sequence of the swapped code has over and under exchanged; codes of one sequence have one word. No program.
  Contract: the program's Word. Conditions: the letters read.
  Contracts of small functions that only read: catscradleref01.Word, Valid, Equal. Conditions: the slices read as lists of ints.
  Contracts of small functions that only read: the checks of line and of the law (word, Valid, check, checkFor, wrong, wrongFor), slices.Max, ref.pair, ref.Reduced, line.Reduced. Conditions: the slices read as lists of ints.
  Contracts: ref.pair, ref.Reduced, line.Reduced, ref.Winding, ref.before, ref.between, ref.Less, slices.Equal, slices.Compare. Conditions: the slices read as lists of ints.
-/
import Derived.Test.YtlmdfmnbcndhoaaGreatDoorWr35
import Derived.Test.YtlmdfmnbcndhoaaGreatDoorWr31
import Derived.Test.YtlmdfmnbcndhoaaGreatDoorWr42
import Derived.Test.YtlmdfmnbcndhoaaGreatDoorWr03
import Derived.Test.YtlmdfmnbcndhoaaGreatDoorWr02
import Derived.Deep.DeepCutAuto
import Derived.Test.YtlmdfmnbcndhoaaGreatDoorWr33
import Derived.Deep.RegionHeld3
import Derived.Test.YtlmdfmnbcndhoaaGreatDoorWr44
import Derived.Deep.RegionLaw
import Derived.BigRegion
import Derived.Test.YtlmdfmnbcndhoaaGreatDoorWr43
import Derived.Test.YtlmdfmnbcndhoaaGreatDoorWr01
namespace Go.Proofs.YtlmdfmnbcndhoaaGreatDoor
open Go.RowKit
/-- Behind i letters. -/
def Upto (g:Lt→Lt) (L M:List Lt) (i:Nat):Prop:=M.length=L.length∧∀j,j < L.length→la M j=if j < i then g (la L j) else la L j
theorem Upto.zero (g:Lt→Lt) (L:List Lt):Upto g L L 0:=⟨rfl,fun j hj=>by rw [if_neg (by omega)]⟩
theorem la_set {M:List Lt} {i j:Nat} {x:Lt} (hi:i < M.length):la (M.set i x) j=if i=j then x else la M j:=by
 unfold la
 rw [List.getElem?_set]
 by_cases e:i=j
 ·rw [if_pos e,if_pos e,if_pos hi];rfl
 ·rw [if_neg e,if_neg e]
theorem Upto.set {g:Lt→Lt} {L M:List Lt} {i:Nat} (h:Upto g L M i) (hi:i < L.length) {x:Lt} (hx:x=g (la L i)):Upto g L (M.set i x) (i+1):=by
 refine ⟨by simp [h.1],fun j hj=>?_⟩
 rw [la_set (by rw [h.1];exact hi)]
 by_cases e:i=j
 ·subst e;rw [if_pos rfl,if_pos (by omega),hx]
 ·rw [if_neg e,h.2 j hj]
  by_cases e2:j < i
  ·rw [if_pos e2,if_pos (by omega)]
  ·rw [if_neg e2,if_neg (by omega)]
theorem Upto.skip {g:Lt→Lt} {L M:List Lt} {i:Nat} (h:Upto g L M i) (hx:g (la L i)=la L i):Upto g L M (i+1):=by
 refine ⟨h.1,fun j hj=>?_⟩
 rw [h.2 j hj]
 by_cases e2:j < i
 ·rw [if_pos e2,if_pos (by omega)]
 ·rw [if_neg e2]
  by_cases e:j=i
  ·subst e;rw [if_pos (by omega),hx]
  ·rw [if_neg (by omega)]
theorem Upto.all {g:Lt→Lt} {L M:List Lt} (h:Upto g L M L.length):M=L.map g:=by
 apply List.ext_getElem?
 intro j
 by_cases hj:j < L.length
 ·rw [la_get (by rw [h.1];exact hj),h.2 j hj,if_pos hj,List.getElem?_map,la_get hj];rfl
 ·rw [List.getElem?_eq_none (by rw [h.1];omega),List.getElem?_eq_none (by simp;omega)]
end Go.Proofs.YtlmdfmnbcndhoaaGreatDoor
namespace Go.Proofs.YtlmdfmnbcndhoaaGreatDoor
open Go.RowKit
/-- What a function of the program returns that makes a code. -/
def zHr (w:World) (K:Int) (L:List Lt) (E:Int) (e:Ending) (w':World):Prop :=
 ∃(A':Option Addr) (n' c':Nat),e=.returned (.tuple #[.agg #[.int .i64 K,.slice A' n' c'],.int .i64 E])∧OwnL w' w.heap.size A' n' c' L∧Below w.heap.size w w'
end Go.Proofs.YtlmdfmnbcndhoaaGreatDoor
namespace Go.Proofs.YtlmdfmnbcndhoaaGreatDoor
open Go.RowKit
/-- What a copy leaves that is stored into the result's block. -/
theorem copy_ends {w X wr:World} {K:Int} {A:Option Addr} {n c:Nat} {M:List Lt} (hR:Blk wr (w.heap.size+1) 55 #[.int .i64 0,.slice none 0 0]) (hb:Below X.heap.size X wr) (hbx:Below w.heap.size w X) (hX:w.heap.size+1 < X.heap.size) (h:OwnL wr X.heap.size A n c M) :
  Blk ((wr.setCell ⟨w.heap.size+1,0,none⟩ (.int .i64 K)).setCell ⟨w.heap.size+1,1,none⟩ (.slice A n c)) (w.heap.size+1) 55 #[.int .i64 K,.slice A n c] ∧
  OwnL ((wr.setCell ⟨w.heap.size+1,0,none⟩ (.int .i64 K)).setCell ⟨w.heap.size+1,1,none⟩ (.slice A n c)) w.heap.size A n c M ∧
  Below w.heap.size w ((wr.setCell ⟨w.heap.size+1,0,none⟩ (.int .i64 K)).setCell ⟨w.heap.size+1,1,none⟩ (.slice A n c)):=by
 refine ⟨(hR.set_ 0 _).set_ 1 _,?_,((zAa hbx hb (by omega)).setCell (p:=⟨w.heap.size+1,0,none⟩) (by simp) (.int .i64 K)).setCell (p:=⟨w.heap.size+1,1,none⟩) (by simp) (.slice A n c)⟩
 have gS:=zAh (zAh (World.grownBy.refl wr (some (w.heap.size+1))) (p:=⟨w.heap.size+1,0,none⟩) (.inl rfl) (.int .i64 K)) (p:=⟨w.heap.size+1,1,none⟩) (.inl rfl) (.slice A n c)
 refine ⟨(h.row.kept gS ?_).mono (by omega),h.fits,h.le⟩
 cases hb:blk A with
 | none=>exact .inl rfl
 | some q=>exact .inr (by have:=(h.row.lt q hb).1;simp;omega)
end Go.Proofs.YtlmdfmnbcndhoaaGreatDoor
namespace Go.Proofs.YtlmdfmnbcndhoaaGreatDoor
open Go.RowKit
/-- A diagram as the functions that change a code get it. -/
def DiaN (w:World) (p k:Nat) (A:Option Addr) (n c:Nat) (L:List Lt):Prop :=
 w.cell? ⟨p,1,none⟩=some (.slice A n c)∧p < w.heap.size∧n≤c∧(0 < n→∃base b g2 g3 g4 g6 s P C ids,DiaF w base p k A n c L b g2 g3 g4 g6 s P C ids)
theorem DiaN.next {w w':World} {p k:Nat} {A:Option Addr} {n c:Nat} {L:List Lt} (h:DiaN w p k A n c L) (hb:Below w.heap.size w w'):DiaN w' p k A n c L:=by
 obtain ⟨h1,h2,h3,h4⟩:=h
 refine ⟨(hb.cell (p:=⟨p,1,none⟩) h2).trans h1,Nat.lt_of_lt_of_le h2 hb.size,h3,fun hn=>?_⟩
 obtain ⟨base,b,g2,g3,g4,g6,s,P,C,ids,hF⟩:=h4 hn
 exact ⟨base,b,g2,g3,g4,g6,s,P,C,ids,hF.next hb⟩
def GivesL (w:World) (L:List Lt) (e:Ending) (w':World):Prop:=∃(A':Option Addr) (n' c':Nat),e=.returned (.slice A' n' c')∧OwnL w' w.heap.size A' n' c' L∧Below w.heap.size w w'
def keepK (K:Int) (L:List Lt):Int:=if zAp K L=0 then K else 0
def keepL (K:Int) (L M:List Lt):List Lt:=if zAp K L=0 then M else []
theorem keepK_ok {K:Int} {L:List Lt} (h:zAp K L=0):keepK K L=K:=by unfold keepK;rw [if_pos h]
theorem keepL_ok {K:Int} {L M:List Lt} (h:zAp K L=0):keepL K L M=M:=by unfold keepL;rw [if_pos h]
theorem keepK_no {K:Int} {L:List Lt} (h:zAp K L≠0):keepK K L=0:=by unfold keepK;rw [if_neg h]
theorem keepL_no {K:Int} {L M:List Lt} (h:zAp K L≠0):keepL K L M=[]:=by unfold keepL;rw [if_neg h]
theorem givesCE_ok {w:World} {K:Int} {L M:List Lt} (h:zAp K L=0) {e:Ending} {w':World} (hg:zHr w (keepK K L) (keepL K L M) (zAp K L) e w'):zHr w K M 0 e w':=by
 rw [keepK_ok h,keepL_ok h,h] at hg
 exact hg
set_option maxRecDepth 100000 in
set_option maxHeartbeats 6400000 in
theorem swap_1 (p k:Nat) (A:Option Addr) (n c:Nat) (L:List Lt) (w:World) (hd:DiaN w p k A n c L) (hA:Lets w A n L) (hs:Tame (k:Int) L) :
  Calls Tryz.prog 93 #[.pointer (some ⟨p,0,none⟩)] w (GivesL w (zBR L)):=by
 have hle:=hA.le
 have hLn:=Lib.hid hA.len
 have HS:=Lib.hid hs
 obtain ⟨d1,d2,d3,d4⟩:=hd
 have HD4:=Lib.hid d4
 clear d4 hs
 go_enter Tryz.func93,Tryz.ntmps93
 go_wp2_with fail
 refine (clone_letters A n c L _ hA).mono ?_
 rintro e w1 ⟨A1,c1,rfl,hown,hb1⟩
 have hst:Hid (Upto swLt L L 0):=Lib.hid (Upto.zero _ _)
 clear d1
 go_wp2_with fail
 go_loopw [4,13] (fun _ v13 wr=>∃(i:Nat) (Lw:List Lt),i≤n∧v13=.int .i64 i∧OwnL wr w.heap.size A1 n c1 Lw∧Below w.heap.size w wr∧Hid (Upto swLt L Lw i)) (fun _ v13 _=>n-(intOf v13).toNat)
 case atStart=>exact ⟨0,L,Nat.zero_le _,rfl,hown,hb1,hst⟩
 case round =>
  obtain ⟨i,Lw,hi,rfl,hLw,hbr,HU⟩:=hrel
  clear hown hb1 hst
  by_cases hlt:i < n
  ·obtain ⟨gg,o,rfl,hgg,hx,hok⟩:=hLw.lets.at_ hlt
   have hlw:la Lw i=la L i:=by rw [HU.out.2 i (by rw [hLn.out];exact hlt),if_neg (by omega)]
   have hgi:Lw[i]? = some (la L i):=by rw [la_get (by rw [hLw.len];exact hlt),hlw]
   rw [hlw] at hx hok
   obtain ⟨y0,y1,y2,y3,y4,y5⟩:=hx
   have i0:(0:Int)≤(i:Int):=by omega
   have i1:(i:Int) < (n:Int):=by omega
   have hcap:=hLw.row.cap
   have hgb:=(hLw.row.at_ _ rfl).2.1
   simp only [] at hgb
   have hszr:=hbr.size
   have f4:wr.frozen? ⟨gg,o+i*6+4,none⟩=false:=hLw.row.free (j:=i*6+4) (by omega)
   have f5:wr.frozen? ⟨gg,o+i*6+5,none⟩=false:=hLw.row.free (j:=i*6+5) (by omega)
   have HOK:=Lib.hid hok
   have HGI:=Lib.hid hgi
   clear hok hgi hlw
   by_cases hk1:(la L i).kind=2
   ·have q1:((la L i).kind==2)=true:=by simpa using hk1
    have hc2:=isC_t hk1
    have hsg:=HS.out.sign i (by rw [hLn.out];exact hlt) hc2
    have s0:-1≤(la L i).sign:=by omega
    have s1:(la L i).sign≤1:=by omega
    have HU1:=Lib.hid (HU.out.set (by rw [hLn.out];exact hlt) (sw_c hc2).symm)
    have hok1:LtOk { la L i with over:=!(la L i).over }:=⟨HOK.out.kind,HOK.out.gate,HOK.out.rank,HOK.out.id,HOK.out.sign⟩
    have hok2:LtOk { la L i with over:=!(la L i).over,sign:=-(la L i).sign }:=⟨HOK.out.kind,HOK.out.gate,HOK.out.rank,HOK.out.id,⟨by simp only [];omega,by simp only [];omega⟩⟩
    have hL1:=hLw.put (i:=5) (u:=.bool (!(la L i).over)) (x':={ la L i with over:=!(la L i).over }) HGI.out (by omega) rfl hok1 rfl
    have hL2:=hL1.put (i:=4) (j:=i) (x:={ la L i with over:=!(la L i).over }) (u:=.int .i64 (-(la L i).sign)) (x':={ la L i with over:=!(la L i).over,sign:=-(la L i).sign }) (by rw [List.getElem?_set_self (by rw [hLw.len];exact hlt)]) (by omega) rfl hok2 rfl
    rw [List.set_set] at hL2
    have hb5:=(hbr.setCell (p:=⟨gg,o+(i*6+5),none⟩) hgb (.bool (!(la L i).over))).setCell (p:=⟨gg,o+(i*6+4),none⟩) hgb (.int .i64 (-(la L i).sign))
    have v1:IntKind.i64.wrap (-(la L i).sign) = -(la L i).sign:=IntWalk.i64_in _ (by omega)
    clear HU hk1 hc2 hsg hok1 hok2 hL1 hLw hbr
    go_wp2_with fail
    go_region
    go_wp2_with fail
    go_roundw
    case rel=>exact ⟨i+1,_,by omega,by go_num,by first | exact hL2 | exact hL2.next (Below.refl _ _).drew,by first | exact hb5 | exact hb5.drew,HU1⟩
    case measure=>simp [intOf];omega
   ·have q1:((la L i).kind==2)=false:=by simpa using hk1
    have HU1:=Lib.hid (HU.out.skip (sw_n (x:=la L i) (isC_f hk1)))
    clear hk1 HU
    go_wp2_with fail
    go_roundw
    case rel=>exact ⟨i+1,Lw,by omega,by go_num,hLw,hbr,HU1⟩
    case measure=>simp [intOf];omega
  ·have hin:i=n:=by omega
   have hU:=HU.out
   rw [hin,←hLn.out] at hU
   have hLf:=hU.all
   rw [hLf] at hLw
   have i1:¬(i:Int) < (n:Int):=by omega
   clear hU hLf hin HU
   go_wp2_with fail
   go_ret
   exact ⟨A1,n,c1,rfl,hLw,hbr⟩
set_option maxRecDepth 100000 in
set_option maxHeartbeats 6400000 in
theorem changed_swap (K:Int) (A:Option Addr) (n c:Nat) (L:List Lt) (w:World) (hA:Lets w A n L) (hc:n≤c) :
  Calls Tryz.prog 92 #[.agg #[.int .i64 K,.slice A n c],.func (.func 93) #[] #[]] w (zHr w (keepK K L) (keepL K L (zBR L)) (zAp K L)):=by
 have hbc0:=build_code0
 have hbc2:=zGB
 have hbx:Boxed w ((w.alloc (.cells #[.int .i64 K,.slice A n c] 55)).alloc (.cells #[.int .i64 0,.slice none 0 0] 55)) K A n c:=(Boxed.refl w K A n c).alloc _
 have hR0:Blk ((w.alloc (.cells #[.int .i64 K,.slice A n c] 55)).alloc (.cells #[.int .i64 0,.slice none 0 0] 55)) (w.heap.size+1) 55 #[.int .i64 0,.slice none 0 0]:=heap_alloc2_new w _ _
 obtain ⟨E,hE⟩:∃E,zAp K L=E:=⟨_,rfl⟩
 have HE:=Lib.hid hE
 clear hE
 go_enter Tryz.func92,Tryz.ntmps92
 go_wp2_with fail
 generalize (w.alloc (.cells #[.int .i64 K,.slice A n c] 55)).alloc (.cells #[.int .i64 0,.slice none 0 0] 55)=X at hbx hR0 ⊢
 refine (zHg K A n c L _ (hA.below hbx.below)).mono ?_
 rintro e w1 ⟨v,rfl,hb1,hok⟩
 have hX:=hR0.lt
 have hsX:=hb1.size
 have hR1:=hR0.below hb1 hX
 have hb2:=hbx.more hb1
 have x0:=hb2.c0
 have r0:w1.cell? ⟨w.heap.size+1,0,none⟩=some (.int .i64 0):=(hR1.cell 0).trans rfl
 have r1:w1.cell? ⟨w.heap.size+1,1,none⟩=some (.slice none 0 0):=(hR1.cell 1).trans rfl
 have z0:=hR1.frozen 0
 have z1:=hR1.frozen 1
 rw [HE.out]
 by_cases hz:E=0
 ·subst hz
  obtain ⟨p,rfl,k,rfl,hk40,hn400,hp,hcase⟩:=hok HE.out
  have HSM:=Lib.hid (zCh HE.out)
  have hdn:DiaN w1 p k A n c L:=by
   rcases hcase with ⟨h0,hd⟩ | ⟨_,base,b,g2,g3,g4,g6,s,P,C,ids,_,hF⟩
   ·exact ⟨hd.c1,hd.lt,hc,fun h=>by omega⟩
   ·exact ⟨hF.ranks.dia.c1,hF.ranks.dia.lt,hc,fun _=>⟨base,b,g2,g3,g4,g6,s,P,C,ids,hF⟩⟩
  have hcl:∀wx,Below w1.heap.size w1 wx→Calls Tryz.prog 93 #[.pointer (some ⟨p,0,none⟩)] wx (GivesL wx (zBR L)):=fun wx h=>swap_1 p k A n c L wx (hdn.next h) (hA.below (hb2.more h).below) HSM.out
  have k0:∀wx,Below w1.heap.size w1 wx→wx.cell? ⟨w.heap.size,0,none⟩=some (.int .i64 (k:Int)):=fun wx h=>(hb2.more h).c0
  have k1:∀wx a1 a2,Below w1.heap.size w1 wx→((wx.setCell ⟨w.heap.size+1,0,none⟩ a1).setCell ⟨w.heap.size+1,1,none⟩ a2).cell? ⟨w.heap.size,0,none⟩=some (.int .i64 (k:Int)):=fun wx a1 a2 h=>by
   rw [World.cell?_setCell_other _ _ _ _ (by intro e;injection e with e;omega),World.cell?_setCell_other _ _ _ _ (by intro e;injection e with e;omega)]
   exact (hb2.more h).c0
  have HCL:=Lib.hid hcl
  have KP:=Lib.hid k0
  have KS:=Lib.hid k1
  have HW:=hb2.below
  have hlw:w.heap.size+1 < w1.heap.size:=hR1.lt
  clear hcl k0 k1 hok hcase hdn hb2 hbx hR0 hb1 r0 r1 z0 z1
  go_wp2_with fail
  first
   | go_region_held3 (fun wx=>wx.cell? ⟨w.heap.size,0,none⟩=some (.int .i64 (k:Int))) (first | assumption | exact KP.out _ (Below.refl _ _).drew | exact KP.out _ (by assumption) | exact KS.out _ _ _ (by assumption))
     ((go_at_call 93;refine (HCL.out _ (Below.refl _ _).drew).mono ?_;rintro e wy ⟨A2,n2,c2,rfl,hL2,hb3⟩;have hbz:Below w1.heap.size w1 wy:=zAa (Below.refl w1.heap.size w1).drew hb3 (Nat.le_refl _);have u0:wy.cell? ⟨w.heap.size+1,0,none⟩=some (.int .i64 0):=((hR1.below hbz hlw).cell 0).trans rfl;have u1:wy.cell? ⟨w.heap.size+1,1,none⟩=some (.slice none 0 0):=((hR1.below hbz hlw).cell 1).trans rfl;have u2:=(hR1.below hbz hlw).frozen 0;have u3:=(hR1.below hbz hlw).frozen 1))
   | fail
  all_goals
   have hRy:=hR1.below (by assumption:Below w1.heap.size w1 wy) hlw
   have hG:=copy_ends (w:=w) (X:=w1) (K:=(k:Int)) hRy (by assumption:Below w1.heap.size w1 wy) HW hlw hL2
   clear x0 u0 u1 u2 u3 hRy
   go_wp2_with fail
   (try simp only [Exit.inBlock,Exit.then])
   refine zBj rfl rfl rfl hG.1 Tryz.underlying55 rfl (by kernel_rfl) rfl ?_
   exact ⟨A2,n2,c2,by rw [keepK_ok HE.out,HE.out];rfl,by rw [keepL_ok HE.out];exact hG.2.1,hG.2.2⟩
 ·have q:(E != 0)=true:=by simpa using hz
  have hS:Blk ((w1.setCell ⟨w.heap.size+1,0,none⟩ (.int .i64 0)).setCell ⟨w.heap.size+1,1,none⟩ (.slice none 0 0)) (w.heap.size+1) 55 #[.int .i64 0,.slice none 0 0]:=(hR1.set_ 0 _).set_ 1 _
  have hbS:=(hb2.below.setCell (p:=⟨w.heap.size+1,0,none⟩) (by simp) (.int .i64 0)).setCell (p:=⟨w.heap.size+1,1,none⟩) (by simp) (.slice none 0 0)
  have HZ:=Lib.hid hz
  clear hz hok hR0 hR1 hb1 hbx
  go_wp2_with fail
  (try simp only [Exit.inBlock,Exit.then])
  refine zBj rfl rfl rfl hS Tryz.underlying55 rfl (by kernel_rfl) rfl ?_
  exact ⟨none,0,0,by rw [keepK_no (by rw [HE.out];exact HZ.out),HE.out];rfl,by rw [keepL_no (by rw [HE.out];exact HZ.out)];exact OwnL.nil _ _,hbS⟩
set_option maxRecDepth 100000 in
set_option maxHeartbeats 3200000 in
theorem code_swap (K:Int) (A:Option Addr) (n c:Nat) (L:List Lt) (w:World) (hA:Lets w A n L) (hc:n≤c) :
  Calls Tryz.prog 45 #[.agg #[.int .i64 K,.slice A n c]] w (zHr w (keepK K L) (keepL K L (zBR L)) (zAp K L)):=by
 have hbx:Boxed w ((w.alloc (.cells #[.int .i64 K,.slice A n c] 55)).alloc (.cells #[.int .i64 0,.slice none 0 0] 55)) K A n c:=(Boxed.refl w K A n c).alloc _
 have hR0:Blk ((w.alloc (.cells #[.int .i64 K,.slice A n c] 55)).alloc (.cells #[.int .i64 0,.slice none 0 0] 55)) (w.heap.size+1) 55 #[.int .i64 0,.slice none 0 0]:=heap_alloc2_new w _ _
 obtain ⟨E,hE⟩:∃E,zAp K L=E:=⟨_,rfl⟩
 obtain ⟨K2,hK2⟩:∃K2:Int,keepK K L=K2:=⟨_,rfl⟩
 obtain ⟨M,hM⟩:∃M:List Lt,keepL K L (zBR L)=M:=⟨_,rfl⟩
 have hch:=fun wx (h:Lets wx A n L)=>changed_swap K A n c L wx h hc
 rw [hE,hK2,hM] at hch ⊢
 have HCH:=Lib.hid hch
 clear hch hE hK2 hM
 go_enter Tryz.func45,Tryz.ntmps45
 go_wp2_with fail
 generalize (w.alloc (.cells #[.int .i64 K,.slice A n c] 55)).alloc (.cells #[.int .i64 0,.slice none 0 0] 55)=X at hbx hR0 ⊢
 refine (HCH.out _ (hA.below hbx.below)).mono ?_
 rintro e w1 ⟨A1,n1,c1,rfl,hL1,hb1⟩
 have hX:=hR0.lt
 have hR1:=hR0.below hb1 hX
 have r0:w1.cell? ⟨w.heap.size+1,0,none⟩=some (.int .i64 0):=(hR1.cell 0).trans rfl
 have r1:w1.cell? ⟨w.heap.size+1,1,none⟩=some (.slice none 0 0):=(hR1.cell 1).trans rfl
 have z0:=hR1.frozen 0
 have z1:=hR1.frozen 1
 have hG:=copy_ends (w:=w) (X:=X) (K:=K2) hR1 hb1 hbx.below hX hL1
 clear hR0 hR1 hbx hb1
 go_wp2_with fail
 (try simp only [Exit.inBlock,Exit.then])
 refine zBj rfl rfl rfl hG.1 Tryz.underlying55 rfl (by kernel_rfl) rfl ?_
 exact ⟨A1,n1,c1,rfl,hG.2.1,hG.2.2⟩
end Go.Proofs.YtlmdfmnbcndhoaaGreatDoor
namespace Go.Proofs.YtlmdfmnbcndhoaaGreatDoor
open Go.RowKit
/-- The gates of the passes among the first m letters. -/
def gTo (L:List Lt):Nat→List Int
 | 0=>[]
 | m+1=>if isP (la L m) then gTo L m++[(la L m).gate] else gTo L m
theorem gTo_yes {L:List Lt} {m:Nat} (h:isP (la L m)=true):gTo L (m+1)=gTo L m++[(la L m).gate]:=by
 show (if isP (la L m) then _ else _)=_
 rw [if_pos h]
theorem gTo_no {L:List Lt} {m:Nat} (h:isP (la L m)=false):gTo L (m+1)=gTo L m:=by
 show (if isP (la L m) then _ else _)=_
 rw [if_neg (by rw [h];simp)]
end Go.Proofs.YtlmdfmnbcndhoaaGreatDoor
namespace Go.Proofs.YtlmdfmnbcndhoaaGreatDoor
open Go.RowKit
def ou (b:UInt8):UInt8:=if b=111 then 117 else if b=117 then 111 else b
theorem ou_fix {S:List UInt8} (h:∀b∈S,b≠111∧b≠117):S.map ou=S:=by
 conv=>rhs;rw [←List.map_id S]
 refine List.map_congr_left fun b hb=>?_
 unfold ou
 rw [if_neg (h b hb).1,if_neg (h b hb).2];rfl
theorem itoa_ou (x:Int):∀b∈Lib.itoa x,b≠111∧b≠117:=fun b hb=>by
 have:=itoa_mem b hb
 refine ⟨?_,?_⟩<;>(rintro rfl;simp at this)
theorem name_ou (f:Fg):∀b∈zAn f,b≠111∧b≠117:=fun b hb=>by
 unfold zAn at hb
 rcases List.mem_append.1 hb with h | h
 ·split at h
  ·simp at h
  ·exact itoa_ou _ b h
 ·rcases List.mem_cons.1 h with h | h
  ·subst h;split<;>decide
  ·exact itoa_ou _ b h
theorem join_map {f:UInt8→UInt8} (hf:f 32=32):∀T:List (List UInt8),Lib.join (T.map (List.map f)) [32]=(Lib.join T [32]).map f
 | []=>by simp [Lib.join_nil]
 | x :: T=>by
  rw [List.map_cons,Lib.join_cons,Lib.join_cons,List.map_append]
  congr 1
  unfold Lib.joinTail
  rw [List.map_flatten,List.map_map,List.map_map]
  congr 1
  refine List.map_congr_left fun y _=>?_
  simp [hf]
section
variable {K:Int} {L:List Lt} {F:List Fg} {re lo:Int}
theorem zBA (l:Lt):(swLt l).gate=l.gate∧(swLt l).rank=l.rank∧(swLt l).id=l.id∧isP (swLt l)=isP l∧isC (swLt l)=isC l:=by
 unfold swLt;split<;>exact ⟨rfl,rfl,rfl,rfl,rfl⟩
theorem zHB (i:Nat):la (zBR L) i=swLt (la L i):=by
 rcases Nat.lt_or_ge i L.length with h | h
 ·exact la_map h
 ·unfold la zBR;rw [List.getElem?_eq_none (by simpa using h),List.getElem?_eq_none h];rfl
theorem sw_dwn (i:Nat):dwn (zBR L) i=dwn L i:=by unfold dwn pN;rw [zAW fun i _=>by rw [zHB,(zBA _).2.2.2.1]]
theorem sw_posed:zCE (zBR L)=zCE L:=by
 have hn:(zBR L).length=L.length:=by unfold zBR;simp
 have e:∀i,poB (zBR L) i=poB L i:=fun i=>by
  unfold poB neB nxL
  rw [hn,sw_dwn,zHB,zHB,(zBA _).2.2.2.1,(zBA _).2.2.2.1,(zBA _).1,(zBA _).1]
 unfold zCE
 rw [hn]
 cases h:zEo (poB L) L.length with
 | true=>exact zAk.2 fun i hi=>by rw [e];exact zAk.1 h i hi
 | false =>
  cases h2:zEo (poB (zBR L)) L.length with
  | false=>rfl
  | true =>
   have:zEo (poB L) L.length=true:=zAk.2 fun i hi=>by rw [←e];exact zAk.1 h2 i hi
   rw [h] at this;cases this
theorem sw_posedF (h:zAU F re lo K L=true):zAU F re lo K (zBR L)=true:=by
 unfold zAU at h ⊢
 simp only [Bool.and_eq_true,beq_iff_eq] at h ⊢
 exact ⟨⟨⟨h.1.1.1,check_swap h.1.1.2⟩,h.1.2⟩,by rw [sw_posed];exact h.2⟩
theorem sw_seqAt (i:Nat):zCH F (zBR L) i=(zCH F L i).map (List.map ou):=by
 have hlp:∀g m,lpC (zBR L) g m=lpC L g m:=fun g m=>by
  unfold lpC
  refine zAW fun i _=>?_
  unfold maxG
  rw [zHB,zHB,(zBA _).2.2.2.1,sw_dwn,(zBA _).1,(zBA _).1]
 have hlf:zBf (zBR L) i=swLt (zBf L i):=by
  unfold zBf
  rw [zHB,zHB,(zBA _).1,(zBA _).1]
  split<;>rfl
 have hn:(zBR L).length=L.length:=by unfold zBR;simp
 unfold zCH
 rw [zHB,(zBA _).2.2.2.2,sw_dwn]
 by_cases hc:isC (la L i)=true
 ·rw [if_pos hc,if_pos hc,sw_c hc]
  simp only [List.map_cons,List.map_nil]
  unfold visW
  rw [List.map_append,ou_fix (itoa_ou _)]
  cases (la L i).over<;>rfl
 ·rw [if_neg hc,if_neg hc]
  by_cases hd:dwn L i=true
  ·rw [if_pos hd,if_pos hd]
   simp only [List.map_cons,List.map_nil]
   unfold zHk
   rw [hlf,(zBA _).1,(zBA _).2.1,hlp,hn]
   have ha:arrB (zBR L) i=arrB L i:=by unfold arrB;rw [zHB,zHB,(zBA _).1,(zBA _).1]
   rw [ha]
   simp only [List.map_append,List.map_cons,List.map_nil]
   rw [ou_fix (itoa_ou _),ou_fix (S:=nmF F ((zBf L i).gate+1)) (name_ou _)]
   congr 2
   unfold arrB
   split<;>rfl
  ·rw [if_neg hd,if_neg hd];rfl
/-- The sequence of the swapped code. -/
theorem sw_seq:seqF F (zBR L)=(seqF F L).map ou:=by
 have hn:(zBR L).length=L.length:=by unfold zBR;simp
 unfold seqF
 rw [hn]
 by_cases h:L.length=0
 ·rw [if_pos h,if_pos h];decide
 ·rw [if_neg h,if_neg h,←join_map (by decide)]
  congr 1
  unfold zDS
  rw [List.map_flatMap]
  congr 1
  funext i
  exact sw_seqAt i
theorem gTo_un (m:Nat):gTo (L.map unS) m=gTo L m:=by
 induction m with
 | zero=>rfl
 | succ m ih =>
  show (if isP (la (L.map unS) m) then _ else _)=(if isP (la L m) then _ else _)
  rw [zFV,ih]
  rfl
/-- Codes that differ in signs alone have one word. -/
theorem same_word {M:List Lt} (h:M.map unS=L.map unS):gTo M M.length=gTo L L.length:=by
 have hl:M.length=L.length:=by simpa using congrArg List.length h
 rw [←gTo_un,h,gTo_un,hl]
end
end Go.Proofs.YtlmdfmnbcndhoaaGreatDoor
namespace Go.Proofs.YtlmdfmnbcndhoaaGreatDoor
open Go.RowKit
def worL (K:Int) (L:List Lt) (n:Nat):List Int:=if zAp K L=0 then gTo L n else []
def GivesIE (w:World) (I:List Int) (E:Int) (e:Ending) (w':World):Prop:=∃(A':Option Addr) (n' c':Nat),e=.returned (.tuple #[.slice A' n' c',.int .i64 E])∧Own w' w.heap.size A' n' c' I∧Below w.heap.size w w'
set_option maxRecDepth 100000 in
set_option maxHeartbeats 6400000 in
theorem code_Word (K:Int) (A:Option Addr) (n c:Nat) (L:List Lt) (w:World) (hA:Lets w A n L) (hc:n≤c) :
  Calls Tryz.prog 46 #[.agg #[.int .i64 K,.slice A n c]] w (GivesIE w (worL K L n) (zAp K L)):=by
 have hle:=hA.le
 have hbx:=Boxed.refl w K A n c
 have x0:=hbx.c0
 have x1:=hbx.c1
 obtain ⟨E,hE⟩:∃E,zAp K L=E:=⟨_,rfl⟩
 have HE:=Lib.hid hE
 clear hE
 go_enter Tryz.func46,Tryz.ntmps46
 go_wp2_with fail
 refine (zHg K A n c L _ (hA.below hbx.below)).mono ?_
 rintro e w1 ⟨v,rfl,hb1,hok⟩
 have hb2:=hbx.more hb1
 clear x0 x1 hb1 hbx
 rw [HE.out]
 by_cases hz:E=0
 ·subst hz
  obtain ⟨p,rfl,k,rfl,hk40,hn400,hp,hcase⟩:=hok HE.out
  have hdc:w1.cell? ⟨p,1,none⟩=some (.slice A n c):=by
   rcases hcase with ⟨h0,hd⟩ | ⟨_,base,b,g2,g3,g4,g6,s,P,C,ids,_,hF⟩
   ·exact hd.c1
   ·exact hF.ranks.dia.c1
  have HW:=Lib.hid (show worL (k:Int) L n=gTo L n by unfold worL;rw [if_pos HE.out])
  clear hok hcase
  go_wp2_with fail
  go_loopw [6,8,23] (fun v6 _ v23 wr=>∃(i m:Nat) (B:Option Addr) (d:Nat) (I:List Int),i≤n∧m≤i∧v23=.int .i64 i∧v6=.slice B m d∧Own wr (w.heap.size+1) B m d I∧Boxed w wr (k:Int) A n c∧Hid (I=gTo L i)) (fun _ _ v23 _=>n-(intOf v23).toNat)
  case atStart=>exact ⟨0,0,none,0,[],Nat.zero_le _,Nat.le_refl _,rfl,rfl,Own.nil _ _,hb2,Lib.hid rfl⟩
  case round =>
   obtain ⟨i,m,B,d,I,hi,hm,rfl,rfl,hown,hb,HI⟩:=hrel
   clear hb2 hdc
   by_cases hlt:i < n
   ·obtain ⟨g,o,rfl,hg,hx,hok⟩:=(hA.below hb.below).at_ hlt
    obtain ⟨y0,y1,y2,y3,y4,y5⟩:=hx
    have i0:(0:Int)≤(i:Int):=by omega
    have i1:(i:Int) < (n:Int):=by omega
    have HOK:=Lib.hid hok
    clear hok
    by_cases hk1:(la L i).kind=1
    ·have q1:((la L i).kind==1)=true:=by simpa using hk1
     have HG:=Lib.hid (gTo_yes (L:=L) (m:=i) (isP_t hk1))
     clear hk1
     go_wp2_with (at_builtin;refine app1 rfl _ _ rfl ((hown.alloc _).alloc _) (la L i).gate rfl rfl ?c1 HOK.out.gate (by omega) ?c3 ?_)
     case c1=>rw [World.cell?_alloc_at _ _ _ _ (by simp)];rfl
     case c3=>have:=hb.size;simp;omega
     intro B' d' w2 hown' hb' _ _
     have hbz:=Boxed.moreB ((Boxed.alloc hb _).alloc _) hb' (Nat.le_refl _)
     clear hb hb' hown
     go_wp2_with fail
     go_roundw
     case rel=>exact ⟨i+1,m+1,B',d',_,by omega,by omega,by go_num,rfl,hown',hbz,Lib.hid (by rw [HG.out,HI.out])⟩
     case measure=>simp [intOf];omega
    ·have q1:((la L i).kind==1)=false:=by simpa using hk1
     have HG:=Lib.hid (gTo_no (L:=L) (m:=i) (isP_f hk1))
     clear hk1
     go_wp2_with fail
     go_roundw
     case rel=>exact ⟨i+1,m,B,d,I,by omega,by omega,by go_num,rfl,hown.alloc _,hb.alloc _,Lib.hid (by rw [HG.out];exact HI.out)⟩
     case measure=>simp [intOf];omega
   ·have hkn:i=n:=by omega
    subst hkn
    go_wp2_with fail
    go_ret2
    exact ⟨B,m,d,by rw [HE.out];rfl,by rw [HW.out,←HI.out];exact hown.mono (by omega),hb.below⟩
 ·have hz2:(E != 0)=true:=by simpa using hz
  have HW:=Lib.hid (show worL K L n=[] by unfold worL;rw [if_neg (by rw [HE.out];exact hz)])
  clear hok hz
  go_wp2_with fail
  go_ret2
  exact ⟨none,0,0,by rw [HE.out];rfl,by rw [HW.out];exact Own.nil _ _,hb2.below⟩
end Go.Proofs.YtlmdfmnbcndhoaaGreatDoor
namespace Go.Proofs.YtlmdfmnbcndhoaaGreatDoor
open Go.RowKit
def inB (k:Int) (x:Int):Bool:=decide (0≤x)&&decide (x≤k)
theorem inB_no_lo {k x:Int} (h:x < 0):inB k x=false:=by unfold inB;simp;omega
theorem inB_no_hi {k x:Int} (h:k < x):inB k x=false:=by unfold inB;simp;omega
theorem inB_yes {k x:Int} (h:0≤x) (h':x≤k):inB k x=true:=by unfold inB;simp;omega
/-- ref.Word. -/
def wordB (L:List Int):Bool:=decide (L.length % 2=0)&&decide (L.length≤400)&&L.all (inB 40)
set_option maxHeartbeats 400000 in
theorem ref_equal (A B:Option Addr) (n m c d:Nat) (L M:List Int) (w:World) (hA:Ints w A n L) (hB:Ints w B m M) :
  Calls Tryz.prog 47 #[.slice A n c,.slice B m d] w fun e w'=>e=.returned (.bool (L==M))∧Drawn w w':=by
 have hle:=hA.le
 have hle':=hB.le
 have HL:=Lib.hid hA.len
 have HM:=Lib.hid hB.len
 by_cases hnm:n=m
 ·subst hnm
  go_enter Tryz.func47,Tryz.ntmps47
  go_wp2
  go_loopw [5] (fun i wr=>∃k:Nat,k≤n∧i=.int .i64 k∧Hid (L.take k=M.take k)∧Drawn w wr) (fun i _=>n-(intOf i).toNat)
  case atStart=>exact ⟨0,Nat.zero_le _,rfl,by simp [Hid],Drawn.refl w⟩
  case round =>
   obtain ⟨k,hk,rfl,heq,m,rfl⟩:=hrel
   by_cases hlt:k < n
   ·obtain ⟨ad,x,rfl,hx,hx1,hx2,hc⟩:=hA.at_ hlt
    obtain ⟨bd,y,rfl,hy,hy1,hy2,hd⟩:=hB.at_ hlt
    by_cases hxy:x=y
    ·subst hxy
     go_wp2
     go_quiet (fail)
     go_wp2
     go_roundw
     case rel=>exact ⟨k+1,by omega,by go_num,by unfold Hid;rw [List.take_add_one,List.take_add_one,heq.out,hx.out,hy.out],drawn1 _ _⟩
     case measure=>simp [intOf];omega
    ·have hf:=Lib.hid (show (L==M)=false by
      rw [beq_eq_false_iff_ne];intro e;subst e;rw [hx.out] at hy;exact hxy (Option.some.inj hy.out))
     have hxy':(x != y)=true:=by simpa using hxy
     clear hxy
     go_wp2
     go_quiet (fail)
     go_wp2
     go_ret
     exact ⟨zAg hf.out.symm,drawn2 _ _ _⟩
   ·go_wp2
    go_ret
    refine ⟨zAg ?_,m,rfl⟩
    have h:=heq.out
    rw [List.take_of_length_le (by rw [HL.out];omega),List.take_of_length_le (by rw [HM.out];omega)] at h
    rw [h];simp
 ·have hf:=Lib.hid (show (L==M)=false by
   rw [beq_eq_false_iff_ne];intro e;subst e;exact hnm (HL.out.symm.trans HM.out))
  go_enter Tryz.func47,Tryz.ntmps47
  go_wp2
  go_ret
  exact ⟨zAg hf.out.symm,Drawn.refl w⟩
end Go.Proofs.YtlmdfmnbcndhoaaGreatDoor
namespace Go.Proofs.YtlmdfmnbcndhoaaGreatDoor
open Go.RowKit
theorem word1_any (x:Int) (w:World):Calls Tryz.prog 144 #[.int .i64 x] w fun e w'=>e=.returned (.bool (!inB 40 x))∧w'=w:=by
 by_cases h1:0≤x
 ·by_cases h2:x≤40
  ·have hf:=Lib.hid (show (!inB 40 x)=false by rw [inB_yes h1 h2];rfl)
   go_enter Tryz.func144,Tryz.ntmps144
   go_wp2
   go_ret
   exact ⟨zAg (by rw [hf.out];simp;omega),rfl⟩
  ·have hf:=Lib.hid (show (!inB 40 x)=true by rw [inB_no_hi (by omega)];rfl)
   go_enter Tryz.func144,Tryz.ntmps144
   go_wp2
   go_ret
   exact ⟨zAg hf.out.symm,rfl⟩
 ·have hf:=Lib.hid (show (!inB 40 x)=true by rw [inB_no_lo (by omega)];rfl)
  go_enter Tryz.func144,Tryz.ntmps144
  go_wp2
  go_ret
  exact ⟨zAg hf.out.symm,rfl⟩
/-- slices.IndexFunc at word's own predicate: not in 0 .. 40. -/
def badAt (L:List Int) (i:Nat):Bool:=match L[i]? with
 | some x=>!inB 40 x
 | none=>false
theorem zGp {L:List Int} {i:Nat} {x:Int} (h:L[i]? = some x):badAt L i = !inB 40 x:=by unfold badAt;rw [h]
set_option maxHeartbeats 400000 in
theorem zHC (A:Option Addr) (n c:Nat) (L:List Int) (w:World) (hA:Ints w A n L) :
  Calls Tryz.prog 180 #[.slice A n c,.func (.func 144) #[] #[]] w fun e w'=>e=.returned (.int .i64 (zDu (badAt L) n))∧w'=w:=by
 have hle:=hA.le
 have HL:=Lib.hid hA.len
 go_enter Tryz.func180,Tryz.ntmps180
 go_wp2_with fail
 go_loop [8] (fun i=>∃k:Nat,k≤n∧i=.int .i64 k∧Hid (NoneTo (badAt L) k)) (fun i=>n-(intOf i).toNat)
 case atStart=>exact ⟨0,Nat.zero_le _,rfl,NoneTo.zero _⟩
 case round =>
  obtain ⟨k,hk,rfl,hno⟩:=hrel
  by_cases hlt:k < n
  ·obtain ⟨ad,x,rfl,hx,hx1,hx2,hc⟩:=hA.at_ hlt
   rcases Bool.eq_false_or_eq_true (inB 40 x) with hb | hb
   ·go_wp2_with (go_at_call 144;refine (word1_any _ _).mono ?_;rintro e w' ⟨rfl,rfl⟩)
    go_round
    case rel=>exact ⟨k+1,by omega,by go_num,hno.out.succ (by rw [zGp hx,hb];rfl)⟩
    case measure=>simp [intOf];omega
   ·have hf:=Lib.hid (zCI (n:=n) hno.out (by rw [zGp hx,hb];rfl) hlt)
    go_wp2_with (go_at_call 144;refine (word1_any _ _).mono ?_;rintro e w' ⟨rfl,rfl⟩)
    go_ret
    exact ⟨zBI hf.out.symm,rfl⟩
  ·go_wp2_with fail
   go_ret
   have hkn:k=n:=by omega
   subst hkn
   exact ⟨zBI (zCp hno.out).symm,rfl⟩
theorem all_of_badAt {L:List Int} (h:NoneTo (badAt L) L.length):L.all (inB 40)=true:=by
 rw [List.all_eq_true]
 intro x hx
 obtain ⟨i,hi,rfl⟩:=List.getElem_of_mem hx
 have:=h i hi
 rw [zGp (List.getElem?_eq_getElem hi)] at this
 simpa using this
theorem zFK (A:Option Addr) (n c:Nat) (L:List Int) (w:World) (hA:Ints w A n L) :
  Calls Tryz.prog 143 #[.slice A n c,.func (.func 144) #[] #[]] w fun e w'=>e=.returned (.bool (!L.all (inB 40)))∧w'=w:=by
 have HL:=Lib.hid hA.len
 have hf:=Lib.hid (show decide (0≤zDu (badAt L) n) = !L.all (inB 40) by
  rcases zFL (badAt L) n with ⟨h,h'⟩ | ⟨k,hk,h,_,hp⟩
  ·rw [h,all_of_badAt (by rw [HL.out];exact h')];rfl
  ·have hx:L[k]? = some (L[k]'(by rw [HL.out];exact hk)):=List.getElem?_eq_getElem _
   rw [zGp hx] at hp
   rw [h,all_false_of (inB 40) L k _ hx (by simpa using hp)];simp)
 go_enter Tryz.func143,Tryz.ntmps143
 go_wp2_with (go_at_call 180;refine (zHC _ _ _ _ _ hA).mono ?_;rintro e w' ⟨rfl,rfl⟩)
 go_ret
 exact ⟨zAg hf.out,rfl⟩
set_option maxHeartbeats 400000 in
theorem line_word (A:Option Addr) (n c:Nat) (L:List Int) (w:World) (hA:Ints w A n L) :
  Calls Tryz.prog 96 #[.slice A n c] w fun e w'=>e=.returned (.bool (wordB L))∧w'=w:=by
 have hle:=hA.le
 have HL:=Lib.hid hA.len
 by_cases h1:n % 2=0
 ·have h1':((n:Int) % 2==0)=true:=by simp;omega
  by_cases h2:n≤400
  ·have hf:=Lib.hid (show wordB L=L.all (inB 40) by unfold wordB;rw [HL.out];simp [h1,h2])
   go_enter Tryz.func96,Tryz.ntmps96
   go_wp2_with (go_at_call 143;refine (zFK _ _ _ _ _ hA).mono ?_;rintro e w' ⟨rfl,rfl⟩)
   go_ret
   exact ⟨zAg (by simp [hf.out]),rfl⟩
  ·have hf:=Lib.hid (show wordB L=false by unfold wordB;rw [HL.out];simp [h2])
   go_enter Tryz.func96,Tryz.ntmps96
   go_wp2_with fail
   go_ret
   exact ⟨zAg hf.out.symm,rfl⟩
 ·have h1':((n:Int) % 2==0)=false:=by simp;omega
  have hf:=Lib.hid (show wordB L=false by unfold wordB;rw [HL.out];simp [h1])
  go_enter Tryz.func96,Tryz.ntmps96
  go_wp2_with fail
  go_ret
  exact ⟨zAg hf.out.symm,rfl⟩
end Go.Proofs.YtlmdfmnbcndhoaaGreatDoor
namespace Go.Proofs.YtlmdfmnbcndhoaaGreatDoor
open Go.RowKit
/-- The letter i is equal to its neighbor behind it, cyclically. -/
def eqNext (L:List Int) (i:Nat):Bool:=L[i]?==L[(i+1) % L.length]?
def pairI (L:List Int):Int:=zDu (eqNext L) L.length
def redB (L:List Int):Bool:=wordB L&&decide (pairI L < 0)
theorem eqNext_of {L:List Int} {n k j:Nat} {x y:Int} (hl:L.length=n) (hx:L[k]? = some x) (hj:(k+1) % n=j) (hy:L[j]? = some y):eqNext L k=(x==y):=by
 unfold eqNext
 rw [hl,hj,hx,hy]
 rfl
set_option maxHeartbeats 400000 in
theorem line_reduced (A:Option Addr) (n c:Nat) (L:List Int) (w:World) (hA:Ints w A n L) :
  Calls Tryz.prog 48 #[.slice A n c] w fun e w'=>e=.returned (.bool (redB L))∧w'=w:=by
 have hle:=hA.le
 have HL:=Lib.hid hA.len
 rcases Bool.eq_false_or_eq_true (wordB L) with hw | hw
 ·have hf:=Lib.hid (show redB L=decide (pairI L < 0) by unfold redB;rw [hw];rfl)
  go_enter Tryz.func48,Tryz.ntmps48
  go_wp2_with (first | (go_at_call 96;refine (line_word _ _ _ _ _ hA).mono ?_;rintro e w' ⟨rfl,rfl⟩))
  clear hw
  go_loop [10] (fun i=>∃k:Nat,k≤n∧i=.int .i64 k∧Hid (NoneTo (eqNext L) k)) (fun i=>n-(intOf i).toNat)
  case atStart=>exact ⟨0,Nat.zero_le _,rfl,NoneTo.zero _⟩
  case round =>
   obtain ⟨k,hk,rfl,hno⟩:=hrel
   by_cases hlt:k < n
   ·obtain ⟨j,hj⟩:∃j,(k+1) % n=j:=⟨_,rfl⟩
    have hjn:j < n:=by subst hj;exact Nat.mod_lt _ (by omega)
    have hji:((k:Int)+1) % (n:Int)=(j:Int):=by subst hj;simp
    have HJ:=Lib.hid hj
    clear hj
    obtain ⟨ad,x,rfl,hx,hx1,hx2,hc⟩:=hA.at_ hlt
    obtain ⟨y,hy,hy1,hy2,hd⟩:=hA.also hjn
    have he:=eqNext_of HL.out hx.out HJ.out hy.out
    by_cases hxy:x=y
    ·have hg:=Lib.hid (zCI (n:=L.length) hno.out (by rw [he];simpa using hxy) (by rw [HL.out];exact hlt))
     have hxy':(x==y)=true:=by simpa using hxy
     clear he hxy
     go_wp2_with fail
     go_ret
     exact ⟨zAg (by rw [hf.out];unfold pairI;rw [hg.out];simp),rfl⟩
    ·have hn:=Lib.hid (hno.out.succ (show eqNext L k=false by rw [he];simpa using hxy))
     have hxy':(x==y)=false:=by simpa using hxy
     clear he hxy
     go_wp2_with fail
     go_round
     case rel=>exact ⟨k+1,by omega,by go_num,hn⟩
     case measure=>simp [intOf];omega
   ·go_wp2_with fail
    go_ret
    have hkn:k=n:=by omega
    subst hkn
    exact ⟨zAg (by rw [hf.out];unfold pairI;rw [zCp (by rw [HL.out];exact hno.out)];simp),rfl⟩
 ·have hf:=Lib.hid (show redB L=false by unfold redB;rw [hw];rfl)
  go_enter Tryz.func48,Tryz.ntmps48
  go_wp2_with (first | (go_at_call 96;refine (line_word _ _ _ _ _ hA).mono ?_;rintro e w' ⟨rfl,rfl⟩))
  go_ret
  exact ⟨zAg hf.out.symm,rfl⟩
end Go.Proofs.YtlmdfmnbcndhoaaGreatDoor
