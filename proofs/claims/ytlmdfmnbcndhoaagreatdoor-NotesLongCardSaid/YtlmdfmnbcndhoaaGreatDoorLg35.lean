/-
  Lemmas for NotesLong, part 35: contracts and plain facts. Conditions: those that each theorem names.
-/
import Derived.Test.YtlmdfmnbcndhoaaGreatDoorLg34
import Derived.Test.YtlmdfmnbcndhoaaGreatDoorLg12
import Derived.Laws.Cover2
import Derived.Lib.SliceRun
import Derived.Test.YtlmdfmnbcndhoaaGreatDoorLg33
namespace Go.Proofs.YtlmdfmnbcndhoaaGreatDoor
open Go.RowKit
def sqS (F:List Fg) (re lo K:Int) (L:List Lt):List UInt8:=if zBl F re lo K L=0 then zGL F L else []
theorem zFM {A:Option Addr} {n c:Nat} {F:List Fg} {re lo K:Int} {B:Option Addr} {m d:Nat} {L:List Lt} {E:Int} (h:zBl F re lo K L=E) (w:World) (hA:Fgs w A n F) (hc:n≤c) (hB:Lets w B m L) :
  Calls Tryz.prog 74 #[frV A n c re lo,.agg #[.int .i64 K,.slice B m d]] w fun e w'=>e=.returned (.int .i64 E)∧Below w.heap.size w w':=by
 subst h;exact zLT A n c F re lo K B m d L w hA hc hB
theorem zMa {A:Option Addr} {n c:Nat} {F:List Fg} {re lo K:Int} {B:Option Addr} {m d:Nat} {L:List Lt} {S:List UInt8} (h:zGL F L=S) (w:World) (hA:Fgs w A n F) (hB:Lets w B m L) (hP:Pos F re lo L) (hK:K=(F.length:Int)) (ht:Tabs w) :
  Calls Tryz.prog 75 #[frV A n c re lo,.agg #[.int .i64 K,.slice B m d]] w fun e w'=>e=.returned (.string (bA S))∧Below w.heap.size w w':=by
 subst h;subst hK;exact zIr A n c F re lo B m d L w hA hB hP ht
set_option maxHeartbeats 3200000 in
theorem zEF (A:Option Addr) (n c:Nat) (F:List Fg) (re lo K:Int) (B:Option Addr) (m d:Nat) (L:List Lt) (w:World) (hA:Fgs w A n F) (hc:n≤c) (hB:Lets w B m L) (ht:Tabs w) :
  Calls Tryz.prog 33 #[frV A n c re lo,.agg #[.int .i64 K,.slice B m d]] w fun e w'=>e=.returned (.tuple #[.string (bA (sqS F re lo K L)),.int .i64 (zBl F re lo K L)])∧Below w.heap.size w w':=by
 have hb0:Below w.heap.size w ((w.alloc (.cells #[.slice A n c,.int .i64 re,.int .i64 lo] 24)).alloc (.cells #[.int .i64 K,.slice B m d] 55)):=((Below.refl _ _).alloc (Nat.le_refl _) _).alloc (by simp) _;have hk0:Blk ((w.alloc (.cells #[.slice A n c,.int .i64 re,.int .i64 lo] 24)).alloc (.cells #[.int .i64 K,.slice B m d] 55)) w.heap.size 24 #[.slice A n c,.int .i64 re,.int .i64 lo]:=(Blk.new w _ _).alloc _;have hk1:Blk ((w.alloc (.cells #[.slice A n c,.int .i64 re,.int .i64 lo] 24)).alloc (.cells #[.int .i64 K,.slice B m d] 55)) (w.heap.size+1) 55 #[.int .i64 K,.slice B m d]:=heap_alloc2_new w _ _;obtain ⟨E,hE⟩:∃E,zBl F re lo K L=E:=⟨_,rfl⟩
 obtain ⟨S,hS⟩:∃S,zGL F L=S:=⟨_,rfl⟩
 have HPO:=Lib.hid (fun wx (hx:Fgs wx A n F) (hy:Lets wx B m L)=>zFM (d:=d) hE wx hx hc hy);have HA:=Lib.hid hA;have HB:=Lib.hid hB;have HT:=Lib.hid ht;have HE:=Lib.hid hE;have HSE:=Lib.hid (fun (h0:E=0) wx (hx:Fgs wx A n F) (hy:Lets wx B m L) (hz:Tabs wx)=>zMa (c:=c) (d:=d) hS wx hx hy (zGD (zEX (hE.trans h0)).1).1 (zGD (zEX (hE.trans h0)).1).2 hz);rw [hE];have HR:=Lib.hid (show sqS F re lo K L=if E=0 then S else [] by unfold sqS;rw [hE,hS]);rw [HR.out];obtain ⟨R,hR⟩:∃R,(if E=0 then S else ([]:List UInt8))=R:=⟨_,rfl⟩
 rw [hR];have HRR:=Lib.hid hR;clear hA hB ht hE hS hc hR HR;go_enter Tryz.func33,Tryz.ntmps33;go_wp2_with fail
 generalize (w.alloc (.cells #[.slice A n c,.int .i64 re,.int .i64 lo] 24)).alloc (.cells #[.int .i64 K,.slice B m d] 55)=Y at hb0 hk0 hk1 ⊢;refine (HPO.out Y (HA.out.below hb0) (HB.out.below hb0)).mono ?_;rintro e Y2 ⟨rfl,hb2⟩;have hb3:=zAa hb0 hb2 hb0.size;have k2:=hk0.below hb2 hk0.lt;have k3:=hk1.below hb2 hk1.lt;clear hb2 hk0 hk1 hb0;by_cases h0:E=0
 ·have HSE2:=Lib.hid (HSE.out h0);obtain rfl:S=R:=by have:=HRR.out;rwa [if_pos h0] at this
  subst h0;clear HRR;obtain ⟨c0,c1⟩:=cQ2 k3;obtain ⟨c2,c3,c4⟩:=cQ3 k2;clear k2 k3;go_wp2_with fail
  refine (HSE2.out Y2 (HA.out.below hb3) (HB.out.below hb3) (HT.out.below hb3)).mono ?_;rintro e Y3 ⟨rfl,hb4⟩;have hb5:=zAa hb3 hb4 hb3.size;clear hb4 c0 c1 c2 c3 c4;go_wp2_with fail
  go_ret2;exact ⟨rfl,hb5⟩
 ·have q1:(E != 0)=true:=by simpa using h0
  obtain rfl:[]=R:=by have:=HRR.out;rwa [if_neg h0] at this
  clear h0 k2 k3 HRR;go_wp2_with fail
  go_ret2;exact ⟨rfl,hb3⟩
theorem Lets.src {w:World} {A:Option Addr} {n:Nat} {L:List Lt} (h:Lets w A n L):Src w 6 A n (L.flatMap ltC):=by
 refine ⟨by rw [zDs ltC 6 zDQ,h.len],fun hn=>?_⟩;obtain ⟨g,o,rfl,hg,hc⟩:=h.2.2.2 hn;refine ⟨_,rfl,hg,fun j u hu=>?_⟩;have hjl:j < L.length*6:=by
  have:=(List.getElem?_eq_some_iff.1 hu).1
  rwa [zDs ltC 6 zDQ] at this
 have hx:L[j / 6]? = some (L[j / 6]'(by omega)):=List.getElem?_eq_getElem _;have hf:=zJl ltC 6 zDQ L (j / 6) (j % 6) _ hx (Nat.mod_lt _ (by omega));rw [show j / 6*6+j % 6=j by omega,hu] at hf;have ha:=hc (j / 6) _ hx;have hadd:(⟨g,o,none⟩:Addr).add j=⟨g,o+j,none⟩:=Addr.add_lit _ _ _;rw [hadd];have e:j=j / 6*6+j % 6:=by omega
 generalize L[j / 6]'(by omega)=x at *;rcases (show j % 6=0∨j % 6=1∨j % 6=2∨j % 6=3∨j % 6=4∨j % 6=5 by omega) with h6 | h6 | h6 | h6 | h6 | h6<;>rw [h6] at hf e<;>simp [ltC] at hf<;>subst hf
 ·rw [e];exact ha.kind
 ·rw [e];exact ha.gate
 ·rw [e];exact ha.rank
 ·rw [e];exact ha.id
 ·rw [e];exact ha.sign
 ·rw [e];exact ha.over
theorem zVt {w:World} {ops:Array Oper} {rest:List Oper} {o:Oper} {a:Act} {Q':Exit→Act→World→Prop} (hgd:o.guard=none) (s x:Operand)
  (ho:o.op=.call { callee:=.builtin .append,args:=#[s,x],argTypes:=#[53,53] })
  {base:Nat} {A:Option Addr} {n c:Nat} {L:List Lt} (hst:OwnL w base A n c L) {B:Option Addr} {m d:Nat} {M:List Lt} (hM:Lets w B m M) (hs:a.eval s=.slice A n c) (hx:a.eval x=.slice B m d)
  (N:Nat) (hN:n+m=N) (hn:N≤2932031007402) (hbase:base≤w.heap.size)
  (h:∀A' c' w',OwnL w' base A' N c' (L++M)→w.grownBy w' (blk A)→(∀k,blk A'=some k→blk A=some k∨w.heap.size≤k)→wpList Tryz.prog ops Q' rest (a.put o.dst (.slice A' N c')) w') :
  wpList Tryz.prog ops Q' (o :: rest) a w:=by
 obtain ⟨i0,hi,hz0,hz1,hz2⟩:=info_parts zMC
 refine zQL hgd s x 53 ho 76 i0 _ 6 48 Tryz.underlying53 hi hz0 hz1 hz2 rfl (by decide) hst.row hM.src
  (by
   intro u hu
   obtain ⟨q,_,hq⟩:=List.mem_flatMap.1 hu
   simp [ltC] at hq
   rcases hq with rfl | rfl | rfl | rfl | rfl | rfl<;>rfl) hs hx N hN (by unfold maxLen;omega) (by omega) hbase ?_
 intro A' c' w' h1 h2 h3 _;refine h A' c' w' ⟨by rw [List.flatMap_append];exact h1,fun y hy=>?_,hn⟩ h2 h3;rcases List.mem_append.1 hy with hy | hy
 ·exact hst.fits y hy
 ·exact hM.fits y hy
def zMb (w0:World) (K:Int) (L:List Lt) (e:Ending) (w':World):Prop :=
 ∃B m d,e=.returned (.agg #[.int .i64 K,.slice B m d])∧OwnL w' w0.heap.size B m d L∧Below w0.heap.size w0 w'
def zIf (cr nu:Nat) (L:List Lt) (i:Nat):List Lt:=(L.take i).map (sgL cr nu)++L.drop i
theorem zPZ (cr nu:Nat) (L:List Lt):zIf cr nu L 0=L:=by simp [zIf]
theorem zRP (cr nu:Nat) (L:List Lt):zIf cr nu L L.length=zBt cr nu L:=by simp [zIf,zBt]
theorem zQa {cr nu:Nat} {L:List Lt} {i:Nat} (h:i < L.length):(zIf cr nu L i)[i]? = some (la L i):=by
 unfold zIf;rw [List.getElem?_append_right (by simp;omega)];simp only [List.length_map,List.length_take,Nat.min_eq_left (Nat.le_of_lt h),Nat.sub_self,List.getElem?_drop,Nat.add_zero];unfold la;rw [List.getElem?_eq_getElem h];rfl
theorem zJM (cr nu:Nat) (L:List Lt) {i:Nat} (h:i≤L.length):(zIf cr nu L i).length=L.length:=by
 unfold zIf;rw [List.length_append,List.length_map,List.length_take,List.length_drop];omega
theorem zMV {cr nu:Nat} {L:List Lt} {i:Nat} (h:i < L.length):(zIf cr nu L i).set i (sgL cr nu (la L i))=zIf cr nu L (i+1):=by
 have hx:L[i]? = some (la L i):=by unfold la;rw [List.getElem?_eq_getElem h];rfl
 apply List.ext_getElem?;intro j;rw [List.getElem?_set];by_cases hj:i=j
 ·subst hj;rw [if_pos rfl,zJM _ _ _ (by omega),if_pos h];unfold zIf;rw [List.getElem?_append_left (by simp;omega),List.getElem?_map,List.getElem?_take_of_lt (by omega),hx];rfl
 ·rw [if_neg hj];unfold zIf;rcases Nat.lt_or_ge j i with h1 | h1
  ·rw [List.getElem?_append_left (by simp;omega),List.getElem?_append_left (by simp;omega),List.getElem?_map,List.getElem?_map,List.getElem?_take_of_lt h1,List.getElem?_take_of_lt (by omega)]
  ·rw [List.getElem?_append_right (by simp;omega),List.getElem?_append_right (by simp;omega)];simp only [List.length_map,List.length_take,List.getElem?_drop]
   congr 1;omega
theorem zQb {cr nu:Nat} {L:List Lt} {i:Nat} (h:i < L.length) (hs:sgL cr nu (la L i)=la L i):zIf cr nu L (i+1)=zIf cr nu L i:=by
 rw [←zMV h,hs];have:=zQa (cr:=cr) (nu:=nu) h;exact List.ext_getElem? fun j=>by
  rw [List.getElem?_set];by_cases hj:i=j
  ·subst hj;rw [if_pos rfl,zJM _ _ _ (by omega),if_pos h,this]
  ·rw [if_neg hj]
theorem zQc (q:Nat) (h:q < 4096):bits .and .i64 (q:Int) 1=((q % 2:Nat):Int):=by
 unfold bits;simp only [BitVec.toNat_and,BitVec.toNat_ofInt];have e1:((q:Int) % ((2 ^ IntKind.i64.bits:Nat):Int)).toNat=q:=by
  have:((2 ^ IntKind.i64.bits:Nat):Int)=18446744073709551616:=by decide
  rw [this];omega
 have e2:((1:Int) % ((2 ^ IntKind.i64.bits:Nat):Int)).toNat=1:=by decide
 rw [e1,e2,Nat.and_one_is_mod];exact IntWalk.i64_in _ (by omega)
theorem zVu {w:World} {ops:Array Oper} {o:Oper} {a:Act} {K:Act→World→Prop} {Q':Exit→Act→World→Prop} {E:Prop} (hgd:o.guard=none) (s x:Operand)
  (ho:o.op=.call { callee:=.builtin .append,args:=#[s,x],argTypes:=#[53,53] })
  {base:Nat} {A:Option Addr} {n c:Nat} {L:List Lt} {B:Option Addr} {m d:Nat} {M:List Lt} (hs:a.eval s=.slice A n c) (hx:a.eval x=.slice B m d)
  (hL:OwnL w base A n c L) (hM:Lets w B m M) (N:Nat) (hN:n+m=N) (hn:N≤2932031007402) (hbase:base≤w.heap.size)
  (h:∀A' c' w',OwnL w' base A' N c' (L++M)→w.grownBy w' (blk A)→(∀k,blk A'=some k→blk A=some k∨w.heap.size≤k)→K (a.put o.dst (.slice A' N c')) w') :
  if Region.wanted o (yielded ops a.tmps)=true then Oper.wp Tryz.prog o a w K Q' else E:=by
 obtain ⟨i0,hi,hz0,hz1,hz2⟩:=info_parts zMC
 refine zUP hgd s x 53 ho 76 i0 _ 6 48 Tryz.underlying53 hi hz0 hz1 hz2 rfl (by decide) hL.row hM.src
  (by
   intro u hu
   obtain ⟨q,_,hq⟩:=List.mem_flatMap.1 hu
   simp [ltC] at hq
   rcases hq with rfl | rfl | rfl | rfl | rfl | rfl<;>rfl) hs hx N hN (by unfold maxLen;omega) (by omega) hbase ?_
 intro A' c' w' h1 h2 h3 _;refine h A' c' w' ⟨by rw [List.flatMap_append];exact h1,fun y hy=>?_,hn⟩ h2 h3;rcases List.mem_append.1 hy with hy | hy
 ·exact hL.fits y hy
 ·exact hM.fits y hy
structure SgW (Y wr:World) (oB:Nat) (K:Int) (A:Option Addr) (n c:Nat) (M:List Lt):Prop where
 own:OwnL wr Y.heap.size A n c M
 bk:Blk wr oB 55 #[.int .i64 K,.slice A n c]
 far:∀q,blk A=some q→q≠oB
 old:Below Y.heap.size Y wr
section
variable {Y wr wx:World} {oB:Nat} {K:Int} {A:Option Addr} {n c:Nat} {M:List Lt}
theorem SgW.next (h:SgW Y wr oB K A n c M) (hb:Below wr.heap.size wr wx):SgW Y wx oB K A n c M:=⟨h.own.next hb,h.bk.below hb h.bk.lt,h.far,zAa h.old hb h.old.size⟩
theorem SgW.put {g o j:Nat} {x x':Lt} {u:Value} (h:SgW Y wr oB K (some ⟨g,o,none⟩) n c M) (hx:M[j]? = some x) (he:ltC x'=(ltC x).set 4 u) (hok:LtOk x') :
  SgW Y (wr.setCell ⟨g,o+(j*6+4),none⟩ u) oB K (some ⟨g,o,none⟩) n c (M.set j x') :=
 ⟨h.own.put hx (by omega) he hok rfl,h.bk.far (fun e=>h.far g rfl e.symm) u,h.far,h.old.setCell (p:=⟨g,o+(j*6+4),none⟩) (h.own.row.at_ _ rfl).2.1 u⟩
theorem SgW.free {g o j:Nat} (h:SgW Y wr oB K (some ⟨g,o,none⟩) n c M) (hj:j < n):wr.frozen? ⟨g,o+j*6+4,none⟩=false:=by
 have:=h.own.row.cap;have e:=h.own.row.free (j:=j*6+4) (by omega);rw [←Nat.add_assoc] at e;exact e
end
theorem zIO {a b c:World} {B:Nat} (h:Below B a b) (hg:b.grownBy c (blk none)) (hB:B≤b.heap.size):Below B a c:=h.grown hg hB (fun k hk=>by cases hk)
theorem zUi {A:Option Addr} {N M:Nat} (h:N < M) (hl:∀k,blk A=some k→blk none=some k∨M≤k):∀q,blk A=some q→q≠N:=fun q hq e=>by
 rcases hl q hq with h1 | h1
 ·cases h1
 ·omega
theorem zRQ {Y w1:World} {K:Int} {A:Option Addr} {n c:Nat} {L:List Lt} (hown:OwnL w1 Y.heap.size A n c L) (hz:Blk w1 Y.heap.size 55 #[.int .i64 0,.slice none 0 0]) (hb:Below Y.heap.size Y w1) (hf:∀q,blk A=some q→q≠Y.heap.size) :
  ∃(X:World) (oB:Nat) (A1:Option Addr) (c1:Nat),X=(w1.setCell ⟨Y.heap.size,0,none⟩ (.int .i64 K)).setCell ⟨Y.heap.size,1,none⟩ (.slice A n c)∧Value.pointer (some ⟨Y.heap.size,0,none⟩)=.pointer (some ⟨oB,0,none⟩)∧Y.heap.size≤oB∧SgW Y X oB K A1 n c1 L:=by
 refine ⟨_,Y.heap.size,A,c,rfl,rfl,Nat.le_refl _,?_,(hz.set_ 0 _).set_ 1 _,hf,(hb.setCell (p:=⟨Y.heap.size,0,none⟩) (Nat.le_refl _) _).setCell (p:=⟨Y.heap.size,1,none⟩) (Nat.le_refl _) _⟩;have gS:=zAk (zAk (World.grownBy.refl w1 (some Y.heap.size)) (p:=⟨Y.heap.size,0,none⟩) (.inl rfl) (.int .i64 K)) (p:=⟨Y.heap.size,1,none⟩) (.inl rfl) (.slice A n c);refine ⟨hown.row.kept gS ?_,hown.fits,hown.le⟩
 cases hb:blk A with
 | none=>exact .inl rfl
 | some q=>exact .inr (by have:=hf q hb;simpa using this)
set_option maxHeartbeats 12800000 in
set_option maxRecDepth 100000 in
theorem zKM (K:Int) (B:Option Addr) (n d:Nat) (L:List Lt) (cr nu:Nat) (w:World) (hB:Lets w B n L) (hn:n≤1000000) (hcr:cr≤12) (hnu:nu < 4096) (hid:∀i,i < n→isC (la L i)=true→1≤(la L i).id∧(la L i).id≤cr) :
  Calls Tryz.prog 82 #[.agg #[.int .i64 K,.slice B n d],.int .i64 (cr:Int),.int .i64 (nu:Int)] w (zMb w K (zBt cr nu L)):=by
 have hb0:Below w.heap.size w ((w.alloc (.cells #[.int .i64 K,.slice B n d] 55)).alloc (.cells #[.int .i64 0,.slice none 0 0] 55)):=((Below.refl _ _).alloc (Nat.le_refl _) _).alloc (by simp) _;have hk0:Blk ((w.alloc (.cells #[.int .i64 K,.slice B n d] 55)).alloc (.cells #[.int .i64 0,.slice none 0 0] 55)) w.heap.size 55 #[.int .i64 K,.slice B n d]:=(Blk.new w _ _).alloc _;have hk1:Blk ((w.alloc (.cells #[.int .i64 K,.slice B n d] 55)).alloc (.cells #[.int .i64 0,.slice none 0 0] 55)) (w.heap.size+1) 55 #[.int .i64 0,.slice none 0 0]:=heap_alloc2_new w _ _;have HLN:=Lib.hid hB.len;have HB:=Lib.hid hB;have HID:=Lib.hid hid;clear hid hB;go_enter Tryz.func82,Tryz.ntmps82;go_upto_region 1 with fail
 generalize ((w.alloc (.cells #[.int .i64 K,.slice B n d] 55)).alloc (.cells #[.int .i64 0,.slice none 0 0] 55))=Y at hb0 hk0 hk1 ⊢;obtain ⟨f0,f1⟩:=cQ2 hk0;have hBY:Lets Y B n L:=HB.out.below hb0;have KP:=Lib.hid (fun wx (h:Below Y.heap.size Y wx)=>(show wx.cell? ⟨w.heap.size,0,none⟩=some (.int .i64 K)∧wx.cell? ⟨w.heap.size,1,none⟩=some (.slice B n d) from ⟨((hk0.below h hk0.lt).cell 0).trans rfl,((hk0.below h hk0.lt).cell 1).trans rfl⟩));have hn2:n≤2932031007402:=by omega
 have hbz0:Below Y.heap.size Y (Y.alloc (.cells #[.int .i64 0,.slice none 0 0] 55)):=(Below.refl _ _).alloc (Nat.le_refl _) _;have kz0:Blk (Y.alloc (.cells #[.int .i64 0,.slice none 0 0] 55)) Y.heap.size 55 #[.int .i64 0,.slice none 0 0]:=Blk.new _ _ _;have uz0:(Y.alloc (.cells #[.int .i64 0,.slice none 0 0] 55)).cell? ⟨w.heap.size,0,none⟩=some (.int .i64 K):=(KP.out _ hbz0).1;have uz1:(Y.alloc (.cells #[.int .i64 0,.slice none 0 0] 55)).cell? ⟨w.heap.size,1,none⟩=some (.slice B n d):=(KP.out _ hbz0).2;go_cut [7] (fun v7 wv=>∃(X:World) (oB:Nat) (A1:Option Addr) (c1:Nat),X=wv∧v7=.pointer (some ⟨oB,0,none⟩)∧Y.heap.size≤oB∧SgW Y X oB K A1 n c1 (zIf cr nu L 0))
 case first =>
  go_region_law (first
   | ((refine zVu (base:=Y.heap.size) (A:=none) (n:=0) (c:=0) (L:=[]) (m:=n) (d:=d) (M:=L) rfl (.const (.slice none 0 0)) (.tmp 13) (by rfl) (by rfl) (by rfl) (OwnL.nil _ _) (by first | exact hBY.below (Below.refl _ _).drew | exact hBY.below hbz0.drew) n (by omega) hn2 (by first | exact Nat.le_refl _ | exact hbz0.size) ?_)
      intro A1 c1 w1 hown1 hg1 hl1
      have kb1:Below Y.heap.size Y w1:=(by first | exact zIO (Below.refl Y.heap.size Y).drew hg1 (Nat.le_refl _) | exact zIO hbz0.drew hg1 hbz0.size)
      obtain ⟨u0,u1⟩:=KP.out _ kb1
      obtain ⟨u2,u3⟩:=KP.out _ (kb1.alloc kb1.size (.cells #[.int .i64 0,.slice none 0 0] 55))
      try have kz1:=kz0.drew.grown hg1 (by simp [blk])
      try have y0:w1.cell? ⟨Y.heap.size,0,none⟩=some (.int .i64 0):=(kz1.cell 0).trans rfl
      try have y1:w1.cell? ⟨Y.heap.size,1,none⟩=some (.slice none 0 0):=(kz1.cell 1).trans rfl
      try have yz0:=kz1.frozen 0
      try have yz1:=kz1.frozen 1
      try have hfar:=zUi kz0.lt hl1))
  all_goals
   rw [List.nil_append] at hown1;clear u0 u1 u2 u3 KP f0 f1 uz0 uz1;go_wp2_with fail
   go_meet
   case rel =>
    rw [zPZ]
    first
     | exact ⟨_,w1.heap.size,A1,c1,rfl,rfl,kb1.size,hown1.alloc _,Blk.new _ _ _,fun q hq=>Nat.ne_of_lt (hown1.row.lt q hq).2,kb1.alloc kb1.size _⟩
     | exact zRQ hown1 kz1 kb1 hfar
 case rest =>
  obtain ⟨Z,oB,A1,c1,hZ,rfl,hoY,hW0⟩:=hcut;subst hZ;clear kz0 uz0 uz1 hbz0 KP f0 f1;have g1:Z.cell? ⟨oB,1,none⟩=some (.slice A1 n c1):=(hW0.bk.cell 1).trans rfl;go_wp2_with fail
  clear g1;go_loopw [19] (fun v19 wv=>∃(i:Nat) (X:World),X=wv∧i≤n∧v19=.int .i64 i∧SgW Y X oB K A1 n c1 (zIf cr nu L i)) (fun v19 _=>n-(intOf v19).toNat)
  case atStart=>exact ⟨0,_,rfl,by omega,rfl,hW0⟩
  case round =>
   obtain ⟨i,X,hX,hi,rfl,hW⟩:=hrel;subst hX;clear hW0;by_cases hlt:i < n
   ·have j0:(0:Int)≤(i:Int):=by omega
    have j1:(i:Int) < (n:Int):=by omega
    have hil:i < L.length:=by rw [HLN.out];exact hlt
    have hgi:=zQa (cr:=cr) (nu:=nu) hil;have hll:la (zIf cr nu L i) i=la L i:=zQS hgi;obtain ⟨g,o,rfl,hgl,hat,hok⟩:=hW.own.lets.at_ hlt;rw [hll] at hat hok;obtain ⟨l,hle⟩:∃l,la L i=l:=⟨_,rfl⟩
    rw [hle] at hat hok hgi;obtain ⟨x0,x1,x2,x3,x4,x5⟩:=hat;have hbl:=(Below.refl X.heap.size X).alloc (Nat.le_refl _) (.cells #[.int .i64 l.kind,.int .i64 l.gate,.int .i64 l.rank,.int .i64 l.id,.int .i64 l.sign,.bool l.over] 76);have hl9:Blk (X.alloc (.cells #[.int .i64 l.kind,.int .i64 l.gate,.int .i64 l.rank,.int .i64 l.id,.int .i64 l.sign,.bool l.over] 76)) X.heap.size 76 #[.int .i64 l.kind,.int .i64 l.gate,.int .i64 l.rank,.int .i64 l.id,.int .i64 l.sign,.bool l.over]:=Blk.new _ _ _;have hW1:=hW.next hbl;have hgX:g < X.heap.size:=hgl;have HID1:=Lib.hid (HID.out i hlt);clear hW hbl hll;by_cases hk2:l.kind=2
    ·have q2:(l.kind != 2)=false:=by simpa using hk2
     have hcr2:isC (la L i)=true:=by rw [hle];exact zLb hk2
     have hid:=HID1.out hcr2;rw [hle] at hid;obtain ⟨k,hk⟩:∃k:Nat,(cr:Int)-l.id=(k:Int):=⟨((cr:Int)-l.id).toNat,by omega⟩
     have hk12:k≤12:=by omega
     have hkk:cr-l.id.toNat=k:=by omega
     obtain ⟨q,hq⟩:∃q,nu >>> k=q:=⟨_,rfl⟩
     have hq4:q < 4096:=by rw [←hq];exact Nat.lt_of_le_of_lt (Nat.shiftRight_le _ _) hnu
     have hdiv:(nu:Int) / 2 ^ k=(q:Int):=by rw [←hq,Nat.shiftRight_eq_div_pow];simp
     have hand:=zQc q hq4;have hwr:wrap64 ((cr:Int)-l.id)=(k:Int):=by rw [hk];unfold wrap64;omega
     have hokm:∀s,s=1∨s = -1→LtOk { l with sign:=s }:=fun s hs=>⟨hok.kind,hok.gate,hok.rank,hok.id,⟨by simp only;omega,by simp only;omega⟩⟩
     have HSG:=Lib.hid (show sgL cr nu (la L i)={ l with sign:=if q % 2=1 then 1 else -1 } by
      unfold sgL sgI
      rw [hcr2,if_pos rfl,hle,hkk,hq])
     have HSET:=Lib.hid (zMV (cr:=cr) (nu:=nu) hil);have hi1:i+1≤n:=hlt;have HGI:=Lib.hid hgi;have HOK:=Lib.hid hokm;clear hk2 hcr2 hid hle hk hkk hq hokm hgi hok;go_upto_region 6 with fail
     clear x0 x1 x2 x3 x5;generalize X.alloc (.cells #[.int .i64 l.kind,.int .i64 l.gate,.int .i64 l.rank,.int .i64 l.id,.int .i64 l.sign,.bool l.over] 76)=X1 at hl9 hW1 ⊢;generalize X.heap.size=a9 at hl9 hgX ⊢;have hat1:=(hW1.own.lets.also (k:=i) hlt).1;have hll1:la (zIf cr nu L i) i=l:=zQS HGI.out;rw [hll1] at hat1;have c1:X1.cell? ⟨oB,1,none⟩=some (.slice (some ⟨g,o,none⟩) n c1):=(hW1.bk.cell 1).trans rfl;have s4:X1.cell? ⟨g,o+i*6+4,none⟩=some (.int .i64 l.sign):=hat1.sign;have z4:=hW1.free hlt;have hW2:=hW1.put (x':={ l with sign:=-1 }) (u:=.int .i64 (-1)) HGI.out rfl (HOK.out _ (.inr rfl));have hl9b:=hl9.far (p:=⟨g,o+(i*6+4),none⟩) (by simp only;omega) (.int .i64 (-1));clear hat1 hll1 hW1 hl9;go_upto_region 7 with fail
     clear c1 s4 z4 x4;generalize X1.setCell ⟨g,o+i*6+4,none⟩ (.int .i64 (-1))=X2 at *
     change SgW Y X2 oB K (some ⟨g,o,none⟩) n c1 _ at hW2
     change Blk X2 a9 _ _ at hl9b
     have e3:X2.cell? ⟨a9,3,none⟩=some (.int .i64 l.id):=(hl9b.cell 3).trans rfl;have hg2:((zIf cr nu L i).set i { l with sign:=-1 })[i]? = some { l with sign:=-1 }:=by rw [List.getElem?_set_self (by rw [zJM _ _ _ (Nat.le_of_lt hil)];exact hil)]
     by_cases hb:q % 2=1
     ·have r1:(((q % 2:Nat):Int)==1)=true:=by rw [hb];rfl
      have c1:X2.cell? ⟨oB,1,none⟩=some (.slice (some ⟨g,o,none⟩) n c1):=(hW2.bk.cell 1).trans rfl;have hat2:=(hW2.own.lets.also (k:=i) hlt).1;rw [show la ((zIf cr nu L i).set i { l with sign:=-1 }) i={ l with sign:=-1 } from zQS hg2] at hat2;have s4:X2.cell? ⟨g,o+i*6+4,none⟩=some (.int .i64 (-1)):=hat2.sign;have z4:=hW2.free hlt;have hW3:=hW2.put (x':={ l with sign:=1 }) (u:=.int .i64 1) hg2 rfl (HOK.out _ (.inl rfl));rw [List.set_set,show ({ l with sign:=1 }:Lt)=sgL cr nu (la L i) by rw [HSG.out,if_pos hb],HSET.out] at hW3;have HW3:=Lib.hid hW3;clear hat2 hW2 hW3 hl9b hg2 hb;go_wp2_with fail
      go_roundw
      case rel=>exact ⟨i+1,_,rfl,hi1,by go_num,HW3.out⟩
      case measure=>simp [intOf];omega
     ·have hb0:q % 2=0:=by omega
      have r1:(((q % 2:Nat):Int)==1)=false:=by rw [hb0];rfl
      rw [show ({ l with sign:=-1 }:Lt)=sgL cr nu (la L i) by rw [HSG.out,if_neg hb],HSET.out] at hW2;clear hl9b hg2 hb hb0;go_wp2_with fail
      go_roundw
      case rel=>exact ⟨i+1,_,rfl,hi1,by go_num,hW2⟩
      case measure=>simp [intOf];omega
    ·have q2:(l.kind != 2)=true:=by simpa using hk2
     have hs:zIf cr nu L (i+1)=zIf cr nu L i:=zQb hil (by unfold sgL;rw [hle,zLc hk2];rfl);rw [←hs] at hW1;clear hk2 hle hs hl9 hgi hok;go_wp2_with fail
     go_roundw
     case rel=>exact ⟨i+1,_,rfl,by omega,by go_num,hW1⟩
     case measure=>simp [intOf];omega
   ·have j1:¬(i:Int) < (n:Int):=by omega
    have hin:i=L.length:=by rw [HLN.out];omega
    rw [hin,zRP] at hW;have hRl:w.heap.size+1 < Y.heap.size:=hk1.lt;have hR3:=hk1.below hW.old hRl;have e0:X.cell? ⟨oB,0,none⟩=some (.int .i64 K):=(hW.bk.cell 0).trans rfl;have e1:X.cell? ⟨oB,1,none⟩=some (.slice A1 n c1):=(hW.bk.cell 1).trans rfl;obtain ⟨r0,r1⟩:=cQ2 hR3;have z0:=hR3.frozen 0;have z1:=hR3.frozen 1;have HR3:=Lib.hid hR3;have HW:=Lib.hid hW;have hwY:=hb0.size;clear hin hlt hW hR3;go_wp2_with fail
    have hS:Blk ((X.setCell ⟨w.heap.size+1,0,none⟩ (.int .i64 K)).setCell ⟨w.heap.size+1,1,none⟩ (.slice A1 n c1)) (w.heap.size+1) 55 #[.int .i64 K,.slice A1 n c1]:=(HR3.out.set_ 0 _).set_ 1 _;have gS:=zAk (zAk (World.grownBy.refl X (some (w.heap.size+1))) (p:=⟨w.heap.size+1,0,none⟩) (.inl rfl) (.int .i64 K)) (p:=⟨w.heap.size+1,1,none⟩) (.inl rfl) (.slice A1 n c1);have hbS:=((zAa hb0 HW.out.old hwY).setCell (p:=⟨w.heap.size+1,0,none⟩) (by simp) (.int .i64 K)).setCell (p:=⟨w.heap.size+1,1,none⟩) (by simp) (.slice A1 n c1);have hLk:OwnL ((X.setCell ⟨w.heap.size+1,0,none⟩ (.int .i64 K)).setCell ⟨w.heap.size+1,1,none⟩ (.slice A1 n c1)) w.heap.size A1 n c1 (zBt cr nu L):=by
     refine ⟨(HW.out.own.row.kept gS ?_).mono hwY,HW.out.own.fits,HW.out.own.le⟩
     cases hb:blk A1 with
     | none=>exact .inl rfl
     | some q=>exact .inr (by have:=(HW.out.own.row.lt q hb).1;simp;omega)
    (try simp only [Exit.inBlock,Exit.then])
    refine zAG rfl rfl hS Tryz.underlying55 rfl (by kernel_rfl) rfl ?_;exact ⟨A1,n,c1,rfl,hLk,hbS⟩
structure It where
 fg:Option Fg
 n:Int
 b:Bool
def okI (t:It):Prop:=(∀f,t.fg=some f→zAx f=true)∧1≤t.n∧t.n≤999999999
def itW (t:It):List UInt8:=match t.fg with
 | some f=>zAq f++46 :: Lib.itoa t.n++[if t.b then 62 else 60]
 | none=>Lib.itoa t.n++[if t.b then 111 else 117]
def btI (L:List Fg) (t:It):Bi:=match t.fg with
 | some f=>⟨if zBb L f=0 then -1 else (zBb L f:Int),t.n,t.b⟩
 | none=>⟨0,t.n,t.b⟩
def zKN (L:List Fg) (t:It):Bool:=match t.fg with
 | some f=>zBA L f
 | none=>false
theorem zQd (f:Fg):(46:UInt8) ∉ zAq f:=fun hb=>by
 unfold zAq at hb;have h1:∀x:Int,(46:UInt8) ∉ Lib.itoa x:=fun x=>zMt (by decide)
 rcases List.mem_append.1 hb with h | h
 ·split at h
  ·simp at h
  ·exact h1 _ h
 ·rcases List.mem_cons.1 h with h | h
  ·split at h<;>cases h
  ·exact h1 _ h
theorem zKO (A:List UInt8) (c:UInt8):zHa (A++[c])=Lib.cut A [46]:=by unfold zHa;rw [List.dropLast_concat]
theorem zEu (A:List UInt8) (c d:UInt8):zCc (A++[c]) d=decide (c=d):=by unfold zCc;simp
theorem zMW (L:List Fg) {t:It} (h:okI t):zMT L (itW t)=btI L t∧zOa (itW t)=false∧zSP (itW t)=t.fg.isNone∧zUe L (itW t)=zKN L t:=by
 obtain ⟨fg,n,b⟩:=t;obtain ⟨h1,h2,h3⟩:=h;have hc:=zIG h2 h3;simp only at hc h1
 cases fg with
 | none =>
  have hcut:zHa (Lib.itoa n++[if b then 111 else 117])=(Lib.itoa n,[],false):=by rw [zKO];exact zOL (zMt (by decide))
  simp only [itW,btI,zKN];unfold zMT zOa zSP zUe;rw [hcut];simp only [List.dropLast_concat,hc,zEu]
  cases b<;>exact ⟨rfl,rfl,rfl,rfl⟩
 | some f =>
  have hf:=h1 f rfl;have hcut:zHa (zAq f++46 :: Lib.itoa n++[if b then 62 else 60])=(zAq f,Lib.itoa n,true):=by rw [zKO];exact zOK (zQd f)
  have hp:=zFo hf rfl;simp only [itW,btI,zKN];unfold zMT zOa zSP zUe zEx zKs zEO;rw [hcut];simp only [hp,hc,zEu]
  cases b<;>exact ⟨rfl,rfl,rfl,rfl⟩
theorem zGu {x:List UInt8} {c:UInt8} (h:zCc x c=true):x=x.dropLast++[c]:=by
 unfold zCc at h;rw [decide_eq_true_eq] at h;obtain ⟨C,rfl⟩:=List.getLast?_eq_some_iff.1 h;rw [List.dropLast_concat]
theorem zUj {S:List UInt8} {c:UInt8} (h:(Lib.cut S [c]).2.2=true):S=(Lib.cut S [c]).1++c :: (Lib.cut S [c]).2.1∧c ∉ (Lib.cut S [c]).1:=by
 by_cases hc:c∈S
 ·obtain ⟨a,r,rfl,ha⟩:=zJG hc;rw [zOK ha];exact ⟨rfl,ha⟩
 ·rw [zOL hc] at h;cases h
theorem zQe {x:List UInt8} (h:zOa x=false):∃t,okI t∧x=itW t:=by
 unfold zOa at h
 cases hc:(zHa x).2.2 with
 | true =>
  rw [hc,if_pos rfl] at h;simp only [Bool.or_eq_false_iff,Bool.not_eq_false',Bool.or_eq_true] at h;obtain ⟨⟨h1,h2⟩,h3⟩:=h;obtain ⟨v,hv⟩:∃v,zAs (zHa x).2.1=(v,true):=⟨(zAs (zHa x).2.1).1,by rw [←h3]⟩
  obtain ⟨e1,e2,e3⟩:=zDt hv;obtain ⟨f,hf⟩:∃f,zIE (zHa x).1=some f:=by
   unfold zKs at h1
   cases hp:zIE (zHa x).1 with
   | none=>rw [hp] at h1;cases h1
   | some f=>exact ⟨f,rfl⟩
  obtain ⟨k1,k2⟩:=zLA hf;have hx:=(zUj hc).1;rw [show (Lib.cut x.dropLast [46]).1=(zHa x).1 from rfl,show (Lib.cut x.dropLast [46]).2.1=(zHa x).2.1 from rfl,←k2,e1] at hx;refine ⟨⟨some f,v,zCc x 62⟩,⟨fun g hg=>(by injection hg with hg;subst hg;exact k1),e2,e3⟩,?_⟩;simp only [itW];rcases h2 with h2 | h2
  ·rw [h2,if_pos rfl,←hx];exact zGu h2
  ·have hne:zCc x 62=false:=by
    have:=zGu h2;rw [this,zEu];rfl
   rw [hne,←hx];exact zGu h2
 | false =>
  rw [hc,if_neg (by simp)] at h;simp only [Bool.or_eq_false_iff,Bool.not_eq_false',Bool.or_eq_true] at h;obtain ⟨h2,h3⟩:=h;obtain ⟨v,hv⟩:∃v,zAs x.dropLast=(v,true):=⟨(zAs x.dropLast).1,by rw [←h3]⟩
  obtain ⟨e1,e2,e3⟩:=zDt hv;refine ⟨⟨none,v,zCc x 111⟩,⟨fun g hg=>(by cases hg),e2,e3⟩,?_⟩;simp only [itW];rcases h2 with h2 | h2
  ·rw [h2,if_pos rfl,←e1];exact zGu h2
  ·have hne:zCc x 111=false:=by
    have:=zGu h2;rw [this,zEu];rfl
   rw [hne,←e1];exact zGu h2
theorem zMc (L:List Fg) {T:List It} (h:∀t∈T,okI t):(T.map itW).map (zMT L)=T.map (btI L)∧zFJ L (T.map itW)=T.any (zKN L)∧zEA (T.map itW)=(match T.head? with | some t=>t.fg.isNone | none=>false):=by
 refine ⟨?_,?_,?_⟩
 ·rw [List.map_map];exact List.map_congr_left fun t ht=>(zMW L (h t ht)).1
 ·unfold zFJ;rw [List.any_map]
  induction T with
  | nil=>rfl
  | cons t T ih =>
   rw [List.any_cons,List.any_cons,ih fun t ht=>h t (List.mem_cons_of_mem _ ht)];simp only [Function.comp];rw [(zMW L (h t (List.mem_cons_self ..))).2.2.2]
 ·have h1:(T.map itW).any zOa=false:=by
   rw [List.any_eq_false];intro x hx;obtain ⟨t,ht,rfl⟩:=List.mem_map.1 hx;rw [(zMW L (h t ht)).2.1];simp
  unfold zEA;rw [h1,Bool.false_or]
  cases T with
  | nil=>rfl
  | cons t T=>exact (zMW L (h t (List.mem_cons_self ..))).2.2.1
theorem zOf {W:List (List UInt8)} (h:zEA W=false):∃T:List It,(∀t∈T,okI t)∧W=T.map itW:=by
 unfold zEA at h;rw [Bool.or_eq_false_iff] at h;have h1:=h.1;clear h
 induction W with
 | nil=>exact ⟨[],by simp,rfl⟩
 | cons x W ih =>
  rw [List.any_cons,Bool.or_eq_false_iff] at h1;obtain ⟨t,ht,rfl⟩:=zQe h1.1;obtain ⟨T,hT,rfl⟩:=ih h1.2
  exact ⟨t :: T,fun s hs=>by
   rcases List.mem_cons.1 hs with rfl | hs
   ·exact ht
   ·exact hT s hs,rfl⟩
theorem zRR (t:It):(32:UInt8) ∉ itW t:=fun hb=>by
 obtain ⟨fg,n,b⟩:=t;have h1:=(zFs n).no32
 cases fg with
 | none =>
  simp only [itW] at hb;rcases List.mem_append.1 hb with h | h
  ·exact h1 h
  ·cases b<;>simp at h
 | some f =>
  simp only [itW] at hb;rcases List.mem_append.1 hb with h | h
  ·rcases List.mem_append.1 h with h | h
   ·exact (zDg f).no32 h
   ·rcases List.mem_cons.1 h with h | h
    ·cases h
    ·exact h1 h
  ·cases b<;>simp at h
theorem zIP {T:List It} (h:T≠[]):zBo 32 (Lib.join (T.map itW) [32])=T.map itW :=
 zHw (by simpa using h) fun p hp=>by
  obtain ⟨t,_,rfl⟩:=List.mem_map.1 hp;exact zRR t
def zSR (b:Bi):List Value:=[.int .i64 b.f,.int .i64 b.n,.bool b.b]
structure BiOk (b:Bi):Prop where
 f:I64 b.f
 n:I64 b.n
structure BiAt (w:World) (g o:Nat) (x:Bi):Prop where
 f:w.cell? ⟨g,o,none⟩=some (.int .i64 x.f)
 n:w.cell? ⟨g,o+1,none⟩=some (.int .i64 x.n)
 b:w.cell? ⟨g,o+2,none⟩=some (.bool x.b)
def Bits (w:World) (A:Option Addr) (n:Nat) (l:List Bi):Prop:=Els 3 zSR w A n l∧∀x∈l,BiOk x
section
variable {w w':World} {A:Option Addr} {n:Nat} {l:List Bi}
theorem Bits.len (h:Bits w A n l):l.length=n:=h.1.1
theorem Bits.below (h:Bits w A n l) (hb:Below w.heap.size w w'):Bits w' A n l:=⟨h.1.below hb,h.2⟩
theorem Bits.at_ {k:Nat} (h:Bits w A n l) (hk:k < n):∃g o,A=some ⟨g,o,none⟩∧g < w.heap.size∧BiAt w g (o+k*3) (ba l k)∧BiOk (ba l k):=by
 obtain ⟨g,o,e,hb,hc⟩:=h.1.2.2 (by omega);have hx:l[k]? = some (ba l k):=zKJ (by rw [h.len];exact hk);refine ⟨g,o,e,hb,⟨hc k _ hx 0 _ rfl,hc k _ hx 1 _ rfl,hc k _ hx 2 _ rfl⟩,h.2 _ (List.mem_of_getElem? hx)⟩
end
theorem zVv:(Tryz.prog.info? 174).map (fun i=>(i.zero,i.size,i.bytes))=some (some (.agg #[.int .i64 0,.int .i64 0,.bool false]),3,24):=by kernel_rfl
theorem zWk {w:World} {ops:Array Oper} {rest:List Oper} {o:Oper} {a:Act} {Q:Exit→Act→World→Prop} (hgd:o.guard=none) (s x:Operand)
  (ho:o.op=.call { callee:=.builtin .append,args:=#[s,x],argTypes:=#[124,124] })
  {base:Nat} {A:Option Addr} {n c:Nat} {P:List Bi} (hst:Row w base 3 A n c (P.flatMap zSR)) (y:Bi)
  (hs:a.eval s=.slice A n c) (hx:a.eval x=.slice (some ⟨w.heap.size,0,none⟩) 1 1) (N:Nat) (hN:n+1=N) (hn:N≤1000000) (hbase:base≤w.heap.size)
  (h:∀A' c' w',Row w' base 3 A' N c' ((P++[y]).flatMap zSR)→w.grownBy w' (blk A)→(∀k,blk A'=some k→blk A=some k∨w.heap.size≤k)→wpList Tryz.prog ops Q rest (a.put o.dst (.slice A' N c')) w') :
  wpList Tryz.prog ops Q (o :: rest) a (w.alloc (.cells #[.int .i64 y.f,.int .i64 y.n,.bool y.b] 174)):=by
 obtain ⟨i0,hi,hz0,hz1,hz2⟩:=info_parts zVv;have hbl:=(Below.refl w.heap.size w).alloc (Nat.le_refl _) (.cells #[.int .i64 y.f,.int .i64 y.n,.bool y.b] 174);have hst1:=hst.below hbl
 refine zQL hgd s x 124 ho 174 i0 _ 3 24 Tryz.underlying124 hi hz0 hz1 hz2 rfl (by decide) hst1 (Src.new (m:=1) (cs:=zSR y) rfl)
  (by intro u hu;simp [zSR] at hu;rcases hu with rfl | rfl | rfl<;>rfl) hs hx N hN (by unfold maxLen;omega) (by omega) (by simp;omega) ?_
 intro A' c' w' h1 h2 h3 _;refine h A' c' w' (by rw [List.flatMap_append];simpa using h1) ?_ (fun k hk=>?_)
 ·exact zAb (zAw hbl) h2
 ·rcases h3 k hk with e | e
  ·exact .inl e
  ·exact .inr (by simp at e;omega)
def zQf (x:List UInt8):List UInt8:=match x.getLast? with
 | some c=>[c]
 | none=>[]
theorem zQg (S:List UInt8) (c:UInt8):zQf (S++[c])=[c]:=by unfold zQf;simp
theorem zJN (x:List UInt8) (c:UInt8):(zQf x==[c])=zCc x c:=by
 unfold zQf zCc
 cases x.getLast? with
 | none=>simp
 | some d=>by_cases h:d=c<;>simp [h]
theorem zRS (S:List UInt8) (c:UInt8) (w:World):(Instr.slice 9 (.string (bA (S++[c]))) none (some (.int .i64 (S.length:Int))) none).run Tryz.prog w=.ok (.string (bA S)) w:=by
 rw [run_slice_string_h w 9 (bA (S++[c])) Tryz.underlying9 .i64 (S.length:Int) (by omega) (by rw [zBc];simp;omega),zDb];simp
theorem zRT (S:List UInt8) (c:UInt8) (w:World):(Instr.slice 9 (.string (bA (S++[c]))) (some (.int .i64 (S.length:Int))) none none).run Tryz.prog w=.ok (.string (bA [c])) w:=by
 rw [run_slice_string_l w 9 (bA (S++[c])) Tryz.underlying9 .i64 (S.length:Int) (by omega) (by rw [zBc];simp;omega),zDb,zBc,List.take_of_length_le (Nat.le_refl _)];simp
theorem zUk (s:List UInt8) (hs:s.length≤100000) (w:World) (ht:Tabs w) :
  Calls Tryz.prog 62 #[.string (bA s),.string ⟨#[46]⟩] w fun e w'=>e=.returned (.tuple #[.string (bA (Lib.cut s [46]).1),.string (bA (Lib.cut s [46]).2.1),.bool (Lib.cut s [46]).2.2])∧Below w.heap.size w w':=by
 obtain ⟨m,hm⟩:=ht.most;have h:=Tryz.strings_Cut (bA s) (bA [46]) m w (by rw [zBc];omega) hm;rw [zDJ,zDJ] at h;refine h.mono ?_;rintro e w' ⟨rfl,n,rfl⟩;exact ⟨rfl,zAf (Below.refl _ _) n⟩
end Go.Proofs.YtlmdfmnbcndhoaaGreatDoor
