/-
  Lemmas, part 34. Conditions: each theorem's own.
-/
import Derived.Test.YtlmdfmnbcndhoaaGreatDoorRc33
import Derived.Test.YtlmdfmnbcndhoaaGreatDoorRc12
import Derived.Laws.Cover2
import Derived.Lib.SliceRun
import Derived.Test.YtlmdfmnbcndhoaaGreatDoorRc32
open Go.Value renaming bool→G,int→D,slice→H,string→W
open Go.IntKind renaming i64→J
open Bool renaming false→E,true→Q
open Option renaming none→U,some→Z
namespace Go.Proofs.YtlmdfmnbcndhoaaGreatDoor
open Go.RowKit
def sqS (F:List Fg) (re lo K:Int) (L:List Lt):List UInt8:=if zDl F re lo K L=0 then zTB F L else []
theorem zJK {A:Option Addr} {n c:Nat} {F:List Fg} {re lo K:Int} {B:Option Addr} {m d:Nat} {L:List Lt} {ZT:Int} (h:zDl F re lo K L=ZT) (w:World) (hA:Fgs w A n F) (hc:n≤c) (hB:Lets w B m L) :
  Calls Tryz.prog 74 #[frV A n c re lo,.agg #[D J K,H B m d]] w fun e w'=>e=.returned (D J ZT)∧Below w.heap.size w w':=by
 subst h;exact zLZ A n c F re lo K B m d L w hA hc hB
theorem zMe {A:Option Addr} {n c:Nat} {F:List Fg} {re lo K:Int} {B:Option Addr} {m d:Nat} {L:List Lt} {S:List UInt8} (h:zTB F L=S) (w:World) (hA:Fgs w A n F) (hB:Lets w B m L) (hP:Pos F re lo L) (hK:K=(F.length:Int)) (ht:Tabs w) :
  Calls Tryz.prog 75 #[frV A n c re lo,.agg #[D J K,H B m d]] w fun e w'=>e=.returned (W (bA S))∧Below w.heap.size w w':=by
 subst h;subst hK;exact zIn A n c F re lo B m d L w hA hB hP ht
set_option maxHeartbeats 3200000 in
theorem zIo (A:Option Addr) (n c:Nat) (F:List Fg) (re lo K:Int) (B:Option Addr) (m d:Nat) (L:List Lt) (w:World) (hA:Fgs w A n F) (hc:n≤c) (hB:Lets w B m L) (ht:Tabs w) :
  Calls Tryz.prog 33 #[frV A n c re lo,.agg #[D J K,H B m d]] w fun e w'=>e=.returned (.tuple #[W (bA (sqS F re lo K L)),D J (zDl F re lo K L)])∧Below w.heap.size w w':=by
 have aa:Below w.heap.size w ((w.alloc (.cells #[H A n c,D J re,D J lo] 24)).alloc (.cells #[D J K,H B m d] 55)):=((Below.refl _ _).alloc (Nat.le_refl _) _).alloc (by simp) _;have hk0:Blk ((w.alloc (.cells #[H A n c,D J re,D J lo] 24)).alloc (.cells #[D J K,H B m d] 55)) w.heap.size 24 #[H A n c,D J re,D J lo]:=(Blk.new w _ _).alloc _;have ag:Blk ((w.alloc (.cells #[H A n c,D J re,D J lo] 24)).alloc (.cells #[D J K,H B m d] 55)) (w.heap.size+1) 55 #[D J K,H B m d]:=heap_alloc2_new w _ _;obtain ⟨ZT,hE⟩:∃ZT,zDl F re lo K L=ZT:=⟨_,rfl⟩
 obtain ⟨S,hS⟩:∃S,zTB F L=S:=⟨_,rfl⟩
 have iM:=qH (fun wx (hx:Fgs wx A n F) (hy:Lets wx B m L)=>zJK (d:=d) hE wx hx hc hy);have HA:=qH hA;have HB:=qH hB;have HT:=qH ht;have HE:=qH hE;have HSE:=qH (fun (h0:ZT=0) wx (hx:Fgs wx A n F) (hy:Lets wx B m L) (hz:Tabs wx)=>zMe (c:=c) (d:=d) hS wx hx hy (zGx (zHV (hE.trans h0)).1).1 (zGx (zHV (hE.trans h0)).1).2 hz);rw [hE];have HR:=qH (show sqS F re lo K L=if ZT=0 then S else [] by unfold sqS;rw [hE,hS]);rw [HR.out];obtain ⟨R,hR⟩:∃R,(if ZT=0 then S else ([]:List UInt8))=R:=⟨_,rfl⟩
 rw [hR];have nY:=qH hR;clear hA hB ht hE hS hc hR HR;go_enter Tryz.func33,Tryz.ntmps33;go_wp2_with fail
 generalize (w.alloc (.cells #[H A n c,D J re,D J lo] 24)).alloc (.cells #[D J K,H B m d] 55)=Y at aa hk0 ag ⊢;refine (iM.out Y (HA.out.below aa) (HB.out.below aa)).mono ?_;rintro e Y2 ⟨rfl,ab⟩;have ac:=zAa aa ab aa.size;have k2:=hk0.below ab hk0.lt;have k3:=ag.below ab ag.lt;clear ab hk0 ag aa;by_cases h0:ZT=0
 ·have C4:=qH (HSE.out h0);obtain rfl:S=R:=by have:=nY.out;rwa [if_pos h0] at this
  subst h0;clear nY;obtain ⟨c0,c1⟩:=cQ2 k3;obtain ⟨c2,c3,c4⟩:=cQ3 k2;clear k2 k3;go_wp2_with fail
  refine (C4.out Y2 (HA.out.below ac) (HB.out.below ac) (HT.out.below ac)).mono ?_;rintro e Y3 ⟨rfl,aj⟩;have ai:=zAa ac aj ac.size;clear aj c0 c1 c2 c3 c4;go_wp2_with fail
  go_ret2;exact ⟨rfl,ai⟩
 ·have q1:(ZT != 0)=Q:=by simpa using h0
  obtain rfl:[]=R:=by have:=nY.out;rwa [if_neg h0] at this
  clear h0 k2 k3 nY;go_wp2_with fail
  go_ret2;exact ⟨rfl,ac⟩
def ltB (x y:Lt):Bool:=x.kind==y.kind&&x.gate==y.gate&&x.rank==y.rank&&x.id==y.id&&x.sign==y.sign&&x.over==y.over
theorem zQl {x y:Lt}:ltB x y=Q↔x=y:=by
 cases x;cases y
 simp [ltB,and_assoc]
set_option maxRecDepth 100000 in
theorem eqLt (x y:Lt) (w:World):(Op.equalIn 10000 76 (.agg #[D J x.kind,D J x.gate,D J x.rank,D J x.id,D J x.sign,G x.over]) (.agg #[D J y.kind,D J y.gate,D J y.rank,D J y.id,D J y.sign,G y.over])).run Tryz.prog w=.ok (ltB x y) w:=by
 have u3:=Tryz.underlying3;have a3:=Tryz.isAgg3;have z3:=Tryz.sizeOf3;have u4:=Tryz.underlying4;have a4:=Tryz.isAgg4;have z4:=Tryz.sizeOf4;have u5:=Tryz.underlying74;have a5:=Tryz.isAgg74;have z5:=Tryz.sizeOf74;have hS:Tryz.prog.underlying 76=Z (.struct (Tryz.prog.fieldsOf 76)):=by kernel_rfl
 have hp:Tryz.prog.stoodInHeld 76=E:=by kernel_rfl
 rw [show (10000:Nat)=9999+1 from rfl,run_equalIn_agg w 9999 76 _ _ hS hp];simp only [Program.fieldsOf,Tryz.underlying76];go_simp
 unfold ltB;by_cases h1:x.kind=y.kind<;>by_cases h2:x.gate=y.gate<;>by_cases h3:x.rank=y.rank<;>by_cases h4:x.id=y.id<;>by_cases h5:x.sign=y.sign<;>by_cases h6:x.over=y.over<;>simp [h1,h2,h3,h4,h5,h6]
theorem zTC {L:List Lt} {i:Nat} (h:i < L.length):L[i]? = Z (la L i):=by unfold la;rw [List.getElem?_eq_getElem h];rfl
set_option maxRecDepth 100000 in
set_option maxHeartbeats 3200000 in
theorem zOc (K1 K2:Int) (A B:Option Addr) (n c m d:Nat) (L M:List Lt) (w:World) (hA:Lets w A n L) (hB:Lets w B m M) :
  Calls Tryz.prog 39 #[.agg #[D J K1,H A n c],.agg #[D J K2,H B m d]] w fun e w'=>e=.returned (G (K1==K2&&decide (L=M)))∧Below w.heap.size w w':=by
 have hle:=hA.le;have aA:=hA.len;have xe:=hB.len;have ab:Below w.heap.size w ((w.alloc (.cells #[D J K1,H A n c] 55)).alloc (.cells #[D J K2,H B m d] 55)):=((Below.refl _ _).alloc (Nat.le_refl _) _).alloc (by simp) _;by_cases hK:K1=K2
 ·have hKb:(K1 != K2)=E:=by simpa using hK
  by_cases hnm:n=m
  ·have hnb:((n:Int) != (m:Int))=E:=by simp;omega
   have Gv:=qH (show (K1==K2&&decide (L=M))=decide (L=M) by simp [hK]);have HN:=qH hnm;have HL:=qH aA;have HM:=qH xe;clear hK hnm aA xe;have bB:Blk ((w.alloc (.cells #[D J K1,H A n c] 55)).alloc (.cells #[D J K2,H B m d] 55)) (w.heap.size+1) 55 #[D J K2,H B m d]:=heap_alloc2_new w _ _;have bA:=(Blk.new w 55 #[D J K1,H A n c]).alloc (.cells #[D J K2,H B m d] 55);go_enter Tryz.func39,Tryz.ntmps39;go_wp2_with fail
   generalize (w.alloc (.cells #[D J K1,H A n c] 55)).alloc (.cells #[D J K2,H B m d] 55)=ZR at ab bA bB ⊢;have hst:Hid (∀j,j < 0→la L j=la M j):=qH (fun j hj=>by omega);go_loopw [5] (fun v5 wr=>∃i:Nat,i≤n∧v5=D J i∧Below ZR.heap.size ZR wr∧Hid (∀j,j < i→la L j=la M j)) (fun v5 _=>n-(intOf v5).toNat)
   case atStart=>exact ⟨0,Nat.zero_le _,rfl,Below.refl _ _,hst⟩
   case round =>
    obtain ⟨i,hi,rfl,hbr,HS⟩:=hrel;clear hst;have e1:wr.cell? ⟨w.heap.size,1,U⟩=Z (H A n c):=((bA.below hbr bA.lt).cell 1).trans rfl;have e2:wr.cell? ⟨w.heap.size+1,1,U⟩=Z (H B m d):=((bB.below hbr bB.lt).cell 1).trans rfl;have hbw:=zAa ab hbr ab.size;by_cases hlt:i < n
    ·obtain ⟨g1,o1,rfl,cm,hx,_⟩:=(hA.below hbw).at_ hlt;obtain ⟨g2,o2,rfl,bG,hy,_⟩:=(hB.below hbw).at_ (k:=i) (by have:=HN.out;omega);obtain ⟨x0,x1,x2,x3,x4,x5⟩:=hx;obtain ⟨y0,y1,y2,y3,y4,y5⟩:=hy;have i0:(0:Int)≤(i:Int):=by omega
     have i1:(i:Int) < (n:Int):=by omega
     have i2:(i:Int) < (m:Int):=by have:=HN.out;omega
     have heq:=fun w=>eqLt (la L i) (la M i) w
     cases hq:ltB (la L i) (la M i) with
     | true =>
      have et:=qH (show ∀j,j < i+1→la L j=la M j from fun j hj=>by
       rcases Nat.decEq j i with e | e
       ·exact HS.out j (by omega)
       ·subst e;exact zQl.1 hq)
      clear HS;go_wp2_with fail
      go_quiet (fail)
      go_wp2_with fail
      go_roundw
      case rel=>exact ⟨i+1,by omega,by go_num,zAe hbr _,et⟩
      case measure=>simp [intOf];omega
     | false =>
      have hf:=qH (show decide (L=M)=E by
       simp only [decide_eq_false_iff_not]
       intro e
       rw [e] at hq
       have:=zQl (x:=la M i) (y:=la M i)
       rw [this.2 rfl] at hq
       cases hq)
      clear HS;go_wp2_with fail
      go_quiet (fail)
      go_wp2_with fail
      go_ret;exact ⟨zAi (by rw [Gv.out,hf.out]),zAe hbw _⟩
    ·have hin:i=n:=by omega
     have hf:=qH (show decide (L=M)=Q by
      simp only [decide_eq_true_eq]
      apply List.ext_getElem?
      intro j
      by_cases hj:j < n
      ·rw [zTC (by rw [HL.out];exact hj),zTC (by rw [HM.out,←HN.out];exact hj),HS.out j (by omega)]
      ·rw [List.getElem?_eq_none (by rw [HL.out];omega),List.getElem?_eq_none (by rw [HM.out,←HN.out];omega)])
     have i1:¬(i:Int) < (n:Int):=by omega
     clear HS hin;go_wp2_with fail
     go_ret;exact ⟨zAi (by rw [Gv.out,hf.out]),hbw⟩
  ·have hnb:((n:Int) != (m:Int))=Q:=by simp;omega
   have hf:=qH (show (K1==K2&&decide (L=M))=E by
    have:L≠M:=fun e=>hnm (by rw [←aA,←xe,e])
    simp [this])
   clear hK hnm aA xe;go_enter Tryz.func39,Tryz.ntmps39;go_wp2_with fail
   go_ret;exact ⟨zAi hf.out.symm,ab⟩
 ·have hKb:(K1 != K2)=Q:=by simpa using hK
  have hf:=qH (show (K1==K2&&decide (L=M))=E by simp [hK]);clear hK aA xe;go_enter Tryz.func39,Tryz.ntmps39;go_wp2_with fail
  go_ret;exact ⟨zAi hf.out.symm,ab⟩
theorem Lets.src {w:World} {A:Option Addr} {n:Nat} {L:List Lt} (h:Lets w A n L):Src w 6 A n (L.flatMap ltC):=by
 refine ⟨by rw [zDv ltC 6 zDR,h.len],fun hn=>?_⟩;obtain ⟨g,o,rfl,hg,hc⟩:=h.2.2.2 hn;refine ⟨_,rfl,hg,fun j u hu=>?_⟩;have hjl:j < L.length*6:=by
  have:=(List.getElem?_eq_some_iff.1 hu).1
  rwa [zDv ltC 6 zDR] at this
 have hx:L[j / 6]? = Z (L[j / 6]'(by omega)):=List.getElem?_eq_getElem _;have hf:=zEL ltC 6 zDR L (j / 6) (j % 6) _ hx (Nat.mod_lt _ (by omega));rw [show j / 6*6+j % 6=j by omega,hu] at hf;have ha:=hc (j / 6) _ hx;have hadd:(⟨g,o,U⟩:Addr).add j=⟨g,o+j,U⟩:=Addr.add_lit _ _ _;rw [hadd];have e:j=j / 6*6+j % 6:=by omega
 generalize L[j / 6]'(by omega)=x at *;rcases (show j % 6=0∨j % 6=1∨j % 6=2∨j % 6=3∨j % 6=4∨j % 6=5 by omega) with h6 | h6 | h6 | h6 | h6 | h6<;>rw [h6] at hf e<;>simp [ltC] at hf<;>subst hf
 ·rw [e];exact ha.kind
 ·rw [e];exact ha.gate
 ·rw [e];exact ha.rank
 ·rw [e];exact ha.id
 ·rw [e];exact ha.sign
 ·rw [e];exact ha.over
theorem zWC {w:World} {ops:Array Oper} {rest:List Oper} {o:Oper} {a:Act} {Q':Exit→Act→World→Prop} (hgd:o.guard=U) (s x:Operand)
  (ho:o.op=.call { callee:=.builtin .append,args:=#[s,x],argTypes:=#[53,53] })
  {base:Nat} {A:Option Addr} {n c:Nat} {L:List Lt} (hst:OwnL w base A n c L) {B:Option Addr} {m d:Nat} {M:List Lt} (hM:Lets w B m M) (hs:a.eval s=H A n c) (hx:a.eval x=H B m d)
  (N:Nat) (hN:n+m=N) (hn:N≤2932031007402) (hbase:base≤w.heap.size)
  (h:∀A' c' w',OwnL w' base A' N c' (L++M)→w.grownBy w' (blk A)→(∀k,blk A'=Z k→blk A=Z k∨w.heap.size≤k)→wpList Tryz.prog ops Q' rest (a.put o.dst (H A' N c')) w') :
  wpList Tryz.prog ops Q' (o :: rest) a w:=by
 obtain ⟨i0,hi,aT,az,bt⟩:=info_parts zMC
 refine zOy hgd s x 53 ho 76 i0 _ 6 48 Tryz.underlying53 hi aT az bt rfl (by decide) hst.row hM.src
  (by
   intro u hu
   obtain ⟨q,_,hq⟩:=List.mem_flatMap.1 hu
   simp [ltC] at hq
   rcases hq with rfl | rfl | rfl | rfl | rfl | rfl<;>rfl) hs hx N hN (by unfold maxLen;omega) (by omega) hbase ?_
 intro A' c' w' h1 h2 h3 _;refine h A' c' w' ⟨by rw [List.flatMap_append];exact h1,fun y hy=>?_,hn⟩ h2 h3;rcases List.mem_append.1 hy with hy | hy
 ·exact hst.fits y hy
 ·exact hM.fits y hy
def zHX (w0:World) (K:Int) (L:List Lt) (e:Ending) (w':World):Prop :=
 ∃B m d,e=.returned (.agg #[D J K,H B m d])∧OwnL w' w0.heap.size B m d L∧Below w0.heap.size w0 w'
def zId (cr nu:Nat) (L:List Lt) (i:Nat):List Lt:=(L.take i).map (sgL cr nu)++L.drop i
theorem zQm (cr nu:Nat) (L:List Lt):zId cr nu L 0=L:=by simp [zId]
theorem zSu (cr nu:Nat) (L:List Lt):zId cr nu L L.length=zBB cr nu L:=by simp [zId,zBB]
theorem zQn {cr nu:Nat} {L:List Lt} {i:Nat} (h:i < L.length):(zId cr nu L i)[i]? = Z (la L i):=by
 unfold zId;rw [List.getElem?_append_right (by simp;omega)];simp only [List.length_map,List.length_take,Nat.min_eq_left (Nat.le_of_lt h),Nat.sub_self,List.getElem?_drop,Nat.add_zero];unfold la;rw [List.getElem?_eq_getElem h];rfl
theorem zJL (cr nu:Nat) (L:List Lt) {i:Nat} (h:i≤L.length):(zId cr nu L i).length=L.length:=by
 unfold zId;rw [List.length_append,List.length_map,List.length_take,List.length_drop];omega
theorem zMU {cr nu:Nat} {L:List Lt} {i:Nat} (h:i < L.length):(zId cr nu L i).set i (sgL cr nu (la L i))=zId cr nu L (i+1):=by
 have hx:L[i]? = Z (la L i):=by unfold la;rw [List.getElem?_eq_getElem h];rfl
 apply List.ext_getElem?;intro j;rw [List.getElem?_set];by_cases hj:i=j
 ·subst hj;rw [if_pos rfl,zJL _ _ _ (by omega),if_pos h];unfold zId;rw [List.getElem?_append_left (by simp;omega),List.getElem?_map,List.getElem?_take_of_lt (by omega),hx];rfl
 ·rw [if_neg hj];unfold zId;rcases Nat.lt_or_ge j i with h1 | h1
  ·rw [List.getElem?_append_left (by simp;omega),List.getElem?_append_left (by simp;omega),List.getElem?_map,List.getElem?_map,List.getElem?_take_of_lt h1,List.getElem?_take_of_lt (by omega)]
  ·rw [List.getElem?_append_right (by simp;omega),List.getElem?_append_right (by simp;omega)];simp only [List.length_map,List.length_take,List.getElem?_drop]
   congr 1;omega
theorem zQo {cr nu:Nat} {L:List Lt} {i:Nat} (h:i < L.length) (hs:sgL cr nu (la L i)=la L i):zId cr nu L (i+1)=zId cr nu L i:=by
 rw [←zMU h,hs];have:=zQn (cr:=cr) (nu:=nu) h;exact List.ext_getElem? fun j=>by
  rw [List.getElem?_set];by_cases hj:i=j
  ·subst hj;rw [if_pos rfl,zJL _ _ _ (by omega),if_pos h,this]
  ·rw [if_neg hj]
theorem zQp (q:Nat) (h:q < 4096):bits .and J (q:Int) 1=((q % 2:Nat):Int):=by
 unfold bits;simp only [BitVec.toNat_and,BitVec.toNat_ofInt];have e1:((q:Int) % ((2 ^ IntKind.i64.bits:Nat):Int)).toNat=q:=by
  have:((2 ^ IntKind.i64.bits:Nat):Int)=18446744073709551616:=by decide
  rw [this];omega
 have e2:((1:Int) % ((2 ^ IntKind.i64.bits:Nat):Int)).toNat=1:=by decide
 rw [e1,e2,Nat.and_one_is_mod];exact IntWalk.i64_in _ (by omega)
theorem zQq {w:World} {ops:Array Oper} {o:Oper} {a:Act} {K:Act→World→Prop} {Q':Exit→Act→World→Prop} {ZT:Prop} (hgd:o.guard=U) (s x:Operand)
  (ho:o.op=.call { callee:=.builtin .append,args:=#[s,x],argTypes:=#[53,53] })
  {base:Nat} {A:Option Addr} {n c:Nat} {L:List Lt} {B:Option Addr} {m d:Nat} {M:List Lt} (hs:a.eval s=H A n c) (hx:a.eval x=H B m d)
  (hL:OwnL w base A n c L) (hM:Lets w B m M) (N:Nat) (hN:n+m=N) (hn:N≤2932031007402) (hbase:base≤w.heap.size)
  (h:∀A' c' w',OwnL w' base A' N c' (L++M)→w.grownBy w' (blk A)→(∀k,blk A'=Z k→blk A=Z k∨w.heap.size≤k)→K (a.put o.dst (H A' N c')) w') :
  if Region.wanted o (yielded ops a.tmps)=Q then Oper.wp Tryz.prog o a w K Q' else ZT:=by
 obtain ⟨i0,hi,aT,az,bt⟩:=info_parts zMC
 refine zVP hgd s x 53 ho 76 i0 _ 6 48 Tryz.underlying53 hi aT az bt rfl (by decide) hL.row hM.src
  (by
   intro u hu
   obtain ⟨q,_,hq⟩:=List.mem_flatMap.1 hu
   simp [ltC] at hq
   rcases hq with rfl | rfl | rfl | rfl | rfl | rfl<;>rfl) hs hx N hN (by unfold maxLen;omega) (by omega) hbase ?_
 intro A' c' w' h1 h2 h3 _;refine h A' c' w' ⟨by rw [List.flatMap_append];exact h1,fun y hy=>?_,hn⟩ h2 h3;rcases List.mem_append.1 hy with hy | hy
 ·exact hL.fits y hy
 ·exact hM.fits y hy
structure SgW (Y wr:World) (oB:Nat) (K:Int) (A:Option Addr) (n c:Nat) (M:List Lt):Prop where
 own:OwnL wr Y.heap.size A n c M
 bk:Blk wr oB 55 #[D J K,H A n c]
 far:∀q,blk A=Z q→q≠oB
 old:Below Y.heap.size Y wr
section
variable {Y wr wx:World} {oB:Nat} {K:Int} {A:Option Addr} {n c:Nat} {M:List Lt}
theorem SgW.next (h:SgW Y wr oB K A n c M) (hb:Below wr.heap.size wr wx):SgW Y wx oB K A n c M:=⟨h.own.next hb,h.bk.below hb h.bk.lt,h.far,zAa h.old hb h.old.size⟩
theorem SgW.put {g o j:Nat} {x x':Lt} {u:Value} (h:SgW Y wr oB K (Z ⟨g,o,U⟩) n c M) (hx:M[j]? = Z x) (he:ltC x'=(ltC x).set 4 u) (hok:LtOk x') :
  SgW Y (wr.setCell ⟨g,o+(j*6+4),U⟩ u) oB K (Z ⟨g,o,U⟩) n c (M.set j x') :=
 ⟨h.own.put hx (by omega) he hok rfl,h.bk.far (fun e=>h.far g rfl e.symm) u,h.far,h.old.setCell (p:=⟨g,o+(j*6+4),U⟩) (h.own.row.at_ _ rfl).2.1 u⟩
theorem SgW.free {g o j:Nat} (h:SgW Y wr oB K (Z ⟨g,o,U⟩) n c M) (hj:j < n):wr.frozen? ⟨g,o+j*6+4,U⟩=E:=by
 have:=h.own.row.cap;have e:=h.own.row.free (j:=j*6+4) (by omega);rw [←Nat.add_assoc] at e;exact e
end
theorem zIO {a b c:World} {B:Nat} (h:Below B a b) (hg:b.grownBy c (blk U)) (hB:B≤b.heap.size):Below B a c:=h.grown hg hB (fun k hk=>by cases hk)
theorem zUY {A:Option Addr} {N M:Nat} (h:N < M) (hl:∀k,blk A=Z k→blk U=Z k∨M≤k):∀q,blk A=Z q→q≠N:=fun q hq e=>by
 rcases hl q hq with h1 | h1
 ·cases h1
 ·omega
theorem zSv {Y w1:World} {K:Int} {A:Option Addr} {n c:Nat} {L:List Lt} (hown:OwnL w1 Y.heap.size A n c L) (hz:Blk w1 Y.heap.size 55 #[D J 0,H U 0 0]) (hb:Below Y.heap.size Y w1) (hf:∀q,blk A=Z q→q≠Y.heap.size) :
  ∃(X:World) (oB:Nat) (A1:Option Addr) (c1:Nat),X=(w1.setCell ⟨Y.heap.size,0,U⟩ (D J K)).setCell ⟨Y.heap.size,1,U⟩ (H A n c)∧Value.pointer (Z ⟨Y.heap.size,0,U⟩)=.pointer (Z ⟨oB,0,U⟩)∧Y.heap.size≤oB∧SgW Y X oB K A1 n c1 L:=by
 refine ⟨_,Y.heap.size,A,c,rfl,rfl,Nat.le_refl _,?_,(hz.set_ 0 _).set_ 1 _,hf,(hb.setCell (p:=⟨Y.heap.size,0,U⟩) (Nat.le_refl _) _).setCell (p:=⟨Y.heap.size,1,U⟩) (Nat.le_refl _) _⟩;have gS:=zAg (zAg (World.grownBy.refl w1 (Z Y.heap.size)) (p:=⟨Y.heap.size,0,U⟩) (.inl rfl) (D J K)) (p:=⟨Y.heap.size,1,U⟩) (.inl rfl) (H A n c);refine ⟨hown.row.kept gS ?_,hown.fits,hown.le⟩
 cases hb:blk A with
 | none=>exact .inl rfl
 | some q=>exact .inr (by have:=hf q hb;simpa using this)
set_option maxHeartbeats 12800000 in
set_option maxRecDepth 100000 in
theorem zKP (K:Int) (B:Option Addr) (n d:Nat) (L:List Lt) (cr nu:Nat) (w:World) (hB:Lets w B n L) (hn:n≤1000000) (hcr:cr≤12) (hnu:nu < 4096) (hid:∀i,i < n→isC (la L i)=Q→1≤(la L i).id∧(la L i).id≤cr) :
  Calls Tryz.prog 82 #[.agg #[D J K,H B n d],D J (cr:Int),D J (nu:Int)] w (zHX w K (zBB cr nu L)):=by
 have aa:Below w.heap.size w ((w.alloc (.cells #[D J K,H B n d] 55)).alloc (.cells #[D J 0,H U 0 0] 55)):=((Below.refl _ _).alloc (Nat.le_refl _) _).alloc (by simp) _;have hk0:Blk ((w.alloc (.cells #[D J K,H B n d] 55)).alloc (.cells #[D J 0,H U 0 0] 55)) w.heap.size 55 #[D J K,H B n d]:=(Blk.new w _ _).alloc _;have ag:Blk ((w.alloc (.cells #[D J K,H B n d] 55)).alloc (.cells #[D J 0,H U 0 0] 55)) (w.heap.size+1) 55 #[D J 0,H U 0 0]:=heap_alloc2_new w _ _;have bj:=qH hB.len;have HB:=qH hB;have DB:=qH hid;clear hid hB;go_enter Tryz.func82,Tryz.ntmps82;go_upto_region 1 with fail
 generalize ((w.alloc (.cells #[D J K,H B n d] 55)).alloc (.cells #[D J 0,H U 0 0] 55))=Y at aa hk0 ag ⊢;obtain ⟨f0,f1⟩:=cQ2 hk0;have Fq:Lets Y B n L:=HB.out.below aa;have KP:=qH (fun wx (h:Below Y.heap.size Y wx)=>(show wx.cell? ⟨w.heap.size,0,U⟩=Z (D J K)∧wx.cell? ⟨w.heap.size,1,U⟩=Z (H B n d) from ⟨((hk0.below h hk0.lt).cell 0).trans rfl,((hk0.below h hk0.lt).cell 1).trans rfl⟩));have hn2:n≤2932031007402:=by omega
 have ju:Below Y.heap.size Y (Y.alloc (.cells #[D J 0,H U 0 0] 55)):=(Below.refl _ _).alloc (Nat.le_refl _) _;have AN:Blk (Y.alloc (.cells #[D J 0,H U 0 0] 55)) Y.heap.size 55 #[D J 0,H U 0 0]:=Blk.new _ _ _;have Ef:(Y.alloc (.cells #[D J 0,H U 0 0] 55)).cell? ⟨w.heap.size,0,U⟩=Z (D J K):=(KP.out _ ju).1;have Ee:(Y.alloc (.cells #[D J 0,H U 0 0] 55)).cell? ⟨w.heap.size,1,U⟩=Z (H B n d):=(KP.out _ ju).2;go_cut [7] (fun v7 wv=>∃(X:World) (oB:Nat) (A1:Option Addr) (c1:Nat),X=wv∧v7=.pointer (Z ⟨oB,0,U⟩)∧Y.heap.size≤oB∧SgW Y X oB K A1 n c1 (zId cr nu L 0))
 case first =>
  go_region_law (first
   | ((refine zQq (base:=Y.heap.size) (A:=U) (n:=0) (c:=0) (L:=[]) (m:=n) (d:=d) (M:=L) rfl (.const (H U 0 0)) (.tmp 13) (by rfl) (by rfl) (by rfl) (OwnL.nil _ _) (by first | exact Fq.below (Below.refl _ _).drew | exact Fq.below ju.drew) n (by omega) hn2 (by first | exact Nat.le_refl _ | exact ju.size) ?_)
      intro A1 c1 w1 el cm mf
      have sC:Below Y.heap.size Y w1:=(by first | exact zIO (Below.refl Y.heap.size Y).drew cm (Nat.le_refl _) | exact zIO ju.drew cm ju.size)
      obtain ⟨u0,u1⟩:=KP.out _ sC
      obtain ⟨u2,u3⟩:=KP.out _ (sC.alloc sC.size (.cells #[D J 0,H U 0 0] 55))
      try have vG:=AN.drew.grown cm (by simp [blk])
      try have y0:w1.cell? ⟨Y.heap.size,0,U⟩=Z (D J 0):=(vG.cell 0).trans rfl
      try have y1:w1.cell? ⟨Y.heap.size,1,U⟩=Z (H U 0 0):=(vG.cell 1).trans rfl
      try have iU:=vG.frozen 0
      try have iT:=vG.frozen 1
      try have hfar:=zUY AN.lt mf))
  all_goals
   rw [List.nil_append] at el;clear u0 u1 u2 u3 KP f0 f1 Ef Ee;go_wp2_with fail
   go_meet
   case rel =>
    rw [zQm]
    first
     | exact ⟨_,w1.heap.size,A1,c1,rfl,rfl,sC.size,el.alloc _,Blk.new _ _ _,fun q hq=>Nat.ne_of_lt (el.row.lt q hq).2,sC.alloc sC.size _⟩
     | exact zSv el vG sC hfar
 case rest =>
  obtain ⟨ZU,oB,A1,c1,hZ,rfl,hoY,bF⟩:=hcut;subst hZ;clear AN Ef Ee ju KP f0 f1;have g1:ZU.cell? ⟨oB,1,U⟩=Z (H A1 n c1):=(bF.bk.cell 1).trans rfl;go_wp2_with fail
  clear g1;go_loopw [19] (fun v19 wv=>∃(i:Nat) (X:World),X=wv∧i≤n∧v19=D J i∧SgW Y X oB K A1 n c1 (zId cr nu L i)) (fun v19 _=>n-(intOf v19).toNat)
  case atStart=>exact ⟨0,_,rfl,by omega,rfl,bF⟩
  case round =>
   obtain ⟨i,X,hX,hi,rfl,hW⟩:=hrel;subst hX;clear bF;by_cases hlt:i < n
   ·have j0:(0:Int)≤(i:Int):=by omega
    have j1:(i:Int) < (n:Int):=by omega
    have hil:i < L.length:=by rw [bj.out];exact hlt
    have hgi:=zQn (cr:=cr) (nu:=nu) hil;have hll:la (zId cr nu L i) i=la L i:=zRy hgi;obtain ⟨g,o,rfl,hgl,hat,hok⟩:=hW.own.lets.at_ hlt;rw [hll] at hat hok;obtain ⟨l,hle⟩:∃l,la L i=l:=⟨_,rfl⟩
    rw [hle] at hat hok hgi;obtain ⟨x0,x1,x2,x3,x4,x5⟩:=hat;have hbl:=(Below.refl X.heap.size X).alloc (Nat.le_refl _) (.cells #[D J l.kind,D J l.gate,D J l.rank,D J l.id,D J l.sign,G l.over] 76);have aL:Blk (X.alloc (.cells #[D J l.kind,D J l.gate,D J l.rank,D J l.id,D J l.sign,G l.over] 76)) X.heap.size 76 #[D J l.kind,D J l.gate,D J l.rank,D J l.id,D J l.sign,G l.over]:=Blk.new _ _ _;have db:=hW.next hbl;have ew:g < X.heap.size:=hgl;have DA:=qH (DB.out i hlt);clear hW hbl hll;by_cases hk2:l.kind=2
    ·have q2:(l.kind != 2)=E:=by simpa using hk2
     have tl:isC (la L i)=Q:=by rw [hle];exact zLm hk2
     have hid:=DA.out tl;rw [hle] at hid;obtain ⟨k,hk⟩:∃k:Nat,(cr:Int)-l.id=(k:Int):=⟨((cr:Int)-l.id).toNat,by omega⟩
     have hk12:k≤12:=by omega
     have hkk:cr-l.id.toNat=k:=by omega
     obtain ⟨q,hq⟩:∃q,nu >>> k=q:=⟨_,rfl⟩
     have hq4:q < 4096:=by rw [←hq];exact Nat.lt_of_le_of_lt (Nat.shiftRight_le _ _) hnu
     have hdiv:(nu:Int) / 2 ^ k=(q:Int):=by rw [←hq,Nat.shiftRight_eq_div_pow];simp
     have hand:=zQp q hq4;have hwr:wrap64 ((cr:Int)-l.id)=(k:Int):=by rw [hk];unfold wrap64;omega
     have hokm:∀s,s=1∨s = -1→LtOk { l with sign:=s }:=fun s hs=>⟨hok.kind,hok.gate,hok.rank,hok.id,⟨by simp only;omega,by simp only;omega⟩⟩
     have mN:=qH (show sgL cr nu (la L i)={ l with sign:=if q % 2=1 then 1 else -1 } by
      unfold sgL sgI
      rw [tl,if_pos rfl,hle,hkk,hq])
     have xY:=qH (zMU (cr:=cr) (nu:=nu) hil);have hi1:i+1≤n:=hlt;have yx:=qH hgi;have dP:=qH hokm;clear hk2 tl hid hle hk hkk hq hokm hgi hok;go_upto_region 6 with fail
     clear x0 x1 x2 x3 x5;generalize X.alloc (.cells #[D J l.kind,D J l.gate,D J l.rank,D J l.id,D J l.sign,G l.over] 76)=X1 at aL db ⊢;generalize X.heap.size=a9 at aL ew ⊢;have tF:=(db.own.lets.also (k:=i) hlt).1;have wn:la (zId cr nu L i) i=l:=zRy yx.out;rw [wn] at tF;have c1:X1.cell? ⟨oB,1,U⟩=Z (H (Z ⟨g,o,U⟩) n c1):=(db.bk.cell 1).trans rfl;have s4:X1.cell? ⟨g,o+i*6+4,U⟩=Z (D J l.sign):=tF.sign;have z4:=db.free hlt;have bp:=db.put (x':={ l with sign:=-1 }) (u:=D J (-1)) yx.out rfl (dP.out _ (.inr rfl));have bn:=aL.far (p:=⟨g,o+(i*6+4),U⟩) (by simp only;omega) (D J (-1));clear tF wn db aL;go_upto_region 7 with fail
     clear c1 s4 z4 x4;generalize X1.setCell ⟨g,o+i*6+4,U⟩ (D J (-1))=X2 at *
     change SgW Y X2 oB K (Z ⟨g,o,U⟩) n c1 _ at bp
     change Blk X2 a9 _ _ at bn
     have e3:X2.cell? ⟨a9,3,U⟩=Z (D J l.id):=(bn.cell 3).trans rfl;have bG:((zId cr nu L i).set i { l with sign:=-1 })[i]? = Z { l with sign:=-1 }:=by rw [List.getElem?_set_self (by rw [zJL _ _ _ (Nat.le_of_lt hil)];exact hil)]
     by_cases hb:q % 2=1
     ·have r1:(((q % 2:Nat):Int)==1)=Q:=by rw [hb];rfl
      have c1:X2.cell? ⟨oB,1,U⟩=Z (H (Z ⟨g,o,U⟩) n c1):=(bp.bk.cell 1).trans rfl;have ml:=(bp.own.lets.also (k:=i) hlt).1;rw [show la ((zId cr nu L i).set i { l with sign:=-1 }) i={ l with sign:=-1 } from zRy bG] at ml;have s4:X2.cell? ⟨g,o+i*6+4,U⟩=Z (D J (-1)):=ml.sign;have z4:=bp.free hlt;have bq:=bp.put (x':={ l with sign:=1 }) (u:=D J 1) bG rfl (dP.out _ (.inl rfl));rw [List.set_set,show ({ l with sign:=1 }:Lt)=sgL cr nu (la L i) by rw [mN.out,if_pos hb],xY.out] at bq;have sf:=qH bq;clear ml bp bq bn bG hb;go_wp2_with fail
      go_roundw
      case rel=>exact ⟨i+1,_,rfl,hi1,by go_num,sf.out⟩
      case measure=>simp [intOf];omega
     ·have aa:q % 2=0:=by omega
      have r1:(((q % 2:Nat):Int)==1)=E:=by rw [aa];rfl
      rw [show ({ l with sign:=-1 }:Lt)=sgL cr nu (la L i) by rw [mN.out,if_neg hb],xY.out] at bp;clear bn bG hb aa;go_wp2_with fail
      go_roundw
      case rel=>exact ⟨i+1,_,rfl,hi1,by go_num,bp⟩
      case measure=>simp [intOf];omega
    ·have q2:(l.kind != 2)=Q:=by simpa using hk2
     have hs:zId cr nu L (i+1)=zId cr nu L i:=zQo hil (by unfold sgL;rw [hle,zLn hk2];rfl);rw [←hs] at db;clear hk2 hle hs aL hgi hok;go_wp2_with fail
     go_roundw
     case rel=>exact ⟨i+1,_,rfl,by omega,by go_num,db⟩
     case measure=>simp [intOf];omega
   ·have j1:¬(i:Int) < (n:Int):=by omega
    have hin:i=L.length:=by rw [bj.out];omega
    rw [hin,zSu] at hW;have pg:w.heap.size+1 < Y.heap.size:=ag.lt;have dh:=ag.below hW.old pg;have e0:X.cell? ⟨oB,0,U⟩=Z (D J K):=(hW.bk.cell 0).trans rfl;have e1:X.cell? ⟨oB,1,U⟩=Z (H A1 n c1):=(hW.bk.cell 1).trans rfl;obtain ⟨r0,r1⟩:=cQ2 dh;have z0:=dh.frozen 0;have z1:=dh.frozen 1;have pD:=qH dh;have HW:=qH hW;have jq:=aa.size;clear hin hlt hW dh;go_wp2_with fail
    have hS:Blk ((X.setCell ⟨w.heap.size+1,0,U⟩ (D J K)).setCell ⟨w.heap.size+1,1,U⟩ (H A1 n c1)) (w.heap.size+1) 55 #[D J K,H A1 n c1]:=(pD.out.set_ 0 _).set_ 1 _;have gS:=zAg (zAg (World.grownBy.refl X (Z (w.heap.size+1))) (p:=⟨w.heap.size+1,0,U⟩) (.inl rfl) (D J K)) (p:=⟨w.heap.size+1,1,U⟩) (.inl rfl) (H A1 n c1);have dT:=((zAa aa HW.out.old jq).setCell (p:=⟨w.heap.size+1,0,U⟩) (by simp) (D J K)).setCell (p:=⟨w.heap.size+1,1,U⟩) (by simp) (H A1 n c1);have pk:OwnL ((X.setCell ⟨w.heap.size+1,0,U⟩ (D J K)).setCell ⟨w.heap.size+1,1,U⟩ (H A1 n c1)) w.heap.size A1 n c1 (zBB cr nu L):=by
     refine ⟨(HW.out.own.row.kept gS ?_).mono jq,HW.out.own.fits,HW.out.own.le⟩
     cases hb:blk A1 with
     | none=>exact .inl rfl
     | some q=>exact .inr (by have:=(HW.out.own.row.lt q hb).1;simp;omega)
    (try simp only [Exit.inBlock,Exit.then])
    refine zAn rfl rfl hS Tryz.underlying55 rfl (by kernel_rfl) rfl ?_;exact ⟨A1,n,c1,rfl,pk,dT⟩
structure It where
 fg:Option Fg
 n:Int
 b:Bool
def okI (t:It):Prop:=(∀f,t.fg=Z f→zAo f=Q)∧1≤t.n∧t.n≤999999999
def itW (t:It):List UInt8:=match t.fg with
 | some f=>zAl f++46 :: Lib.itoa t.n++[if t.b then 62 else 60]
 | none=>Lib.itoa t.n++[if t.b then 111 else 117]
def btI (L:List Fg) (t:It):Bi:=match t.fg with
 | some f=>⟨if zAM L f=0 then -1 else (zAM L f:Int),t.n,t.b⟩
 | none=>⟨0,t.n,t.b⟩
def zOd (L:List Fg) (t:It):Bool:=match t.fg with
 | some f=>zBE L f
 | none=>E
theorem zKQ (f:Fg):(46:UInt8) ∉ zAl f:=fun hb=>by
 unfold zAl at hb;have h1:∀x:Int,(46:UInt8) ∉ Lib.itoa x:=fun x=>zIY (by decide)
 rcases List.mem_append.1 hb with h | h
 ·split at h
  ·simp at h
  ·exact h1 _ h
 ·rcases List.mem_cons.1 h with h | h
  ·split at h<;>cases h
  ·exact h1 _ h
theorem zKR (A:List UInt8) (c:UInt8):zGX (A++[c])=Lib.cut A [46]:=by unfold zGX;rw [List.dropLast_concat]
theorem zBw (A:List UInt8) (c d:UInt8):zAZ (A++[c]) d=decide (c=d):=by unfold zAZ;simp
theorem zHY (L:List Fg) {t:It} (h:okI t):zGY L (itW t)=btI L t∧zIJ (itW t)=E∧zPY (itW t)=t.fg.isNone∧zRs L (itW t)=zOd L t:=by
 obtain ⟨fg,n,b⟩:=t;obtain ⟨h1,h2,h3⟩:=h;have hc:=zEn h2 h3;simp only at hc h1
 cases fg with
 | none =>
  have hcut:zGX (Lib.itoa n++[if b then 111 else 117])=(Lib.itoa n,[],E):=by rw [zKR];exact zOT (zIY (by decide))
  simp only [itW,btI,zOd];unfold zGY zIJ zPY zRs;rw [hcut];simp only [List.dropLast_concat,hc,zBw]
  cases b<;>exact ⟨rfl,rfl,rfl,rfl⟩
 | some f =>
  have hf:=h1 f rfl;have hcut:zGX (zAl f++46 :: Lib.itoa n++[if b then 62 else 60])=(zAl f,Lib.itoa n,Q):=by rw [zKR];exact zOS (zKQ f)
  have hp:=zCD hf rfl;simp only [itW,btI,zOd];unfold zGY zIJ zPY zRs zDE zKz zEM;rw [hcut];simp only [hp,hc,zBw]
  cases b<;>exact ⟨rfl,rfl,rfl,rfl⟩
theorem zCp {x:List UInt8} {c:UInt8} (h:zAZ x c=Q):x=x.dropLast++[c]:=by
 unfold zAZ at h;rw [decide_eq_true_eq] at h;obtain ⟨C,rfl⟩:=List.getLast?_eq_some_iff.1 h;rw [List.dropLast_concat]
theorem zUZ {S:List UInt8} {c:UInt8} (h:(Lib.cut S [c]).2.2=Q):S=(Lib.cut S [c]).1++c :: (Lib.cut S [c]).2.1∧c ∉ (Lib.cut S [c]).1:=by
 by_cases hc:c∈S
 ·obtain ⟨a,r,rfl,ha⟩:=zJD hc;rw [zOS ha];exact ⟨rfl,ha⟩
 ·rw [zOT hc] at h;cases h
theorem zKS {x:List UInt8} (h:zIJ x=E):∃t,okI t∧x=itW t:=by
 unfold zIJ at h
 cases hc:(zGX x).2.2 with
 | true =>
  rw [hc,if_pos rfl] at h;simp only [Bool.or_eq_false_iff,Bool.not_eq_false',Bool.or_eq_true] at h;obtain ⟨⟨h1,h2⟩,h3⟩:=h;obtain ⟨v,hv⟩:∃v,zAr (zGX x).2.1=(v,Q):=⟨(zAr (zGX x).2.1).1,by rw [←h3]⟩
  obtain ⟨e1,e2,e3⟩:=zCF hv;obtain ⟨f,hf⟩:∃f,zGu (zGX x).1=Z f:=by
   unfold zKz at h1
   cases hp:zGu (zGX x).1 with
   | none=>rw [hp] at h1;cases h1
   | some f=>exact ⟨f,rfl⟩
  obtain ⟨k1,k2⟩:=zHq hf;have hx:=(zUZ hc).1;rw [show (Lib.cut x.dropLast [46]).1=(zGX x).1 from rfl,show (Lib.cut x.dropLast [46]).2.1=(zGX x).2.1 from rfl,←k2,e1] at hx;refine ⟨⟨Z f,v,zAZ x 62⟩,⟨fun g hg=>(by injection hg with hg;subst hg;exact k1),e2,e3⟩,?_⟩;simp only [itW];rcases h2 with h2 | h2
  ·rw [h2,if_pos rfl,←hx];exact zCp h2
  ·have hne:zAZ x 62=E:=by
    have:=zCp h2;rw [this,zBw];rfl
   rw [hne,←hx];exact zCp h2
 | false =>
  rw [hc,if_neg (by simp)] at h;simp only [Bool.or_eq_false_iff,Bool.not_eq_false',Bool.or_eq_true] at h;obtain ⟨h2,h3⟩:=h;obtain ⟨v,hv⟩:∃v,zAr x.dropLast=(v,Q):=⟨(zAr x.dropLast).1,by rw [←h3]⟩
  obtain ⟨e1,e2,e3⟩:=zCF hv;refine ⟨⟨U,v,zAZ x 111⟩,⟨fun g hg=>(by cases hg),e2,e3⟩,?_⟩;simp only [itW];rcases h2 with h2 | h2
  ·rw [h2,if_pos rfl,←e1];exact zCp h2
  ·have hne:zAZ x 111=E:=by
    have:=zCp h2;rw [this,zBw];rfl
   rw [hne,←e1];exact zCp h2
theorem zQr (L:List Fg) {T:List It} (h:∀t∈T,okI t):(T.map itW).map (zGY L)=T.map (btI L)∧zCQ L (T.map itW)=T.any (zOd L)∧zBY (T.map itW)=(match T.head? with | some t=>t.fg.isNone | none=>E):=by
 refine ⟨?_,?_,?_⟩
 ·rw [List.map_map];exact List.map_congr_left fun t ht=>(zHY L (h t ht)).1
 ·unfold zCQ;rw [List.any_map]
  induction T with
  | nil=>rfl
  | cons t T ih =>
   rw [List.any_cons,List.any_cons,ih fun t ht=>h t (List.mem_cons_of_mem _ ht)];simp only [Function.comp];rw [(zHY L (h t (List.mem_cons_self ..))).2.2.2]
 ·have h1:(T.map itW).any zIJ=E:=by
   rw [List.any_eq_false];intro x hx;obtain ⟨t,ht,rfl⟩:=List.mem_map.1 hx;rw [(zHY L (h t ht)).2.1];simp
  unfold zBY;rw [h1,Bool.false_or]
  cases T with
  | nil=>rfl
  | cons t T=>exact (zHY L (h t (List.mem_cons_self ..))).2.2.1
theorem zOe {ZR:List (List UInt8)} (h:zBY ZR=E):∃T:List It,(∀t∈T,okI t)∧ZR=T.map itW:=by
 unfold zBY at h;rw [Bool.or_eq_false_iff] at h;have h1:=h.1;clear h
 induction ZR with
 | nil=>exact ⟨[],by simp,rfl⟩
 | cons x ZR ih =>
  rw [List.any_cons,Bool.or_eq_false_iff] at h1;obtain ⟨t,ht,rfl⟩:=zKS h1.1;obtain ⟨T,hT,rfl⟩:=ih h1.2
  exact ⟨t :: T,fun s hs=>by
   rcases List.mem_cons.1 hs with rfl | hs
   ·exact ht
   ·exact hT s hs,rfl⟩
theorem zSw (t:It):(32:UInt8) ∉ itW t:=fun hb=>by
 obtain ⟨fg,n,b⟩:=t;have h1:=(zFn n).no32
 cases fg with
 | none =>
  simp only [itW] at hb;rcases List.mem_append.1 hb with h | h
  ·exact h1 h
  ·cases b<;>simp at h
 | some f =>
  simp only [itW] at hb;rcases List.mem_append.1 hb with h | h
  ·rcases List.mem_append.1 h with h | h
   ·exact (zDg f).no32 h
   ·rcases List.mem_cons.1 h with h | h
    ·cases h
    ·exact h1 h
  ·cases b<;>simp at h
theorem zOf {T:List It} (h:T≠[]):zAN 32 (Lib.join (T.map itW) [32])=T.map itW :=
 zHs (by simpa using h) fun p hp=>by
  obtain ⟨t,_,rfl⟩:=List.mem_map.1 hp;exact zSw t
end Go.Proofs.YtlmdfmnbcndhoaaGreatDoor
