/-
  Lemmas, part 33. Conditions: each theorem's own.
-/
import Derived.Test.YtlmdfmnbcndhoaaGreatDoorRc32
open Bool renaming false→E,true→Q
open Go.Value renaming bool→G,int→D,slice→H,string→W
open Option renaming none→U,some→Z
open Go.IntKind renaming i64→J
namespace Go.Proofs.YtlmdfmnbcndhoaaGreatDoor
open Go.RowKit
structure Lps (K:Nat) (L:List Lt):Prop where
 len:L.length≤400
 k40:K≤40
 gate:∀i,i < L.length→isP (la L i)=Q→0≤(la L i).gate∧(la L i).gate≤K
 arcs:Arcs L
def zIN (w:World) (K:Nat) (L:List Lt) (e:Ending) (w':World):Prop :=
 ∃g,e=.returned (H (Z ⟨g,0,U⟩) (K+2) (K+2))∧OwnI w' w.heap.size g (K+2) (zBZ K L L.length)∧Below w.heap.size w w'
theorem zMb {v:Nat} (h:v≤100000):IntKind.i64.wrap ((v:Int)+1)=(v:Int)+1:=IntWalk.i64_in _ (by omega)
set_option maxHeartbeats 6400000 in
set_option maxRecDepth 100000 in
theorem zMc (K:Nat) (A:Option Addr) (n c:Nat) (L:List Lt) (w:World) (hA:Lets w A n L) (hL:Lps K L) :
  Calls Tryz.prog 123 #[.agg #[D J (K:Int),H A n c]] w (zIN w K L):=by
 have aA:L.length=n:=hA.len;have hn:n≤400:=by have:=hL.len;omega
 have hK4:=hL.k40;have aa:=(Below.refl w.heap.size w).alloc (Nat.le_refl _) (.cells #[D J (K:Int),H A n c] 55);have hk0:Blk (w.alloc (.cells #[D J (K:Int),H A n c] 55)) w.heap.size 55 #[D J (K:Int),H A n c]:=Blk.new _ _ _;have c0:(w.alloc (.cells #[D J (K:Int),H A n c] 55)).cell? ⟨w.heap.size,0,U⟩=Z (D J (K:Int)):=(hk0.cell 0).trans rfl;have HN:=qH aA;have HL:=qH hL;have HA:=qH hA;have hlw:w.heap.size < (w.alloc (.cells #[D J (K:Int),H A n c] 55)).heap.size:=hk0.lt;have w1:wrap64 ((K:Int)+2)=((K+2:Nat):Int):=by unfold wrap64;omega
 clear aA hL hA;go_enter Tryz.func123,Tryz.ntmps123;go_upto_region 1 with fail
 generalize w.alloc (.cells #[D J (K:Int),H A n c] 55)=Y at aa hk0 c0 hlw ⊢;go_upto_region 2 with (refine zGq rfl _ _ rfl (K+2) _ rfl rfl (by first | rfl | exact w1 | (simp;done) | omega) (by omega) (base:=Y.heap.size) (Nat.le_refl _) ?_;intro Y2 fP ab fZ)
 have mp:OwnI Y2 Y.heap.size Y.heap.size (K+2) (zBZ K L 0):=by rw [zOb];exact fP
 have hk2:=hk0.below ab hlw;have hby:=zAa aa ab aa.size;have c1:Y2.cell? ⟨w.heap.size,1,U⟩=Z (H A n c):=(hk2.cell 1).trans rfl;have hwy:w.heap.size < Y.heap.size:=hlw;clear fP fZ c0 hk0 hlw ab;generalize Y.heap.size=g at mp hwy ⊢;have hgl:g < Y2.heap.size:=mp.lt;have ab:Below g Y2 Y2:=Below.refl _ _;go_wp2_with fail
 clear c1;go_loopw [4,14] (fun v4 v14 wv=>∃(i:Nat) (X:World),X=wv∧i≤n∧v14=D J i∧v4=G (!dwn L i)∧OwnI X g g (K+2) (zBZ K L i)∧Below g Y2 X) (fun _ v14 _=>n-(intOf v14).toNat)
 case atStart=>exact ⟨0,_,rfl,by omega,rfl,rfl,mp,ab⟩
 case round =>
  obtain ⟨i,X,hX,hi,rfl,rfl,hO,hb⟩:=hrel;subst hX;clear mp;have hkx:=hk2.below hb hwy;have eq:Lets X A n L:=HA.out.below ((hby.trans (hb.mono (by omega))));have EN:g < X.heap.size:=hO.lt;by_cases hlt:i < n
  ·have j0:(0:Int)≤(i:Int):=by omega
   have j1:(i:Int) < (n:Int):=by omega
   obtain ⟨ga,o,rfl,hgl,hat,hok⟩:=eq.at_ hlt;obtain ⟨x0,x1,x2,x3,x4,x5⟩:=hat;have hbl:=(Below.refl X.heap.size X).alloc (Nat.le_refl _) (.cells #[D J (la L i).kind,D J (la L i).gate,D J (la L i).rank,D J (la L i).id,D J (la L i).sign,G (la L i).over] 76);have oA:Blk (X.alloc (.cells #[D J (la L i).kind,D J (la L i).gate,D J (la L i).rank,D J (la L i).id,D J (la L i).sign,G (la L i).over] 76)) X.heap.size 76 #[D J (la L i).kind,D J (la L i).gate,D J (la L i).rank,D J (la L i).id,D J (la L i).sign,G (la L i).over]:=Blk.new _ _ _;have iG:=hO.below hbl EN;have ag:=hkx.below hbl hkx.lt;have fE:=eq.below hbl;have ah:=hb.trans (hbl.mono (Nat.le_of_lt EN));obtain ⟨d,hd⟩:∃d,dwn L i=d:=⟨_,rfl⟩
   rw [hd];by_cases hk:(la L i).kind=1
   ·have q1:((la L i).kind != 1)=E:=by simpa using hk
    have hp:=zFP hk;have hdn:dwn L (i+1) = !d:=by rw [zXl hp,hd]
    have mQ:=qH hdn
    cases d with
    | false =>
     have HS:=qH (show zBZ K L (i+1)=zBZ K L i from zIM K L (by rw [hd,Bool.and_false]));clear hO hkx eq ag fE oA hbl hk hp hd hdn;go_wp2_with fail
     go_roundw
     case rel=>exact ⟨i+1,_,rfl,by omega,by go_num,by rw [mQ.out];rfl,by rw [HS.out];exact iG,ah⟩
     case measure=>simp [intOf];omega
    | true =>
     have hil:i < L.length:=by rw [HN.out];exact hlt
     obtain ⟨cd,ft⟩:=HL.out.arcs i hil hp hd;have hi1:i+1 < n:=by rw [←HN.out];exact cd
     have rG:=HL.out.gate i hil hp;have cm:=HL.out.gate (i+1) cd ft;obtain ⟨gx,hgx⟩:∃m:Nat,(la L i).gate=(m:Int):=⟨(la L i).gate.toNat,by omega⟩
     obtain ⟨gy,hgy⟩:∃m:Nat,(la L (i+1)).gate=(m:Int):=⟨(la L (i+1)).gate.toNat,by omega⟩
     obtain ⟨m,hm,da,oW⟩:∃m:Nat,max (gx:Int) (gy:Int)=(m:Int)∧m < K+2∧zWA L i=(m:Int):=by
      by_cases h:gx≤gy
      ·exact ⟨gy,by omega,by omega,by unfold zWA;rw [hgx,hgy,if_pos (by omega)]⟩
      ·exact ⟨gx,by omega,by omega,by unfold zWA;rw [hgx,hgy,if_neg (by omega)]⟩
     have EZ:(isP (la L i)&&dwn L i)=Q:=by rw [hp,hd];rfl
     have c6:(X.alloc (.cells #[D J (la L i).kind,D J (la L i).gate,D J (la L i).rank,D J (la L i).id,D J (la L i).sign,G (la L i).over] 76)).cell? ⟨X.heap.size,1,U⟩=Z (D J (gx:Int)):=by rw [←hgx];exact (oA.cell 1).trans rfl
     have c1:(X.alloc (.cells #[D J (la L i).kind,D J (la L i).gate,D J (la L i).rank,D J (la L i).id,D J (la L i).sign,G (la L i).over] 76)).cell? ⟨w.heap.size,1,U⟩=Z (H (Z ⟨ga,o,U⟩) n c):=(ag.cell 1).trans rfl;have y1:(X.alloc (.cells #[D J (la L i).kind,D J (la L i).gate,D J (la L i).rank,D J (la L i).id,D J (la L i).sign,G (la L i).over] 76)).cell? ⟨ga,o+(i+1)*6+1,U⟩=Z (D J (gy:Int)):=by rw [←hgy];exact (fE.also hi1).1.gate
     have e1:=iG.cell (zFE K L i da);have z1:=iG.frozen m;have b1:=zQd L (m:Int) i;have r1:=iG.stored m ((lpC L (m:Int) i:Int)+1);rw [zQe K L EZ oW] at r1;obtain ⟨v1,lV⟩:∃v,lpC L (m:Int) i=v:=⟨_,rfl⟩
     rw [lV] at e1 b1 r1;have s1:=ah.setCell (p:=⟨g,m,U⟩) (Nat.le_refl _) (D J ((v1:Int)+1));have p1:(0:Int)≤(i:Int)+1:=by omega
     have p2:(i:Int)+1 < (n:Int):=by omega
     have p3:IntKind.i64.wrap ((i:Int)+1)=(i:Int)+1:=zMb (by omega);have p4:(0:Int)≤(m:Int):=by omega
     have p7:(m:Int) < (K:Int)+2:=by omega
     have w7:IntKind.i64.wrap ((v1:Int)+1)=(v1:Int)+1:=zMb (by omega);have R1:=qH r1.drew;have S1:=qH s1.drew;clear hO hkx eq ag fE hk hp hd hdn hgx hgy lV r1 s1 rG cm oA hbl iG ah ft EZ oW;go_upto_region 9 with fail
     clear x0 x1 x2 x3 x4 x5;generalize X.alloc (.cells #[D J (la L i).kind,D J (la L i).gate,D J (la L i).rank,D J (la L i).id,D J (la L i).sign,G (la L i).over] 76)=X6 at c6 c1 y1 e1 z1 R1 S1 ⊢;generalize X.heap.size=b6 at c6 ⊢;go_region
     go_wp2_with fail
     go_roundw
     case rel=>exact ⟨i+1,_,rfl,by omega,by go_num,by rw [mQ.out];rfl,R1.out,S1.out⟩
     case measure=>simp [intOf];omega
   ·have q1:((la L i).kind != 1)=Q:=by simpa using hk
    have hp:=zGB hk;have HS:=qH (show zBZ K L (i+1)=zBZ K L i from zIM K L (by rw [hp,Bool.false_and]));have mQ:=qH (show dwn L (i+1)=d by rw [zXI hp,hd]);clear hO hkx eq ag fE oA hbl hk hp hd;go_wp2_with fail
    go_roundw
    case rel=>exact ⟨i+1,_,rfl,by omega,by go_num,by rw [mQ.out],by rw [HS.out];exact iG,ah⟩
    case measure=>simp [intOf];omega
  ·have j1:¬(i:Int) < (n:Int):=by omega
   have hin:i=n:=by omega
   have hOe:OwnI X w.heap.size g (K+2) (zBZ K L L.length):=by rw [HN.out,←hin];exact ⟨hO.blk,by omega,hO.len⟩
   have hbw:=hby.trans (hb.mono (by omega));clear hin hlt hO hkx eq hb;go_wp2_with fail
   go_ret;exact ⟨g,rfl,hOe,hbw⟩
theorem zXK (S:ByteArray) (w:World):(Instr.buildSlice 112 1 #[(0,W S)]).run Tryz.prog w=.ok (H (Z ⟨w.heap.size,0,U⟩) 1 1) (w.alloc (.cells #[W S] 9)):=by
 obtain ⟨i0,hi,aT,az,bt⟩:=info_parts zJf;refine run_buildSlice w _ _ 1 _ _ i0 _ Tryz.underlying112 hi aT (by rw [az];omega) (by rw [az];omega) ?_;rw [az]
 kernel_rfl
theorem zWB {w:World} {ops:Array Oper} {o:Oper} {a:Act} {K:Act→World→Prop} {Q':Exit→Act→World→Prop} {ZT:Prop} (hgd:o.guard=U) (s x:Operand)
  (ho:o.op=.call { callee:=.builtin .append,args:=#[s,x],argTypes:=#[112,112] })
  {base:Nat} {A:Option Addr} {n c:Nat} {Ss:List (List UInt8)} (S:List UInt8) (hs:a.eval s=H A n c) (hx:a.eval x=H (Z ⟨w.heap.size,0,U⟩) 1 1)
  (hst:Row w base 1 A n c (Ss.map zLi)) (N:Nat) (hN:n+1=N) (hn:N≤1000000) (hbase:base≤w.heap.size)
  (h:∀A' c' w',Row w' base 1 A' N c' ((Ss++[S]).map zLi)→Below base w w'→w.grownBy w' (blk A)→K (a.put o.dst (H A' N c')) w') :
  if Region.wanted o (yielded ops a.tmps)=Q then Oper.wp Tryz.prog o a (w.alloc (.cells #[W (bA S)] 9)) K Q' else ZT:=by
 obtain ⟨i0,hi,aT,az,bt⟩:=info_parts zJf;have hbl:=(Below.refl w.heap.size w).alloc (Nat.le_refl _) (.cells #[W (bA S)] 9);have bO:=hst.below hbl
 refine zVP hgd s x 112 ho 9 i0 _ 1 16 Tryz.underlying112 hi aT az bt rfl (by decide) bO (Src.new (m:=1) (cs:=[W (bA S)]) rfl)
  (by intro u hu;simp at hu;subst hu;rfl) hs hx N hN (by unfold maxLen;omega) (by omega) (by simp;omega) ?_
 intro A' c' w' h1 h2 _ _;refine h A' c' w' (by rw [List.map_append];exact h1) ?_ (zAb (zDK hbl _) h2);exact ((Below.refl _ _).alloc hbase _).trans (bO.belowOf h2 (by simp;omega))
theorem zQf {w:World} {g:Nat} {t:TypeId} {v0 v1 v2 v3 v4 v5:Value} (h:Blk w g t #[v0,v1,v2,v3,v4,v5]) (u0 u1 u2 u3 u4 u5:Value) :
  Blk ((((((w.setCell ⟨g,0,U⟩ u0).setCell ⟨g,1,U⟩ u1).setCell ⟨g,2,U⟩ u2).setCell ⟨g,3,U⟩ u3).setCell ⟨g,4,U⟩ u4).setCell ⟨g,5,U⟩ u5) g t #[u0,u1,u2,u3,u4,u5]:=by
 have h1:=(((((h.set_ 0 u0).set_ 1 u1).set_ 2 u2).set_ 3 u3).set_ 4 u4).set_ 5 u5;simpa using h1
theorem zQg {a w:World} {g B:Nat} (h:Below B a w) (hB:B≤g) (u0 u1 u2 u3 u4 u5:Value) :
  Below B a ((((((w.setCell ⟨g,0,U⟩ u0).setCell ⟨g,1,U⟩ u1).setCell ⟨g,2,U⟩ u2).setCell ⟨g,3,U⟩ u3).setCell ⟨g,4,U⟩ u4).setCell ⟨g,5,U⟩ u5) :=
 (((((h.setCell (p:=⟨g,0,U⟩) hB u0).setCell (p:=⟨g,1,U⟩) hB u1).setCell (p:=⟨g,2,U⟩) hB u2).setCell (p:=⟨g,3,U⟩) hB u3).setCell (p:=⟨g,4,U⟩) hB u4).setCell (p:=⟨g,5,U⟩) hB u5
structure Pos (F:List Fg) (re lo:Int) (L:List Lt):Prop where
 lps:Lps F.length L
 fr:frOk F re lo
 kinds:∀i,i < L.length→isP (la L i)=Q∨isC (la L i)=Q
 left:∀i,i < L.length→isP (la L i)=Q→dwn L i=Q→0≤(zCa L i).gate∧(zCa L i).gate < F.length
 rank:∀i,i < L.length→isP (la L i)=Q→1≤(la L i).rank∧(la L i).rank≤400
 id:∀i,i < L.length→isC (la L i)=Q→1≤(la L i).id∧(la L i).id≤400
theorem zGx {F:List Fg} {re lo K:Int} {L:List Lt} (h:zCc F re lo K L=Q):Pos F re lo L∧K=(F.length:Int):=by
 unfold zCc at h;simp only [Bool.and_eq_true,beq_iff_eq] at h;obtain ⟨⟨⟨h1,h2⟩,h3⟩,h4⟩:=h;have ht:=zDA h2;obtain ⟨c1,c2,c3,c4⟩:=zHU h2;subst h3;rcases Nat.eq_zero_or_pos L.length with h0 | h0
 ·exact ⟨⟨⟨ht.len,by omega,fun i hi=>by omega,fun i hi=>by omega⟩,zCT.1 h1,fun i hi=>by omega,fun i hi=>by omega,fun i hi=>by omega,fun i hi=>by omega⟩,rfl⟩
 have hv:zBd (F.length:Int) L=Q:=by rcases c4 with h | h;· omega
                                    ·exact h
 have g:=zFk h0 hv;have hpo:∀i,i < L.length→poB L i=Q:=zAF.1 h4
 have key:∀i,i < L.length→isP (la L i)=Q→dwn L i=Q→i+1 < L.length∧isP (la L (i+1))=Q∧((la L (i+1)).gate-(la L i).gate=1∨(la L i).gate-(la L (i+1)).gate=1):=by
  intro i hi hp hd;have hlt:i+1 < L.length:=by
   rcases Nat.lt_or_ge (i+1) L.length with h | h
   ·exact h
   ·have e:i+1=L.length:=by omega
    have rI:dwn L (i+1)=E:=by rw [zXl hp,hd];rfl
    rw [e] at rI;unfold dwn at rI;have:=g.even;simp [this] at rI
  have:=hpo i hi;unfold poB neB nxL at this;rw [hp,hd,Nat.mod_eq_of_lt hlt] at this;simp only [Bool.and_self,Bool.not_true,Bool.false_or,Bool.and_eq_true,Bool.or_eq_true,beq_iff_eq] at this;exact ⟨hlt,this.1,this.2⟩
 refine ⟨⟨⟨ht.len,by omega,fun i hi hp=>⟨(ht.pass i hi hp).1,(ht.pass i hi hp).2.1⟩,fun i hi hp hd=>⟨(key i hi hp hd).1,(key i hi hp hd).2.1⟩⟩,zCT.1 h1,g.kinds,fun i hi hp hd=>?_,fun i hi hp=>⟨(ht.pass i hi hp).2.2.1,(ht.pass i hi hp).2.2.2⟩,fun i hi hc=>?_⟩,rfl⟩
 ·obtain ⟨k1,k2,k3⟩:=key i hi hp hd;have g1:=ht.pass i hi hp;have g2:=ht.pass (i+1) k1 k2;unfold zCa;split<;>omega
 ·have h5:=g.cross i hi;have:=(zBA.1 h5 hc).1;have:=zKg L L.length;have:=ht.len;omega
theorem zQh {F:List Fg} {re lo:Int} {L:List Lt} (h:Pos F re lo L) {i:Nat} (hi:i < L.length):∀x∈zIm F L i,x.length≤100:=by
 intro x hx;unfold zIm at hx;by_cases hc:isC (la L i)=Q
 ·rw [if_pos hc] at hx;rw [List.mem_singleton.1 hx];have hid:=h.id i hi hc;have:=zBm (x:=(la L i).id) ⟨by omega,by omega⟩;unfold zXJ;simp only [List.length_append,List.length_singleton];omega
 ·rw [if_neg hc] at hx;by_cases hd:dwn L i=Q
  ·rw [if_pos hd] at hx;rw [List.mem_singleton.1 hx];have hp:=(h.kinds i hi).resolve_right hc;have hg:=h.left i hi hp hd;have hn:=zBH h.fr (f:=(zCa L i).gate+1) (by omega) (by omega);have hr:1≤(zCa L i).rank∧(zCa L i).rank≤400:=by
    obtain ⟨k1,k2⟩:=h.lps.arcs i hi hp hd;unfold zCa;split
    ·exact h.rank (i+1) k1 k2
    ·exact h.rank i hi hp
   have hl:=zQd L (zCa L i).gate L.length;have hlen:=h.lps.len;have:=zBm (x:=(zCa L i).rank-(lpC L (zCa L i).gate L.length:Int)) ⟨by omega,by omega⟩;unfold zMT;simp only [List.length_append,List.length_singleton];omega
  ·rw [if_neg hd] at hx;simp at hx
theorem zQi (F:List Fg) (L:List Lt) (i:Nat):(zIm F L i).length≤1:=by
 unfold zIm;split
 ·simp
 ·split<;>simp
theorem zQj (F:List Fg) (L:List Lt) (m:Nat):(zGm F L m).length≤m:=by
 induction m with
 | zero=>simp [zGm]
 | succ m ih=>rw [zEt,List.length_append];have:=zQi F L m;omega
theorem zMd {F:List Fg} {re lo:Int} {L:List Lt} (h:Pos F re lo L) {m:Nat} (hm:m≤L.length):∀x∈zGm F L m,x.length≤100:=by
 intro x hx;unfold zGm at hx;obtain ⟨i,hi,hx⟩:=List.mem_flatMap.1 hx;exact zQh h (by have:=List.mem_range.1 hi;omega) x hx
theorem zSt {K:Nat} {A:Option Addr} {n c:Nat} {L:List Lt} (w:World) (hA:Lets w A n L) (hL:Lps K L):Calls Tryz.prog 123 #[.agg #[D J (K:Int),H A n c]] w (zIN w K L):=zMc K A n c L w hA hL
theorem zQk {x:Int} {S:List UInt8} (h:Lib.itoa x=S) (hx:I64 x) (w:World) (ht:Tabs w):Calls Tryz.prog 124 #[D J x] w fun e w'=>e=.returned (W (bA S))∧Below w.heap.size w w':=by
 subst h;exact zIZ x hx w ht
set_option maxHeartbeats 12800000 in
set_option maxRecDepth 100000 in
theorem zIn (A:Option Addr) (n c:Nat) (F:List Fg) (re lo:Int) (B:Option Addr) (m d:Nat) (L:List Lt) (w:World) (hA:Fgs w A n F) (hB:Lets w B m L) (hP:Pos F re lo L) (ht:Tabs w) :
  Calls Tryz.prog 75 #[frV A n c re lo,.agg #[D J (F.length:Int),H B m d]] w fun e w'=>e=.returned (W (bA (zTB F L)))∧Below w.heap.size w w':=by
 have aa:Below w.heap.size w ((w.alloc (.cells #[H A n c,D J re,D J lo] 24)).alloc (.cells #[D J (F.length:Int),H B m d] 55)):=((Below.refl _ _).alloc (Nat.le_refl _) _).alloc (by simp) _;have hk0:Blk ((w.alloc (.cells #[H A n c,D J re,D J lo] 24)).alloc (.cells #[D J (F.length:Int),H B m d] 55)) w.heap.size 24 #[H A n c,D J re,D J lo]:=(Blk.new w _ _).alloc _;have ag:Blk ((w.alloc (.cells #[H A n c,D J re,D J lo] 24)).alloc (.cells #[D J (F.length:Int),H B m d] 55)) (w.heap.size+1) 55 #[D J (F.length:Int),H B m d]:=heap_alloc2_new w _ _;have aA:L.length=m:=hB.len;have Fi:F.length=n:=hA.len;have hm4:m≤400:=by have:=hP.lps.len;omega
 have bj:=qH aA;have Ad:=qH Fi;have HP:=qH hP;have HB:=qH hB;have HA:=qH hA;have HT:=qH ht;have n9:=qH (fun wx (hx:Lets wx B m L)=>zSt (c:=d) wx hx hP.lps);have d1:((w.alloc (.cells #[H A n c,D J re,D J lo] 24)).alloc (.cells #[D J (F.length:Int),H B m d] 55)).cell? ⟨w.heap.size+1,1,U⟩=Z (H B m d):=(ag.cell 1).trans rfl;have d0:((w.alloc (.cells #[H A n c,D J re,D J lo] 24)).alloc (.cells #[D J (F.length:Int),H B m d] 55)).cell? ⟨w.heap.size+1,0,U⟩=Z (D J (F.length:Int)):=(ag.cell 0).trans rfl;obtain ⟨K,hK⟩:∃K,F.length=K:=⟨_,rfl⟩
 rw [hK] at aa hk0 ag d0 d1 n9 ⊢;have HK:=qH hK;clear aA Fi hP hB hA ht hK;by_cases hm0:m=0
 ·subst hm0;have HR:=qH (show zTB F L=zDm by unfold zTB;rw [if_pos bj.out]);go_enter Tryz.func75,Tryz.ntmps75;go_wp2_with fail
  go_ret;exact ⟨by rw [HR.out];rfl,aa⟩
 ·have i0:((m:Int)==0)=E:=by simp;omega
  go_enter Tryz.func75,Tryz.ntmps75;go_upto_region 3 with fail
  generalize ((w.alloc (.cells #[H A n c,D J re,D J lo] 24)).alloc (.cells #[D J (K:Int),H B m d] 55))=Y at aa hk0 ag d0 d1 ⊢;go_wp2_with fail
  refine (n9.out Y (HB.out.below aa)).mono ?_;rintro e Y2 ⟨g,rfl,hO,ab⟩;have aP:=hk0.below ab hk0.lt;have wL:=ag.below ab ag.lt;have hby:=zAa aa ab aa.size;have hgl:g < Y2.heap.size:=hO.lt;have d2:Y2.cell? ⟨w.heap.size+1,1,U⟩=Z (H B m d):=(wL.cell 1).trans rfl;rw [bj.out] at hO;have HMN:=qH hm0;clear hk0 ag aa ab d0 d1 n9 hm0;go_wp2_with fail
  clear d2;go_loopw [6,7,22] (fun v6 v7 v22 wv=>∃(i:Nat) (X:World) (A':Option Addr) (k c':Nat) (Ss:List (List UInt8)),X=wv∧i≤m∧v22=D J i∧v7=G (!dwn L i)∧v6=H A' k c'∧Row X Y2.heap.size 1 A' k c' (Ss.map zLi)∧Below Y2.heap.size Y2 X∧k≤i∧Hid (Ss=zGm F L i)) (fun _ _ v22 _=>m-(intOf v22).toNat)
  case atStart=>exact ⟨0,_,U,0,0,[],rfl,by omega,rfl,rfl,rfl,Row.none_ _ _ _,Below.refl _ _,Nat.le_refl _,qH rfl⟩
  case round =>
   obtain ⟨i,X,A',k,c',Ss,hX,hi,rfl,rfl,rfl,hR,hb,hki,HS⟩:=hrel;subst hX;by_cases hlt:i < m
   ·have j0:(0:Int)≤(i:Int):=by omega
    have j1:(i:Int) < (m:Int):=by omega
    have hil:i < L.length:=by rw [bj.out];exact hlt
    have jD:Lets X B m L:=HB.out.below (zAa hby hb hby.size);have hcx:=wL.below hb wL.lt;have hfx:=aP.below hb aP.lt;have hOx:=hO.below hb hgl;obtain ⟨ga,o,rfl,hga,hat,hok⟩:=jD.at_ hlt;obtain ⟨l,hle⟩:∃l,la L i=l:=⟨_,rfl⟩
    rw [hle] at hat;have yq:=qH hle;obtain ⟨x0,x1,x2,x3,x4,x5⟩:=hat;have hbl:=(Below.refl X.heap.size X).alloc (Nat.le_refl _) (.cells #[D J l.kind,D J l.gate,D J l.rank,D J l.id,D J l.sign,G l.over] 76);have aL:Blk (X.alloc (.cells #[D J l.kind,D J l.gate,D J l.rank,D J l.id,D J l.sign,G l.over] 76)) X.heap.size 76 #[D J l.kind,D J l.gate,D J l.rank,D J l.id,D J l.sign,G l.over]:=Blk.new _ _ _;have lw:=hcx.below hbl hcx.lt;have eX:=hfx.below hbl hfx.lt;have iG:=hOx.below hbl hOx.lt;have jE:=jD.below hbl;have e9:=hR.below hbl;have ah:=zAa hb hbl hb.size;have az:Y2.heap.size≤(X.alloc (.cells #[D J l.kind,D J l.gate,D J l.rank,D J l.id,D J l.sign,G l.over] 76)).heap.size:=ah.size;obtain ⟨dw,hd⟩:∃d,dwn L i=d:=⟨_,rfl⟩
    rw [hd];clear hbl hcx hfx hOx jD hR hok hb;go_upto_if 29 with fail
    clear x0 x1 x2 x3 x4 x5;generalize X.alloc (.cells #[D J l.kind,D J l.gate,D J l.rank,D J l.id,D J l.sign,G l.over] 76)=X1 at aL lw eX iG jE e9 ah az ⊢;generalize X.heap.size=a9 at aL ⊢;by_cases hk2:l.kind=2
    ·have q2:(l.kind==2)=Q:=by simpa using hk2
     have hcr:isC (la L i)=Q:=by rw [hle];exact zLm hk2
     have hid:=HP.out.id i hil hcr;rw [hle] at hid;have mq:I64 l.id:=⟨by omega,by omega⟩;have mQ:=qH (show dwn L (i+1)=dw by rw [zXI (zUX hcr),hd]);obtain ⟨-,-,-,u0,-,u1⟩:=cQ6 aL;obtain ⟨ID,pm⟩:∃S,Lib.itoa l.id=S:=⟨_,rfl⟩
     obtain ⟨LE,zj⟩:∃S,zAX l.over=S:=⟨_,rfl⟩
     obtain ⟨IT,mL⟩:∃S,ID++LE=S:=⟨_,rfl⟩
     have mf:=zBm mq;have iB:=zCB l.over;rw [pm] at mf;rw [zj] at iB;have hcat:=zAS mL _ _ rfl rfl (by omega) (by omega)
     have um:=qH (show Ss++[IT]=zGm F L (i+1) by
      rw [zEt,HS.out]
      unfold zIm zXJ
      rw [if_pos hcr,hle,←mL,←pm,←zj,show zAX l.over=[if l.over then 111 else 117] by cases l.over<;>rfl])
     have fo:=qH (fun wx (hx:Below X1.heap.size X1 wx)=>zQk pm mq wx (HT.out.below (zAa hby (zAa ah hx ah.size) hby.size)));have fJ:=qH (fun wx=>zDa zj wx)
     have KP:=qH (show ∀wx,Below X1.heap.size X1 wx→(wx.cell? ⟨a9,3,U⟩=Z (D J l.id)∧wx.cell? ⟨a9,5,U⟩=Z (G l.over)) from
      fun wx h=>⟨((aL.below h aL.lt).cell 3).trans rfl,((aL.below h aL.lt).cell 5).trans rfl⟩)
     have gk:k≤400:=by omega
     clear hk2 hcr hid hle pm zj mL mf iB hd eX lw iG jE aL HS;go_upto_region 10 with fail
     go_region_law (first
      | ((go_simp;go_at_call 124;refine (fo.out _ (by first | exact hbz | exact (Below.refl _ _).drew)).mono ?_;rintro e' wy ⟨rfl,io⟩)
         have hbz:Below X1.heap.size X1 wy:=(by first | exact zAa hbz io hbz.size | exact zAa (Below.refl X1.heap.size X1).drew io (Nat.le_refl _))
         obtain ⟨u2,u3⟩:=KP.out _ hbz)
      | ((go_simp;go_at_call 115;refine (fJ.out _).mono ?_;rintro e' wv ⟨rfl,rfl⟩))
      | ((refine zWB (base:=Y2.heap.size) (A:=A') (n:=k) (c:=c') (Ss:=Ss) rfl (.tmp 30) (.tmp 38) (by rfl) IT (by rfl) (by rfl) (e9.below hbz) (k+1) rfl (by omega) (Nat.le_trans az hbz.size) ?_)
         intro A2 c2 w9 hR9 aJ aQ))
     all_goals
      have bH:=(zAa ah hbz ah.size).trans aJ;clear e9 ah hbz aJ fo fJ KP hcat;go_wp2_with fail
      go_roundw
      case rel=>exact ⟨i+1,_,A2,k+1,c2,Ss++[IT],rfl,by omega,by go_num,by rw [mQ.out],rfl,hR9,bH,by omega,um⟩
      case measure=>simp [intOf];omega
    ·have q2:(l.kind==2)=E:=by simpa using hk2
     have hncr:isC (la L i)=E:=by rw [hle];exact zLn hk2
     have hp:=(HP.out.kinds i hil).resolve_right (by rw [hncr];simp);have mQ:=qH (show dwn L (i+1) = !dw by rw [zXl hp,hd])
     cases dw with
     | false =>
      have um:=qH (show Ss=zGm F L (i+1) by
       rw [zEt,HS.out]
       unfold zIm
       rw [hncr,hd];simp)
      clear hk2 hncr hp hd hle eX lw iG jE aL HS;go_wp2_with fail
      go_roundw
      case rel=>exact ⟨i+1,_,A',k,c',Ss,rfl,by omega,by go_num,by rw [mQ.out];rfl,rfl,e9,ah,by omega,um⟩
      case measure=>simp [intOf];omega
     | true =>
      obtain ⟨k1,k2⟩:=HP.out.lps.arcs i hil hp hd;have Ey:i+1 < m:=by rw [←bj.out];exact k1
      have mP:=qH (HP.out.left i hil hp hd)
      have HRK:=qH (show 1≤(zCa L i).rank∧(zCa L i).rank≤400 by
       unfold zCa
       split
       ·exact HP.out.rank (i+1) k1 k2
       ·exact HP.out.rank i hil hp)
      obtain ⟨lu,hlu⟩:∃l,la L (i+1)=l:=⟨_,rfl⟩
      have Gt:=qH hlu;clear k2;have xZ:=qH (show zIm F L i=[zMT F L i] by unfold zIm;rw [hncr,hd];simp);have p1:(0:Int)≤(i:Int)+1:=by omega
      have p2:(i:Int)+1 < (m:Int):=by omega
      have p3:wrap64 ((i:Int)+1)=(i:Int)+1:=by unfold wrap64;omega
      obtain ⟨x0,x1,x2,x3,x4,x5⟩:=cQ6 aL;have c1:X1.cell? ⟨w.heap.size+1,1,U⟩=Z (H (Z ⟨ga,o,U⟩) m d):=(lw.cell 1).trans rfl;have hbl:=(Below.refl X1.heap.size X1).alloc (Nat.le_refl _) (.cells #[D J l.kind,D J l.gate,D J l.rank,D J l.id,D J l.sign,G l.over] 76);have me:Blk (X1.alloc (.cells #[D J l.kind,D J l.gate,D J l.rank,D J l.id,D J l.sign,G l.over] 76)) X1.heap.size 76 #[D J l.kind,D J l.gate,D J l.rank,D J l.id,D J l.sign,G l.over]:=Blk.new _ _ _;have bn:=aL.below hbl aL.lt;have tp:=lw.below hbl lw.lt;have tV:=jE.below hbl;have vL:X1.heap.size≤X1.heap.size:=Nat.le_refl _;clear hk2 hncr hp hd hle;go_upto_region 14 with fail
      clear x0 x1 x2 x3 x4 x5 c1;generalize hX2:X1.alloc (.cells #[D J l.kind,D J l.gate,D J l.rank,D J l.id,D J l.sign,G l.over] 76)=X2 at me bn tp tV hbl ⊢;clear hX2;obtain ⟨bP,jy⟩:∃a,X1.heap.size=a:=⟨_,rfl⟩
      rw [jy] at me hbl vL ⊢;have yF:=qH jy;clear jy;have c1:X2.cell? ⟨w.heap.size+1,1,U⟩=Z (H (Z ⟨ga,o,U⟩) m d):=(tp.cell 1).trans rfl;have hU:=(tV.also Ey).1;rw [hlu] at hU;obtain ⟨x0,x1,x2,x3,x4,x5⟩:=hU;clear hlu;have o3:=(Below.refl X2.heap.size X2).alloc (Nat.le_refl _) (.cells #[D J lu.kind,D J lu.gate,D J lu.rank,D J lu.id,D J lu.sign,G lu.over] 76);have dj:Blk (X2.alloc (.cells #[D J lu.kind,D J lu.gate,D J lu.rank,D J lu.id,D J lu.sign,G lu.over] 76)) X2.heap.size 76 #[D J lu.kind,D J lu.gate,D J lu.rank,D J lu.id,D J lu.sign,G lu.over]:=Blk.new _ _ _;have cg:=bn.below o3 bn.lt;have bc:=me.below o3 me.lt;have cn:Below bP X1 (X2.alloc (.cells #[D J lu.kind,D J lu.gate,D J lu.rank,D J lu.id,D J lu.sign,G lu.over] 76)):=zAa hbl o3 (Nat.le_of_lt me.lt);go_upto_region 15 with fail
      clear x0 x1 x2 x3 x4 x5 c1 o3 hbl me bn tp tV;generalize hX3:X2.alloc (.cells #[D J lu.kind,D J lu.gate,D J lu.rank,D J lu.id,D J lu.sign,G lu.over] 76)=X3 at dj cg bc cn ⊢;clear hX3;generalize X2.heap.size=a12 at dj ⊢;have g9:X3.cell? ⟨a9,1,U⟩=Z (D J l.gate):=(cg.cell 1).trans rfl;have y1:X3.cell? ⟨a12,1,U⟩=Z (D J lu.gate):=(dj.cell 1).trans rfl;go_upto_if 55 with fail
      go_cut [11] (fun pL wv=>pL=W (bA [zTA L i])∧∃V:World,V=wv∧Blk V bP 76 #[D J (zCa L i).kind,D J (zCa L i).gate,D J (zCa L i).rank,D J (zCa L i).id,D J (zCa L i).sign,G (zCa L i).over]∧Below bP X1 V)
      case first =>
       by_cases hlt2:lu.gate < l.gate
       ·have di:=qH (show zCa L i=lu∧zTA L i=60 by unfold zCa zTA;rw [Gt.out,yq.out,if_pos hlt2,if_pos hlt2];exact ⟨rfl,rfl⟩);clear y1 g9 p1 p2 p3 j0 j1 k1 Ey;go_upto_region 16 with fail
        have Dw:=qH bc;have gJ:=qH cn;obtain ⟨y0,y1,y2,y3,y4,y5⟩:=cQ6 dj;have v0:X3.cell? ⟨bP,0,U⟩=Z (D J (l).kind):=(bc.cell 0).trans rfl;have z0:=bc.frozen 0;have v1:X3.cell? ⟨bP,1,U⟩=Z (D J (l).gate):=(bc.cell 1).trans rfl;have z1:=bc.frozen 1;have v2:X3.cell? ⟨bP,2,U⟩=Z (D J (l).rank):=(bc.cell 2).trans rfl;have z2:=bc.frozen 2;have v3:X3.cell? ⟨bP,3,U⟩=Z (D J (l).id):=(bc.cell 3).trans rfl;have z3:=bc.frozen 3;have v4:X3.cell? ⟨bP,4,U⟩=Z (D J (l).sign):=(bc.cell 4).trans rfl;have z4:=bc.frozen 4;have v5:X3.cell? ⟨bP,5,U⟩=Z (G (l).over):=(bc.cell 5).trans rfl;have z5:=bc.frozen 5;clear dj cg bc cn hlt2;go_wp2_with fail
        have SV:=zQf Dw.out (D J (lu).kind) (D J (lu).gate) (D J (lu).rank) (D J (lu).id) (D J (lu).sign) (G (lu).over);have BV:=zQg gJ.out vL (D J (lu).kind) (D J (lu).gate) (D J (lu).rank) (D J (lu).id) (D J (lu).sign) (G (lu).over);go_meet
        case rel=>exact ⟨by rw [di.out.2];rfl,_,rfl,by rw [di.out.1];exact SV,BV⟩
       ·have di:=qH (show zCa L i=l∧zTA L i=62 by unfold zCa zTA;rw [Gt.out,yq.out,if_neg hlt2,if_neg hlt2];exact ⟨rfl,rfl⟩);have SV:=qH bc;have BV:=qH cn;clear dj cg bc cn y1 g9;go_wp2_with fail
        go_meet
        case rel=>exact ⟨by rw [di.out.2];rfl,_,rfl,by rw [di.out.1];exact SV.out,BV.out⟩
      case rest =>
       clear dj cg bc cn g9 y1 p3;obtain ⟨rfl,V,hV,hl,o4⟩:=hcut;have hlf:=mP.out;have hrk:=HRK.out;subst hV;rw [←yF.out] at o4;have wG:=eX.below o4 eX.lt;have nK:=iG.below o4 iG.lt;have ET:=e9.below o4;have ab:=zAa ah o4 ah.size;have hzV:Y2.heap.size≤V.heap.size:=ab.size;have xx:Fgs V A n F:=HA.out.below (zAa hby ab hby.size);obtain ⟨q,hq⟩:∃q:Nat,(zCa L i).gate=(q:Int):=⟨(zCa L i).gate.toNat,by omega⟩
       have hqK:q < K:=by have:=HK.out;omega
       have hK4:K≤40:=by have:=HP.out.lps.k40;have:=HK.out;omega
       obtain ⟨r,hr⟩:∃r,(zCa L i).rank=r:=⟨_,rfl⟩
       have hlp:=zFE K L m (g:=q) (by omega);have hll:=zQd L (q:Int) m;obtain ⟨v,hv⟩:∃v,lpC L (q:Int) m=v:=⟨_,rfl⟩
       rw [hv] at hlp hll;rw [hr] at hrk;obtain ⟨f0,f1,f2⟩:=cQ3 wG;have e1:V.cell? ⟨bP,1,U⟩=Z (D J (q:Int)):=by rw [←hq];exact (hl.cell 1).trans rfl
       have e2:V.cell? ⟨bP,2,U⟩=Z (D J r):=by rw [←hr];exact (hl.cell 2).trans rfl
       have e3:V.cell? ⟨g,q,U⟩=Z (D J (v:Int)):=nK.cell hlp;have sS:∀x,x < V.heap.size→(∀k',blk A'=Z k'→k'≠x)→∀wx,V.grownBy wx (blk A')→∀q',wx.cell? ⟨x,q',U⟩=V.cell? ⟨x,q',U⟩:=fun x hx hne wx h q'=>World.cell?_of_block (w:=V) (w':=wx) (a:=⟨x,q',U⟩) (h.block x hx (fun e=>hne x e.symm rfl))
       have fE:∀k',blk A'=Z k'→Y2.heap.size≤k'∧k' < bP:=fun k' fO=>⟨(e9.lt k' fO).1,by rw [←yF.out];exact (e9.lt k' fO).2⟩
       have jq:w.heap.size < Y2.heap.size:=aP.lt
       have KP:=qH (show ∀wx,V.grownBy wx (blk A')→(V.grownBy wx (blk A')∧wx.cell? ⟨w.heap.size,0,U⟩=Z (H A n c)∧wx.cell? ⟨w.heap.size,1,U⟩=Z (D J re)∧wx.cell? ⟨w.heap.size,2,U⟩=Z (D J lo)∧wx.cell? ⟨bP,1,U⟩=Z (D J (q:Int))∧wx.cell? ⟨bP,2,U⟩=Z (D J r)∧wx.cell? ⟨g,q,U⟩=Z (D J (v:Int))) from
        fun wx h=>⟨h,(sS _ wG.lt (fun k' fO=>by have:=fE k' fO;omega) wx h _).trans f0,(sS _ wG.lt (fun k' fO=>by have:=fE k' fO;omega) wx h _).trans f1,(sS _ wG.lt (fun k' fO=>by have:=fE k' fO;omega) wx h _).trans f2,(sS _ hl.lt (fun k' fO=>by have:=fE k' fO;omega) wx h _).trans e1,(sS _ hl.lt (fun k' fO=>by have:=fE k' fO;omega) wx h _).trans e2,(sS _ nK.lt (fun k' fO=>by have:=fE k' fO;omega) wx h _).trans e3⟩)
       clear sS fE;have mq:I64 (r-(v:Int)):=⟨by omega,by omega⟩;obtain ⟨NM,fc⟩:∃S,nmF F ((q:Int)+1)=S:=⟨_,rfl⟩
       obtain ⟨ID,pm⟩:∃S,Lib.itoa (r-(v:Int))=S:=⟨_,rfl⟩
       obtain ⟨T1,dm⟩:∃S,NM++[46]=S:=⟨_,rfl⟩
       obtain ⟨T2,gE⟩:∃S,T1++ID=S:=⟨_,rfl⟩
       obtain ⟨IT,mL⟩:∃S,T2++[zTA L i]=S:=⟨_,rfl⟩
       have mf:=zBm mq;rw [pm] at mf;have iB:=zBH HP.out.fr (f:=(q:Int)+1) (by omega) (by have:=HK.out;omega);rw [fc] at iB;have gD:T1.length≤50:=by rw [←dm];simp;omega
       have ta:T2.length≤100:=by rw [←gE];simp;omega
       have wJ:=zAS dm (bA NM) ⟨#[46]⟩ rfl rfl (by omega) (by simp);have wI:=zAS gE _ _ rfl rfl (by omega) (by omega);have rK:=zAS mL _ _ rfl rfl (by omega) (by simp)
       have um:=qH (show Ss++[IT]=zGm F L (i+1) by
        rw [zEt,HS.out,xZ.out]
        unfold zMT
        rw [hq,hr,fc,dm,bj.out,hv,pm,gE,mL])
       have mO:=qH (fun wx (hx:Below V.heap.size V wx)=>zDs (c:=c) fc wx (xx.below hx) HP.out.fr (by omega) (by have:=Ad.out;have:=HK.out;omega));have fo:=qH (fun wx (hx:Below V.heap.size V wx)=>zQk pm mq wx (HT.out.below (zAa hby (zAa ab hx ab.size) hby.size)));have gk:k≤400:=by omega
       have uJ:k+1≤1000000:=by omega
       have hk7:k+1≤i+1:=by omega
       have hi7:i+1≤m:=by omega
       have p4:(0:Int)≤(q:Int):=by omega
       have p7:(q:Int) < (K:Int)+2:=by omega
       have w1:IntKind.i64.wrap ((q:Int)+1)=(q:Int)+1:=zMb (by omega);have w2:IntKind.i64.wrap (r-(v:Int))=r-(v:Int):=IntWalk.i64_in _ mq;generalize zTA L i=ar at mL rK ⊢;clear hq hr hlp hv fc pm dm gE mL mf iB gD ta eX lw iG jE aL HS xZ e9 ah o4 wG nK hl xx hrk hlf;go_upto_region 17 with fail
       first
        | go_region_held3 (fun wx=>V.grownBy wx (blk A')∧wx.cell? ⟨w.heap.size,0,U⟩=Z (H A n c)∧wx.cell? ⟨w.heap.size,1,U⟩=Z (D J re)∧wx.cell? ⟨w.heap.size,2,U⟩=Z (D J lo)∧wx.cell? ⟨bP,1,U⟩=Z (D J (q:Int))∧wx.cell? ⟨bP,2,U⟩=Z (D J r)∧wx.cell? ⟨g,q,U⟩=Z (D J (v:Int))) (first | assumption | exact KP.out _ (zBT (zBu _ _)) | exact KP.out _ (by assumption) | exact KP.out _ (zBt (by assumption) _))
          (first
           | (go_at_call 107;refine (mO.out _ (by first | assumption | exact (Below.refl _ _).drew)).mono ?_;rintro e' wy ⟨rfl,io⟩
              have hbz:Below V.heap.size V wy:=(by first | exact zAa (show Below V.heap.size V _ by assumption) io (Below.size (show Below V.heap.size V _ by assumption)) | exact zAa (Below.refl V.heap.size V).drew io (Nat.le_refl _))
              have hgz:V.grownBy wy (blk A'):=zDK hbz _)
           | (go_at_call 124;refine (fo.out _ (by first | assumption | exact (Below.refl _ _).drew)).mono ?_;rintro e' wy ⟨rfl,io⟩
              have hbz:Below V.heap.size V wy:=(by first | exact zAa (show Below V.heap.size V _ by assumption) io (Below.size (show Below V.heap.size V _ by assumption)) | exact zAa (Below.refl V.heap.size V).drew io (Nat.le_refl _))
              have hgz:V.grownBy wy (blk A'):=zDK hbz _)
           | (refine zWB (base:=Y2.heap.size) (A:=A') (n:=k) (c:=c') (Ss:=Ss) rfl (.tmp 57) (.tmp 76) (by rfl) IT (by rfl) (by rfl) (ET.below hbz) (k+1) rfl uJ (Nat.le_trans hzV hbz.size) ?_
              intro A2 c2 w9 hR9 aJ aQ
              have Br:V.grownBy w9 (blk A'):=zAb (zDK hbz _) aQ))
        | fail
       all_goals
        have bH:=(zAa ab hbz ab.size).trans aJ;clear ET ab hbz aJ fo mO KP wJ wI rK f0 f1 f2 e1 e2 e3 w1 w2 Br;go_wp2_with fail
        go_roundw
        case rel=>exact ⟨i+1,_,A2,k+1,c2,Ss++[IT],rfl,hi7,by go_num,by rw [mQ.out];rfl,rfl,hR9,bH,hk7,um⟩
        case measure=>simp [intOf];omega
   ·have j1:¬(i:Int) < (m:Int):=by omega
    have hin:i=m:=by omega
    have pe:Ss=zGm F L L.length:=by rw [HS.out,hin,bj.out]
    have hjl:(Lib.join Ss [32]).length≤140737488355328:=by
     have:=zMy (b:=100) [32] (by simp) (xs:=Ss) (by rw [pe];exact zMd HP.out (Nat.le_refl _));have h2:=zQj F L L.length;rw [←pe,bj.out] at h2;have:Ss.length*(100+1)≤400*101:=Nat.mul_le_mul (by omega) (by omega);omega
    have HJ:=qH (zMz hR (by omega) hjl);have HR:=qH (show Lib.join Ss [32]=zTB F L by unfold zTB;rw [if_neg (by rw [bj.out];exact HMN.out),pe]);have hbw:=zAa hby hb hby.size;clear hin hlt HS pe hjl hR hb;go_wp2_with fail
    refine HJ.out.mono ?_;rintro e w8 ⟨rfl,bg⟩;have aJ:=zAa hbw bg hbw.size;go_wp2_with fail
    go_ret;exact ⟨by rw [HR.out];rfl,aJ⟩
end Go.Proofs.YtlmdfmnbcndhoaaGreatDoor
