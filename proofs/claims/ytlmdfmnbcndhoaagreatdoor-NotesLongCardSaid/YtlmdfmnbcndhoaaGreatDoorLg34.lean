/-
  Lemmas for NotesLong, part 34: contracts and plain facts. Conditions: those that each theorem names.
-/
import Derived.Test.YtlmdfmnbcndhoaaGreatDoorLg33
namespace Go.Proofs.YtlmdfmnbcndhoaaGreatDoor
open Go.RowKit
structure Lps (K:Nat) (L:List Lt):Prop where
 len:L.length≤400
 k40:K≤40
 gate:∀i,i < L.length→isP (la L i)=true→0≤(la L i).gate∧(la L i).gate≤K
 arcs:zVM L
def zIN (w:World) (K:Nat) (L:List Lt) (e:Ending) (w':World):Prop :=
 ∃g,e=.returned (.slice (some ⟨g,0,none⟩) (K+2) (K+2))∧OwnI w' w.heap.size g (K+2) (zCa K L L.length)∧Below w.heap.size w w'
theorem zLX {v:Nat} (h:v≤100000):IntKind.i64.wrap ((v:Int)+1)=(v:Int)+1:=IntWalk.i64_in _ (by omega)
set_option maxHeartbeats 6400000 in
set_option maxRecDepth 100000 in
theorem zLY (K:Nat) (A:Option Addr) (n c:Nat) (L:List Lt) (w:World) (hA:Lets w A n L) (hL:Lps K L) :
  Calls Tryz.prog 123 #[.agg #[.int .i64 (K:Int),.slice A n c]] w (zIN w K L):=by
 have hLn:L.length=n:=hA.len;have hn:n≤400:=by have:=hL.len;omega
 have hK4:=hL.k40;have hb0:=(Below.refl w.heap.size w).alloc (Nat.le_refl _) (.cells #[.int .i64 (K:Int),.slice A n c] 55);have hk0:Blk (w.alloc (.cells #[.int .i64 (K:Int),.slice A n c] 55)) w.heap.size 55 #[.int .i64 (K:Int),.slice A n c]:=Blk.new _ _ _;have c0:(w.alloc (.cells #[.int .i64 (K:Int),.slice A n c] 55)).cell? ⟨w.heap.size,0,none⟩=some (.int .i64 (K:Int)):=(hk0.cell 0).trans rfl;have HN:=Lib.hid hLn;have HL:=Lib.hid hL;have HA:=Lib.hid hA;have hlw:w.heap.size < (w.alloc (.cells #[.int .i64 (K:Int),.slice A n c] 55)).heap.size:=hk0.lt;have w1:wrap64 ((K:Int)+2)=((K+2:Nat):Int):=by unfold wrap64;omega
 clear hLn hL hA;go_enter Tryz.func123,Tryz.ntmps123;go_upto_region 1 with fail
 generalize w.alloc (.cells #[.int .i64 (K:Int),.slice A n c] 55)=Y at hb0 hk0 c0 hlw ⊢;go_upto_region 2 with (refine zIx rfl _ _ rfl (K+2) _ rfl rfl (by first | rfl | exact w1 | (simp;done) | omega) (by omega) (base:=Y.heap.size) (Nat.le_refl _) ?_;intro Y2 hO2 hb2 hs2)
 have hO0:OwnI Y2 Y.heap.size Y.heap.size (K+2) (zCa K L 0):=by rw [zOe];exact hO2
 have hk2:=hk0.below hb2 hlw;have hby:=zAa hb0 hb2 hb0.size;have c1:Y2.cell? ⟨w.heap.size,1,none⟩=some (.slice A n c):=(hk2.cell 1).trans rfl;have hwy:w.heap.size < Y.heap.size:=hlw;clear hO2 hs2 c0 hk0 hlw hb2;generalize Y.heap.size=g at hO0 hwy ⊢;have hgl:g < Y2.heap.size:=hO0.lt;have hb2:Below g Y2 Y2:=Below.refl _ _;go_wp2_with fail
 clear c1;go_loopw [4,14] (fun v4 v14 wv=>∃(i:Nat) (X:World),X=wv∧i≤n∧v14=.int .i64 i∧v4=.bool (!dwn L i)∧OwnI X g g (K+2) (zCa K L i)∧Below g Y2 X) (fun _ v14 _=>n-(intOf v14).toNat)
 case atStart=>exact ⟨0,_,rfl,by omega,rfl,rfl,hO0,hb2⟩
 case round =>
  obtain ⟨i,X,hX,hi,rfl,rfl,hO,hb⟩:=hrel;subst hX;clear hO0;have hkx:=hk2.below hb hwy;have hAx:Lets X A n L:=HA.out.below ((hby.trans (hb.mono (by omega))));have hXg:g < X.heap.size:=hO.lt;by_cases hlt:i < n
  ·have j0:(0:Int)≤(i:Int):=by omega
   have j1:(i:Int) < (n:Int):=by omega
   obtain ⟨ga,o,rfl,hgl,hat,hok⟩:=hAx.at_ hlt;obtain ⟨x0,x1,x2,x3,x4,x5⟩:=hat;have hbl:=(Below.refl X.heap.size X).alloc (Nat.le_refl _) (.cells #[.int .i64 (la L i).kind,.int .i64 (la L i).gate,.int .i64 (la L i).rank,.int .i64 (la L i).id,.int .i64 (la L i).sign,.bool (la L i).over] 76);have hl6:Blk (X.alloc (.cells #[.int .i64 (la L i).kind,.int .i64 (la L i).gate,.int .i64 (la L i).rank,.int .i64 (la L i).id,.int .i64 (la L i).sign,.bool (la L i).over] 76)) X.heap.size 76 #[.int .i64 (la L i).kind,.int .i64 (la L i).gate,.int .i64 (la L i).rank,.int .i64 (la L i).id,.int .i64 (la L i).sign,.bool (la L i).over]:=Blk.new _ _ _;have hO1:=hO.below hbl hXg;have hk1:=hkx.below hbl hkx.lt;have hA1:=hAx.below hbl;have hb1:=hb.trans (hbl.mono (Nat.le_of_lt hXg));obtain ⟨d,hd⟩:∃d,dwn L i=d:=⟨_,rfl⟩
   rw [hd];by_cases hk:(la L i).kind=1
   ·have q1:((la L i).kind != 1)=false:=by simpa using hk
    have hp:=zFY hk;have hdn:dwn L (i+1) = !d:=by rw [zOt hp,hd]
    have HDN:=Lib.hid hdn
    cases d with
    | false =>
     have HS:=Lib.hid (show zCa K L (i+1)=zCa K L i from zIM K L (by rw [hd,Bool.and_false]));clear hO hkx hAx hk1 hA1 hl6 hbl hk hp hd hdn;go_wp2_with fail
     go_roundw
     case rel=>exact ⟨i+1,_,rfl,by omega,by go_num,by rw [HDN.out];rfl,by rw [HS.out];exact hO1,hb1⟩
     case measure=>simp [intOf];omega
    | true =>
     have hil:i < L.length:=by rw [HN.out];exact hlt
     obtain ⟨ha1,ha2⟩:=HL.out.arcs i hil hp hd;have hi1:i+1 < n:=by rw [←HN.out];exact ha1
     have hg0:=HL.out.gate i hil hp;have hg1:=HL.out.gate (i+1) ha1 ha2;obtain ⟨gx,hgx⟩:∃m:Nat,(la L i).gate=(m:Int):=⟨(la L i).gate.toNat,by omega⟩
     obtain ⟨gy,hgy⟩:∃m:Nat,(la L (i+1)).gate=(m:Int):=⟨(la L (i+1)).gate.toNat,by omega⟩
     obtain ⟨m,hm,hm2,hm3⟩:∃m:Nat,max (gx:Int) (gy:Int)=(m:Int)∧m < K+2∧zUh L i=(m:Int):=by
      by_cases h:gx≤gy
      ·exact ⟨gy,by omega,by omega,by unfold zUh;rw [hgx,hgy,if_pos (by omega)]⟩
      ·exact ⟨gx,by omega,by omega,by unfold zUh;rw [hgx,hgy,if_neg (by omega)]⟩
     have hPD:(isP (la L i)&&dwn L i)=true:=by rw [hp,hd];rfl
     have c6:(X.alloc (.cells #[.int .i64 (la L i).kind,.int .i64 (la L i).gate,.int .i64 (la L i).rank,.int .i64 (la L i).id,.int .i64 (la L i).sign,.bool (la L i).over] 76)).cell? ⟨X.heap.size,1,none⟩=some (.int .i64 (gx:Int)):=by rw [←hgx];exact (hl6.cell 1).trans rfl
     have c1:(X.alloc (.cells #[.int .i64 (la L i).kind,.int .i64 (la L i).gate,.int .i64 (la L i).rank,.int .i64 (la L i).id,.int .i64 (la L i).sign,.bool (la L i).over] 76)).cell? ⟨w.heap.size,1,none⟩=some (.slice (some ⟨ga,o,none⟩) n c):=(hk1.cell 1).trans rfl;have y1:(X.alloc (.cells #[.int .i64 (la L i).kind,.int .i64 (la L i).gate,.int .i64 (la L i).rank,.int .i64 (la L i).id,.int .i64 (la L i).sign,.bool (la L i).over] 76)).cell? ⟨ga,o+(i+1)*6+1,none⟩=some (.int .i64 (gy:Int)):=by rw [←hgy];exact (hA1.also hi1).1.gate
     have e1:=hO1.cell (zFK K L i hm2);have z1:=hO1.frozen m;have b1:=zMU L (m:Int) i;have r1:=hO1.stored m ((lpC L (m:Int) i:Int)+1);rw [zPR K L hPD hm3] at r1;obtain ⟨v1,hv1⟩:∃v,lpC L (m:Int) i=v:=⟨_,rfl⟩
     rw [hv1] at e1 b1 r1;have s1:=hb1.setCell (p:=⟨g,m,none⟩) (Nat.le_refl _) (.int .i64 ((v1:Int)+1));have p1:(0:Int)≤(i:Int)+1:=by omega
     have p2:(i:Int)+1 < (n:Int):=by omega
     have p3:IntKind.i64.wrap ((i:Int)+1)=(i:Int)+1:=zLX (by omega);have p4:(0:Int)≤(m:Int):=by omega
     have p7:(m:Int) < (K:Int)+2:=by omega
     have w7:IntKind.i64.wrap ((v1:Int)+1)=(v1:Int)+1:=zLX (by omega);have R1:=Lib.hid r1.drew;have S1:=Lib.hid s1.drew;clear hO hkx hAx hk1 hA1 hk hp hd hdn hgx hgy hv1 r1 s1 hg0 hg1 hl6 hbl hO1 hb1 ha2 hPD hm3;go_upto_region 9 with fail
     clear x0 x1 x2 x3 x4 x5;generalize X.alloc (.cells #[.int .i64 (la L i).kind,.int .i64 (la L i).gate,.int .i64 (la L i).rank,.int .i64 (la L i).id,.int .i64 (la L i).sign,.bool (la L i).over] 76)=X6 at c6 c1 y1 e1 z1 R1 S1 ⊢;generalize X.heap.size=b6 at c6 ⊢;go_region
     go_wp2_with fail
     go_roundw
     case rel=>exact ⟨i+1,_,rfl,by omega,by go_num,by rw [HDN.out];rfl,R1.out,S1.out⟩
     case measure=>simp [intOf];omega
   ·have q1:((la L i).kind != 1)=true:=by simpa using hk
    have hp:=zGH hk;have HS:=Lib.hid (show zCa K L (i+1)=zCa K L i from zIM K L (by rw [hp,Bool.false_and]));have HDN:=Lib.hid (show dwn L (i+1)=d by rw [zUK hp,hd]);clear hO hkx hAx hk1 hA1 hl6 hbl hk hp hd;go_wp2_with fail
    go_roundw
    case rel=>exact ⟨i+1,_,rfl,by omega,by go_num,by rw [HDN.out],by rw [HS.out];exact hO1,hb1⟩
    case measure=>simp [intOf];omega
  ·have j1:¬(i:Int) < (n:Int):=by omega
   have hin:i=n:=by omega
   have hOe:OwnI X w.heap.size g (K+2) (zCa K L L.length):=by rw [HN.out,←hin];exact ⟨hO.blk,by omega,hO.len⟩
   have hbw:=hby.trans (hb.mono (by omega));clear hin hlt hO hkx hAx hb;go_wp2_with fail
   go_ret;exact ⟨g,rfl,hOe,hbw⟩
theorem zVs {w:World} {ops:Array Oper} {o:Oper} {a:Act} {K:Act→World→Prop} {Q':Exit→Act→World→Prop} {E:Prop} (hgd:o.guard=none) (s x:Operand)
  (ho:o.op=.call { callee:=.builtin .append,args:=#[s,x],argTypes:=#[112,112] })
  {base:Nat} {A:Option Addr} {n c:Nat} {Ss:List (List UInt8)} (S:List UInt8) (hs:a.eval s=.slice A n c) (hx:a.eval x=.slice (some ⟨w.heap.size,0,none⟩) 1 1)
  (hst:Row w base 1 A n c (Ss.map zLv)) (N:Nat) (hN:n+1=N) (hn:N≤1000000) (hbase:base≤w.heap.size)
  (h:∀A' c' w',Row w' base 1 A' N c' ((Ss++[S]).map zLv)→Below base w w'→w.grownBy w' (blk A)→K (a.put o.dst (.slice A' N c')) w') :
  if Region.wanted o (yielded ops a.tmps)=true then Oper.wp Tryz.prog o a (w.alloc (.cells #[.string (bA S)] 9)) K Q' else E:=by
 obtain ⟨i0,hi,hz0,hz1,hz2⟩:=info_parts zLw;have hbl:=(Below.refl w.heap.size w).alloc (Nat.le_refl _) (.cells #[.string (bA S)] 9);have hst1:=hst.below hbl
 refine zUP hgd s x 112 ho 9 i0 _ 1 16 Tryz.underlying112 hi hz0 hz1 hz2 rfl (by decide) hst1 (Src.new (m:=1) (cs:=[.string (bA S)]) rfl)
  (by intro u hu;simp at hu;subst hu;rfl) hs hx N hN (by unfold maxLen;omega) (by omega) (by simp;omega) ?_
 intro A' c' w' h1 h2 _ _;refine h A' c' w' (by rw [List.map_append];exact h1) ?_ (zAb (zDH hbl _) h2);exact ((Below.refl _ _).alloc hbase _).trans (hst1.belowOf h2 (by simp;omega))
theorem zPT {w:World} {g:Nat} {t:TypeId} {v0 v1 v2 v3 v4 v5:Value} (h:Blk w g t #[v0,v1,v2,v3,v4,v5]) (u0 u1 u2 u3 u4 u5:Value) :
  Blk ((((((w.setCell ⟨g,0,none⟩ u0).setCell ⟨g,1,none⟩ u1).setCell ⟨g,2,none⟩ u2).setCell ⟨g,3,none⟩ u3).setCell ⟨g,4,none⟩ u4).setCell ⟨g,5,none⟩ u5) g t #[u0,u1,u2,u3,u4,u5]:=by
 have h1:=(((((h.set_ 0 u0).set_ 1 u1).set_ 2 u2).set_ 3 u3).set_ 4 u4).set_ 5 u5;simpa using h1
theorem zPU {a w:World} {g B:Nat} (h:Below B a w) (hB:B≤g) (u0 u1 u2 u3 u4 u5:Value) :
  Below B a ((((((w.setCell ⟨g,0,none⟩ u0).setCell ⟨g,1,none⟩ u1).setCell ⟨g,2,none⟩ u2).setCell ⟨g,3,none⟩ u3).setCell ⟨g,4,none⟩ u4).setCell ⟨g,5,none⟩ u5) :=
 (((((h.setCell (p:=⟨g,0,none⟩) hB u0).setCell (p:=⟨g,1,none⟩) hB u1).setCell (p:=⟨g,2,none⟩) hB u2).setCell (p:=⟨g,3,none⟩) hB u3).setCell (p:=⟨g,4,none⟩) hB u4).setCell (p:=⟨g,5,none⟩) hB u5
structure Pos (F:List Fg) (re lo:Int) (L:List Lt):Prop where
 lps:Lps F.length L
 fr:frOk F re lo
 kinds:∀i,i < L.length→isP (la L i)=true∨isC (la L i)=true
 left:∀i,i < L.length→isP (la L i)=true→dwn L i=true→0≤(zBL L i).gate∧(zBL L i).gate < F.length
 rank:∀i,i < L.length→isP (la L i)=true→1≤(la L i).rank∧(la L i).rank≤400
 id:∀i,i < L.length→isC (la L i)=true→1≤(la L i).id∧(la L i).id≤400
theorem zGD {F:List Fg} {re lo K:Int} {L:List Lt} (h:zBs F re lo K L=true):Pos F re lo L∧K=(F.length:Int):=by
 unfold zBs at h;simp only [Bool.and_eq_true,beq_iff_eq] at h;obtain ⟨⟨⟨h1,h2⟩,h3⟩,h4⟩:=h;have ht:=zCu h2;obtain ⟨c1,c2,c3,c4⟩:=zEW h2;subst h3;rcases Nat.eq_zero_or_pos L.length with h0 | h0
 ·exact ⟨⟨⟨ht.len,by omega,fun i hi=>by omega,fun i hi=>by omega⟩,zCA.1 h1,fun i hi=>by omega,fun i hi=>by omega,fun i hi=>by omega,fun i hi=>by omega⟩,rfl⟩
 have hv:zAQ (F.length:Int) L=true:=by rcases c4 with h | h;· omega
                                       ·exact h
 have g:=zDr h0 hv;have hpo:∀i,i < L.length→poB L i=true:=zAt.1 h4
 have key:∀i,i < L.length→isP (la L i)=true→dwn L i=true→i+1 < L.length∧isP (la L (i+1))=true∧((la L (i+1)).gate-(la L i).gate=1∨(la L i).gate-(la L (i+1)).gate=1):=by
  intro i hi hp hd;have hlt:i+1 < L.length:=by
   rcases Nat.lt_or_ge (i+1) L.length with h | h
   ·exact h
   ·have e:i+1=L.length:=by omega
    have hd2:dwn L (i+1)=false:=by rw [zOt hp,hd];rfl
    rw [e] at hd2;unfold dwn at hd2;have:=g.even;simp [this] at hd2
  have:=hpo i hi;unfold poB neB nxL at this;rw [hp,hd,Nat.mod_eq_of_lt hlt] at this;simp only [Bool.and_self,Bool.not_true,Bool.false_or,Bool.and_eq_true,Bool.or_eq_true,beq_iff_eq] at this;exact ⟨hlt,this.1,this.2⟩
 refine ⟨⟨⟨ht.len,by omega,fun i hi hp=>⟨(ht.pass i hi hp).1,(ht.pass i hi hp).2.1⟩,fun i hi hp hd=>⟨(key i hi hp hd).1,(key i hi hp hd).2.1⟩⟩,zCA.1 h1,g.kinds,fun i hi hp hd=>?_,fun i hi hp=>⟨(ht.pass i hi hp).2.2.1,(ht.pass i hi hp).2.2.2⟩,fun i hi hc=>?_⟩,rfl⟩
 ·obtain ⟨k1,k2,k3⟩:=key i hi hp hd;have g1:=ht.pass i hi hp;have g2:=ht.pass (i+1) k1 k2;unfold zBL;split<;>omega
 ·have h5:=g.cross i hi;have:=(zBn.1 h5 hc).1;have:=zHi L L.length;have:=ht.len;omega
theorem zPV {F:List Fg} {re lo:Int} {L:List Lt} (h:Pos F re lo L) {i:Nat} (hi:i < L.length):∀x∈zGs F L i,x.length≤100:=by
 intro x hx;unfold zGs at hx;by_cases hc:isC (la L i)=true
 ·rw [if_pos hc] at hx;rw [List.mem_singleton.1 hx];have hid:=h.id i hi hc;have:=zBG (x:=(la L i).id) ⟨by omega,by omega⟩;unfold zWi;simp only [List.length_append,List.length_singleton];omega
 ·rw [if_neg hc] at hx;by_cases hd:dwn L i=true
  ·rw [if_pos hd] at hx;rw [List.mem_singleton.1 hx];have hp:=(h.kinds i hi).resolve_right hc;have hg:=h.left i hi hp hd;have hn:=zBJ h.fr (f:=(zBL L i).gate+1) (by omega) (by omega);have hr:1≤(zBL L i).rank∧(zBL L i).rank≤400:=by
    obtain ⟨k1,k2⟩:=h.lps.arcs i hi hp hd;unfold zBL;split
    ·exact h.rank (i+1) k1 k2
    ·exact h.rank i hi hp
   have hl:=zMU L (zBL L i).gate L.length;have hlen:=h.lps.len;have:=zBG (x:=(zBL L i).rank-(lpC L (zBL L i).gate L.length:Int)) ⟨by omega,by omega⟩;unfold zKK;simp only [List.length_append,List.length_singleton];omega
  ·rw [if_neg hd] at hx;simp at hx
theorem zPW (F:List Fg) (L:List Lt) (i:Nat):(zGs F L i).length≤1:=by
 unfold zGs;split
 ·simp
 ·split<;>simp
theorem zPX (F:List Fg) (L:List Lt) (m:Nat):(zFb F L m).length≤m:=by
 induction m with
 | zero=>simp [zFb]
 | succ m ih=>rw [zEt,List.length_append];have:=zPW F L m;omega
theorem zLZ {F:List Fg} {re lo:Int} {L:List Lt} (h:Pos F re lo L) {m:Nat} (hm:m≤L.length):∀x∈zFb F L m,x.length≤100:=by
 intro x hx;unfold zFb at hx;obtain ⟨i,hi,hx⟩:=List.mem_flatMap.1 hx;exact zPV h (by have:=List.mem_range.1 hi;omega) x hx
theorem zRO {K:Nat} {A:Option Addr} {n c:Nat} {L:List Lt} (w:World) (hA:Lets w A n L) (hL:Lps K L):Calls Tryz.prog 123 #[.agg #[.int .i64 (K:Int),.slice A n c]] w (zIN w K L):=zLY K A n c L w hA hL
theorem zPY {x:Int} {S:List UInt8} (h:Lib.itoa x=S) (hx:I64 x) (w:World) (ht:Tabs w):Calls Tryz.prog 124 #[.int .i64 x] w fun e w'=>e=.returned (.string (bA S))∧Below w.heap.size w w':=by
 subst h;exact zJb x hx w ht
set_option maxHeartbeats 12800000 in
set_option maxRecDepth 100000 in
theorem zIr (A:Option Addr) (n c:Nat) (F:List Fg) (re lo:Int) (B:Option Addr) (m d:Nat) (L:List Lt) (w:World) (hA:Fgs w A n F) (hB:Lets w B m L) (hP:Pos F re lo L) (ht:Tabs w) :
  Calls Tryz.prog 75 #[frV A n c re lo,.agg #[.int .i64 (F.length:Int),.slice B m d]] w fun e w'=>e=.returned (.string (bA (zGL F L)))∧Below w.heap.size w w':=by
 have hb0:Below w.heap.size w ((w.alloc (.cells #[.slice A n c,.int .i64 re,.int .i64 lo] 24)).alloc (.cells #[.int .i64 (F.length:Int),.slice B m d] 55)):=((Below.refl _ _).alloc (Nat.le_refl _) _).alloc (by simp) _;have hk0:Blk ((w.alloc (.cells #[.slice A n c,.int .i64 re,.int .i64 lo] 24)).alloc (.cells #[.int .i64 (F.length:Int),.slice B m d] 55)) w.heap.size 24 #[.slice A n c,.int .i64 re,.int .i64 lo]:=(Blk.new w _ _).alloc _;have hk1:Blk ((w.alloc (.cells #[.slice A n c,.int .i64 re,.int .i64 lo] 24)).alloc (.cells #[.int .i64 (F.length:Int),.slice B m d] 55)) (w.heap.size+1) 55 #[.int .i64 (F.length:Int),.slice B m d]:=heap_alloc2_new w _ _;have hLn:L.length=m:=hB.len;have hFn:F.length=n:=hA.len;have hm4:m≤400:=by have:=hP.lps.len;omega
 have HLN:=Lib.hid hLn;have HFN:=Lib.hid hFn;have HP:=Lib.hid hP;have HB:=Lib.hid hB;have HA:=Lib.hid hA;have HT:=Lib.hid ht;have HLP:=Lib.hid (fun wx (hx:Lets wx B m L)=>zRO (c:=d) wx hx hP.lps);have d1:((w.alloc (.cells #[.slice A n c,.int .i64 re,.int .i64 lo] 24)).alloc (.cells #[.int .i64 (F.length:Int),.slice B m d] 55)).cell? ⟨w.heap.size+1,1,none⟩=some (.slice B m d):=(hk1.cell 1).trans rfl;have d0:((w.alloc (.cells #[.slice A n c,.int .i64 re,.int .i64 lo] 24)).alloc (.cells #[.int .i64 (F.length:Int),.slice B m d] 55)).cell? ⟨w.heap.size+1,0,none⟩=some (.int .i64 (F.length:Int)):=(hk1.cell 0).trans rfl;obtain ⟨K,hK⟩:∃K,F.length=K:=⟨_,rfl⟩
 rw [hK] at hb0 hk0 hk1 d0 d1 HLP ⊢;have HK:=Lib.hid hK;clear hLn hFn hP hB hA ht hK;by_cases hm0:m=0
 ·subst hm0;have HR:=Lib.hid (show zGL F L=zGt by unfold zGL;rw [if_pos HLN.out]);go_enter Tryz.func75,Tryz.ntmps75;go_wp2_with fail
  go_ret;exact ⟨by rw [HR.out];rfl,hb0⟩
 ·have i0:((m:Int)==0)=false:=by simp;omega
  go_enter Tryz.func75,Tryz.ntmps75;go_upto_region 3 with fail
  generalize ((w.alloc (.cells #[.slice A n c,.int .i64 re,.int .i64 lo] 24)).alloc (.cells #[.int .i64 (K:Int),.slice B m d] 55))=Y at hb0 hk0 hk1 d0 d1 ⊢;go_wp2_with fail
  refine (HLP.out Y (HB.out.below hb0)).mono ?_;rintro e Y2 ⟨g,rfl,hO,hb2⟩;have hf2:=hk0.below hb2 hk0.lt;have hc2:=hk1.below hb2 hk1.lt;have hby:=zAa hb0 hb2 hb0.size;have hgl:g < Y2.heap.size:=hO.lt;have d2:Y2.cell? ⟨w.heap.size+1,1,none⟩=some (.slice B m d):=(hc2.cell 1).trans rfl;rw [HLN.out] at hO;have HMN:=Lib.hid hm0;clear hk0 hk1 hb0 hb2 d0 d1 HLP hm0;go_wp2_with fail
  clear d2;go_loopw [6,7,22] (fun v6 v7 v22 wv=>∃(i:Nat) (X:World) (A':Option Addr) (k c':Nat) (Ss:List (List UInt8)),X=wv∧i≤m∧v22=.int .i64 i∧v7=.bool (!dwn L i)∧v6=.slice A' k c'∧Row X Y2.heap.size 1 A' k c' (Ss.map zLv)∧Below Y2.heap.size Y2 X∧k≤i∧Hid (Ss=zFb F L i)) (fun _ _ v22 _=>m-(intOf v22).toNat)
  case atStart=>exact ⟨0,_,none,0,0,[],rfl,by omega,rfl,rfl,rfl,Row.none_ _ _ _,Below.refl _ _,Nat.le_refl _,Lib.hid rfl⟩
  case round =>
   obtain ⟨i,X,A',k,c',Ss,hX,hi,rfl,rfl,rfl,hR,hb,hki,HS⟩:=hrel;subst hX;by_cases hlt:i < m
   ·have j0:(0:Int)≤(i:Int):=by omega
    have j1:(i:Int) < (m:Int):=by omega
    have hil:i < L.length:=by rw [HLN.out];exact hlt
    have hBx:Lets X B m L:=HB.out.below (zAa hby hb hby.size);have hcx:=hc2.below hb hc2.lt;have hfx:=hf2.below hb hf2.lt;have hOx:=hO.below hb hgl;obtain ⟨ga,o,rfl,hga,hat,hok⟩:=hBx.at_ hlt;obtain ⟨l,hle⟩:∃l,la L i=l:=⟨_,rfl⟩
    rw [hle] at hat;have HLE0:=Lib.hid hle;obtain ⟨x0,x1,x2,x3,x4,x5⟩:=hat;have hbl:=(Below.refl X.heap.size X).alloc (Nat.le_refl _) (.cells #[.int .i64 l.kind,.int .i64 l.gate,.int .i64 l.rank,.int .i64 l.id,.int .i64 l.sign,.bool l.over] 76);have hl9:Blk (X.alloc (.cells #[.int .i64 l.kind,.int .i64 l.gate,.int .i64 l.rank,.int .i64 l.id,.int .i64 l.sign,.bool l.over] 76)) X.heap.size 76 #[.int .i64 l.kind,.int .i64 l.gate,.int .i64 l.rank,.int .i64 l.id,.int .i64 l.sign,.bool l.over]:=Blk.new _ _ _;have hc1:=hcx.below hbl hcx.lt;have hf1:=hfx.below hbl hfx.lt;have hO1:=hOx.below hbl hOx.lt;have hB1:=hBx.below hbl;have hR1:=hR.below hbl;have hb1:=zAa hb hbl hb.size;have hz1:Y2.heap.size≤(X.alloc (.cells #[.int .i64 l.kind,.int .i64 l.gate,.int .i64 l.rank,.int .i64 l.id,.int .i64 l.sign,.bool l.over] 76)).heap.size:=hb1.size;obtain ⟨dw,hd⟩:∃d,dwn L i=d:=⟨_,rfl⟩
    rw [hd];clear hbl hcx hfx hOx hBx hR hok hb;go_upto_if 29 with fail
    clear x0 x1 x2 x3 x4 x5;generalize X.alloc (.cells #[.int .i64 l.kind,.int .i64 l.gate,.int .i64 l.rank,.int .i64 l.id,.int .i64 l.sign,.bool l.over] 76)=X1 at hl9 hc1 hf1 hO1 hB1 hR1 hb1 hz1 ⊢;generalize X.heap.size=a9 at hl9 ⊢;by_cases hk2:l.kind=2
    ·have q2:(l.kind==2)=true:=by simpa using hk2
     have hcr:isC (la L i)=true:=by rw [hle];exact zLb hk2
     have hid:=HP.out.id i hil hcr;rw [hle] at hid;have hI64:I64 l.id:=⟨by omega,by omega⟩;have HDN:=Lib.hid (show dwn L (i+1)=dw by rw [zUK (zLW hcr),hd]);obtain ⟨-,-,-,u0,-,u1⟩:=cQ6 hl9;obtain ⟨ID,hID⟩:∃S,Lib.itoa l.id=S:=⟨_,rfl⟩
     obtain ⟨LE,hLE⟩:∃S,zAY l.over=S:=⟨_,rfl⟩
     obtain ⟨IT,hIT⟩:∃S,ID++LE=S:=⟨_,rfl⟩
     have hl1:=zBG hI64;have hl2:=zCE l.over;rw [hID] at hl1;rw [hLE] at hl2;have hcat:=zAT hIT _ _ rfl rfl (by omega) (by omega)
     have HST:=Lib.hid (show Ss++[IT]=zFb F L (i+1) by
      rw [zEt,HS.out]
      unfold zGs zWi
      rw [if_pos hcr,hle,←hIT,←hID,←hLE,show zAY l.over=[if l.over then 111 else 117] by cases l.over<;>rfl])
     have HIT:=Lib.hid (fun wx (hx:Below X1.heap.size X1 wx)=>zPY hID hI64 wx (HT.out.below (zAa hby (zAa hb1 hx hb1.size) hby.size)));have HLE:=Lib.hid (fun wx=>zCY hLE wx)
     have KP:=Lib.hid (show ∀wx,Below X1.heap.size X1 wx→(wx.cell? ⟨a9,3,none⟩=some (.int .i64 l.id)∧wx.cell? ⟨a9,5,none⟩=some (.bool l.over)) from
      fun wx h=>⟨((hl9.below h hl9.lt).cell 3).trans rfl,((hl9.below h hl9.lt).cell 5).trans rfl⟩)
     have hk5:k≤400:=by omega
     clear hk2 hcr hid hle hID hLE hIT hl1 hl2 hd hf1 hc1 hO1 hB1 hl9 HS;go_upto_region 10 with fail
     go_region_law (first
      | ((go_simp;go_at_call 124;refine (HIT.out _ (by first | exact hbz | exact (Below.refl _ _).drew)).mono ?_;rintro e' wy ⟨rfl,hby2⟩)
         have hbz:Below X1.heap.size X1 wy:=(by first | exact zAa hbz hby2 hbz.size | exact zAa (Below.refl X1.heap.size X1).drew hby2 (Nat.le_refl _))
         obtain ⟨u2,u3⟩:=KP.out _ hbz)
      | ((go_simp;go_at_call 115;refine (HLE.out _).mono ?_;rintro e' wv ⟨rfl,rfl⟩))
      | ((refine zVs (base:=Y2.heap.size) (A:=A') (n:=k) (c:=c') (Ss:=Ss) rfl (.tmp 30) (.tmp 38) (by rfl) IT (by rfl) (by rfl) (hR1.below hbz) (k+1) rfl (by omega) (Nat.le_trans hz1 hbz.size) ?_)
         intro A2 c2 w9 hR9 hb9 hg9))
     all_goals
      have hb10:=(zAa hb1 hbz hb1.size).trans hb9;clear hR1 hb1 hbz hb9 HIT HLE KP hcat;go_wp2_with fail
      go_roundw
      case rel=>exact ⟨i+1,_,A2,k+1,c2,Ss++[IT],rfl,by omega,by go_num,by rw [HDN.out],rfl,hR9,hb10,by omega,HST⟩
      case measure=>simp [intOf];omega
    ·have q2:(l.kind==2)=false:=by simpa using hk2
     have hncr:isC (la L i)=false:=by rw [hle];exact zLc hk2
     have hp:=(HP.out.kinds i hil).resolve_right (by rw [hncr];simp);have HDN:=Lib.hid (show dwn L (i+1) = !dw by rw [zOt hp,hd])
     cases dw with
     | false =>
      have HST:=Lib.hid (show Ss=zFb F L (i+1) by
       rw [zEt,HS.out]
       unfold zGs
       rw [hncr,hd];simp)
      clear hk2 hncr hp hd hle hf1 hc1 hO1 hB1 hl9 HS;go_wp2_with fail
      go_roundw
      case rel=>exact ⟨i+1,_,A',k,c',Ss,rfl,by omega,by go_num,by rw [HDN.out];rfl,rfl,hR1,hb1,by omega,HST⟩
      case measure=>simp [intOf];omega
     | true =>
      obtain ⟨k1,k2⟩:=HP.out.lps.arcs i hil hp hd;have k1m:i+1 < m:=by rw [←HLN.out];exact k1
      have HLF:=Lib.hid (HP.out.left i hil hp hd)
      have HRK:=Lib.hid (show 1≤(zBL L i).rank∧(zBL L i).rank≤400 by
       unfold zBL
       split
       ·exact HP.out.rank (i+1) k1 k2
       ·exact HP.out.rank i hil hp)
      obtain ⟨lu,hlu⟩:∃l,la L (i+1)=l:=⟨_,rfl⟩
      have HLU:=Lib.hid hlu;clear k2;have HSA:=Lib.hid (show zGs F L i=[zKK F L i] by unfold zGs;rw [hncr,hd];simp);have p1:(0:Int)≤(i:Int)+1:=by omega
      have p2:(i:Int)+1 < (m:Int):=by omega
      have p3:wrap64 ((i:Int)+1)=(i:Int)+1:=by unfold wrap64;omega
      obtain ⟨x0,x1,x2,x3,x4,x5⟩:=cQ6 hl9;have c1:X1.cell? ⟨w.heap.size+1,1,none⟩=some (.slice (some ⟨ga,o,none⟩) m d):=(hc1.cell 1).trans rfl;have hbl:=(Below.refl X1.heap.size X1).alloc (Nat.le_refl _) (.cells #[.int .i64 l.kind,.int .i64 l.gate,.int .i64 l.rank,.int .i64 l.id,.int .i64 l.sign,.bool l.over] 76);have hl10:Blk (X1.alloc (.cells #[.int .i64 l.kind,.int .i64 l.gate,.int .i64 l.rank,.int .i64 l.id,.int .i64 l.sign,.bool l.over] 76)) X1.heap.size 76 #[.int .i64 l.kind,.int .i64 l.gate,.int .i64 l.rank,.int .i64 l.id,.int .i64 l.sign,.bool l.over]:=Blk.new _ _ _;have hl9b:=hl9.below hbl hl9.lt;have hc1b:=hc1.below hbl hc1.lt;have hB1b:=hB1.below hbl;have hz10:X1.heap.size≤X1.heap.size:=Nat.le_refl _;clear hk2 hncr hp hd hle;go_upto_region 14 with fail
      clear x0 x1 x2 x3 x4 x5 c1;generalize hX2:X1.alloc (.cells #[.int .i64 l.kind,.int .i64 l.gate,.int .i64 l.rank,.int .i64 l.id,.int .i64 l.sign,.bool l.over] 76)=X2 at hl10 hl9b hc1b hB1b hbl ⊢;clear hX2;obtain ⟨a10,ha10⟩:∃a,X1.heap.size=a:=⟨_,rfl⟩
      rw [ha10] at hl10 hbl hz10 ⊢;have HA10:=Lib.hid ha10;clear ha10;have c1:X2.cell? ⟨w.heap.size+1,1,none⟩=some (.slice (some ⟨ga,o,none⟩) m d):=(hc1b.cell 1).trans rfl;have hU:=(hB1b.also k1m).1;rw [hlu] at hU;obtain ⟨x0,x1,x2,x3,x4,x5⟩:=hU;clear hlu;have hbl2:=(Below.refl X2.heap.size X2).alloc (Nat.le_refl _) (.cells #[.int .i64 lu.kind,.int .i64 lu.gate,.int .i64 lu.rank,.int .i64 lu.id,.int .i64 lu.sign,.bool lu.over] 76);have hl12:Blk (X2.alloc (.cells #[.int .i64 lu.kind,.int .i64 lu.gate,.int .i64 lu.rank,.int .i64 lu.id,.int .i64 lu.sign,.bool lu.over] 76)) X2.heap.size 76 #[.int .i64 lu.kind,.int .i64 lu.gate,.int .i64 lu.rank,.int .i64 lu.id,.int .i64 lu.sign,.bool lu.over]:=Blk.new _ _ _;have hl9c:=hl9b.below hbl2 hl9b.lt;have hl10c:=hl10.below hbl2 hl10.lt;have hbl3:Below a10 X1 (X2.alloc (.cells #[.int .i64 lu.kind,.int .i64 lu.gate,.int .i64 lu.rank,.int .i64 lu.id,.int .i64 lu.sign,.bool lu.over] 76)):=zAa hbl hbl2 (Nat.le_of_lt hl10.lt);go_upto_region 15 with fail
      clear x0 x1 x2 x3 x4 x5 c1 hbl2 hbl hl10 hl9b hc1b hB1b;generalize hX3:X2.alloc (.cells #[.int .i64 lu.kind,.int .i64 lu.gate,.int .i64 lu.rank,.int .i64 lu.id,.int .i64 lu.sign,.bool lu.over] 76)=X3 at hl12 hl9c hl10c hbl3 ⊢;clear hX3;generalize X2.heap.size=a12 at hl12 ⊢;have g9:X3.cell? ⟨a9,1,none⟩=some (.int .i64 l.gate):=(hl9c.cell 1).trans rfl;have y1:X3.cell? ⟨a12,1,none⟩=some (.int .i64 lu.gate):=(hl12.cell 1).trans rfl;go_upto_if 55 with fail
      go_cut [11] (fun v11 wv=>v11=.string (bA [zRN L i])∧∃V:World,V=wv∧Blk V a10 76 #[.int .i64 (zBL L i).kind,.int .i64 (zBL L i).gate,.int .i64 (zBL L i).rank,.int .i64 (zBL L i).id,.int .i64 (zBL L i).sign,.bool (zBL L i).over]∧Below a10 X1 V)
      case first =>
       by_cases hlt2:lu.gate < l.gate
       ·have HLL:=Lib.hid (show zBL L i=lu∧zRN L i=60 by unfold zBL zRN;rw [HLU.out,HLE0.out,if_pos hlt2,if_pos hlt2];exact ⟨rfl,rfl⟩);clear y1 g9 p1 p2 p3 j0 j1 k1 k1m;go_upto_region 16 with fail
        have HL10:=Lib.hid hl10c;have HB3:=Lib.hid hbl3;obtain ⟨y0,y1,y2,y3,y4,y5⟩:=cQ6 hl12;have v0:X3.cell? ⟨a10,0,none⟩=some (.int .i64 (l).kind):=(hl10c.cell 0).trans rfl;have z0:=hl10c.frozen 0;have v1:X3.cell? ⟨a10,1,none⟩=some (.int .i64 (l).gate):=(hl10c.cell 1).trans rfl;have z1:=hl10c.frozen 1;have v2:X3.cell? ⟨a10,2,none⟩=some (.int .i64 (l).rank):=(hl10c.cell 2).trans rfl;have z2:=hl10c.frozen 2;have v3:X3.cell? ⟨a10,3,none⟩=some (.int .i64 (l).id):=(hl10c.cell 3).trans rfl;have z3:=hl10c.frozen 3;have v4:X3.cell? ⟨a10,4,none⟩=some (.int .i64 (l).sign):=(hl10c.cell 4).trans rfl;have z4:=hl10c.frozen 4;have v5:X3.cell? ⟨a10,5,none⟩=some (.bool (l).over):=(hl10c.cell 5).trans rfl;have z5:=hl10c.frozen 5;clear hl12 hl9c hl10c hbl3 hlt2;go_wp2_with fail
        have SV:=zPT HL10.out (.int .i64 (lu).kind) (.int .i64 (lu).gate) (.int .i64 (lu).rank) (.int .i64 (lu).id) (.int .i64 (lu).sign) (.bool (lu).over);have BV:=zPU HB3.out hz10 (.int .i64 (lu).kind) (.int .i64 (lu).gate) (.int .i64 (lu).rank) (.int .i64 (lu).id) (.int .i64 (lu).sign) (.bool (lu).over);go_meet
        case rel=>exact ⟨by rw [HLL.out.2];rfl,_,rfl,by rw [HLL.out.1];exact SV,BV⟩
       ·have HLL:=Lib.hid (show zBL L i=l∧zRN L i=62 by unfold zBL zRN;rw [HLU.out,HLE0.out,if_neg hlt2,if_neg hlt2];exact ⟨rfl,rfl⟩);have SV:=Lib.hid hl10c;have BV:=Lib.hid hbl3;clear hl12 hl9c hl10c hbl3 y1 g9;go_wp2_with fail
        go_meet
        case rel=>exact ⟨by rw [HLL.out.2];rfl,_,rfl,by rw [HLL.out.1];exact SV.out,BV.out⟩
      case rest =>
       clear hl12 hl9c hl10c hbl3 g9 y1 p3;obtain ⟨rfl,V,hV,hl,hbV⟩:=hcut;have hlf:=HLF.out;have hrk:=HRK.out;subst hV;rw [←HA10.out] at hbV;have hfV:=hf1.below hbV hf1.lt;have hOV:=hO1.below hbV hO1.lt;have hRV:=hR1.below hbV;have hb2:=zAa hb1 hbV hb1.size;have hzV:Y2.heap.size≤V.heap.size:=hb2.size;have hAV:Fgs V A n F:=HA.out.below (zAa hby hb2 hby.size);obtain ⟨q,hq⟩:∃q:Nat,(zBL L i).gate=(q:Int):=⟨(zBL L i).gate.toNat,by omega⟩
       have hqK:q < K:=by have:=HK.out;omega
       have hK4:K≤40:=by have:=HP.out.lps.k40;have:=HK.out;omega
       obtain ⟨r,hr⟩:∃r,(zBL L i).rank=r:=⟨_,rfl⟩
       have hlp:=zFK K L m (g:=q) (by omega);have hll:=zMU L (q:Int) m;obtain ⟨v,hv⟩:∃v,lpC L (q:Int) m=v:=⟨_,rfl⟩
       rw [hv] at hlp hll;rw [hr] at hrk;obtain ⟨f0,f1,f2⟩:=cQ3 hfV;have e1:V.cell? ⟨a10,1,none⟩=some (.int .i64 (q:Int)):=by rw [←hq];exact (hl.cell 1).trans rfl
       have e2:V.cell? ⟨a10,2,none⟩=some (.int .i64 r):=by rw [←hr];exact (hl.cell 2).trans rfl
       have e3:V.cell? ⟨g,q,none⟩=some (.int .i64 (v:Int)):=hOV.cell hlp;have hnA:∀x,x < V.heap.size→(∀k',blk A'=some k'→k'≠x)→∀wx,V.grownBy wx (blk A')→∀q',wx.cell? ⟨x,q',none⟩=V.cell? ⟨x,q',none⟩:=fun x hx hne wx h q'=>World.cell?_of_block (w:=V) (w':=wx) (a:=⟨x,q',none⟩) (h.block x hx (fun e=>hne x e.symm rfl))
       have hA1:∀k',blk A'=some k'→Y2.heap.size≤k'∧k' < a10:=fun k' hk'=>⟨(hR1.lt k' hk').1,by rw [←HA10.out];exact (hR1.lt k' hk').2⟩
       have hwY:w.heap.size < Y2.heap.size:=hf2.lt
       have KP:=Lib.hid (show ∀wx,V.grownBy wx (blk A')→(V.grownBy wx (blk A')∧wx.cell? ⟨w.heap.size,0,none⟩=some (.slice A n c)∧wx.cell? ⟨w.heap.size,1,none⟩=some (.int .i64 re)∧wx.cell? ⟨w.heap.size,2,none⟩=some (.int .i64 lo)∧wx.cell? ⟨a10,1,none⟩=some (.int .i64 (q:Int))∧wx.cell? ⟨a10,2,none⟩=some (.int .i64 r)∧wx.cell? ⟨g,q,none⟩=some (.int .i64 (v:Int))) from
        fun wx h=>⟨h,(hnA _ hfV.lt (fun k' hk'=>by have:=hA1 k' hk';omega) wx h _).trans f0,(hnA _ hfV.lt (fun k' hk'=>by have:=hA1 k' hk';omega) wx h _).trans f1,(hnA _ hfV.lt (fun k' hk'=>by have:=hA1 k' hk';omega) wx h _).trans f2,(hnA _ hl.lt (fun k' hk'=>by have:=hA1 k' hk';omega) wx h _).trans e1,(hnA _ hl.lt (fun k' hk'=>by have:=hA1 k' hk';omega) wx h _).trans e2,(hnA _ hOV.lt (fun k' hk'=>by have:=hA1 k' hk';omega) wx h _).trans e3⟩)
       clear hnA hA1;have hI64:I64 (r-(v:Int)):=⟨by omega,by omega⟩;obtain ⟨NM,hNM⟩:∃S,nmF F ((q:Int)+1)=S:=⟨_,rfl⟩
       obtain ⟨ID,hID⟩:∃S,Lib.itoa (r-(v:Int))=S:=⟨_,rfl⟩
       obtain ⟨T1,hT1⟩:∃S,NM++[46]=S:=⟨_,rfl⟩
       obtain ⟨T2,hT2⟩:∃S,T1++ID=S:=⟨_,rfl⟩
       obtain ⟨IT,hIT⟩:∃S,T2++[zRN L i]=S:=⟨_,rfl⟩
       have hl1:=zBG hI64;rw [hID] at hl1;have hl2:=zBJ HP.out.fr (f:=(q:Int)+1) (by omega) (by have:=HK.out;omega);rw [hNM] at hl2;have hl3:T1.length≤50:=by rw [←hT1];simp;omega
       have hl4:T2.length≤100:=by rw [←hT2];simp;omega
       have hcat1:=zAT hT1 (bA NM) ⟨#[46]⟩ rfl rfl (by omega) (by simp);have hcat2:=zAT hT2 _ _ rfl rfl (by omega) (by omega);have hcat3:=zAT hIT _ _ rfl rfl (by omega) (by simp)
       have HST:=Lib.hid (show Ss++[IT]=zFb F L (i+1) by
        rw [zEt,HS.out,HSA.out]
        unfold zKK
        rw [hq,hr,hNM,hT1,HLN.out,hv,hID,hT2,hIT])
       have HNM:=Lib.hid (fun wx (hx:Below V.heap.size V wx)=>zDo (c:=c) hNM wx (hAV.below hx) HP.out.fr (by omega) (by have:=HFN.out;have:=HK.out;omega));have HIT:=Lib.hid (fun wx (hx:Below V.heap.size V wx)=>zPY hID hI64 wx (HT.out.below (zAa hby (zAa hb2 hx hb2.size) hby.size)));have hk5:k≤400:=by omega
       have hk6:k+1≤1000000:=by omega
       have hk7:k+1≤i+1:=by omega
       have hi7:i+1≤m:=by omega
       have p4:(0:Int)≤(q:Int):=by omega
       have p7:(q:Int) < (K:Int)+2:=by omega
       have w1:IntKind.i64.wrap ((q:Int)+1)=(q:Int)+1:=zLX (by omega);have w2:IntKind.i64.wrap (r-(v:Int))=r-(v:Int):=IntWalk.i64_in _ hI64;generalize zRN L i=ar at hIT hcat3 ⊢;clear hq hr hlp hv hNM hID hT1 hT2 hIT hl1 hl2 hl3 hl4 hf1 hc1 hO1 hB1 hl9 HS HSA hR1 hb1 hbV hfV hOV hl hAV hrk hlf;go_upto_region 17 with fail
       first
        | go_region_held3 (fun wx=>V.grownBy wx (blk A')∧wx.cell? ⟨w.heap.size,0,none⟩=some (.slice A n c)∧wx.cell? ⟨w.heap.size,1,none⟩=some (.int .i64 re)∧wx.cell? ⟨w.heap.size,2,none⟩=some (.int .i64 lo)∧wx.cell? ⟨a10,1,none⟩=some (.int .i64 (q:Int))∧wx.cell? ⟨a10,2,none⟩=some (.int .i64 r)∧wx.cell? ⟨g,q,none⟩=some (.int .i64 (v:Int))) (first | assumption | exact KP.out _ (zBU (zBx _ _)) | exact KP.out _ (by assumption) | exact KP.out _ (zBw (by assumption) _))
          (first
           | (go_at_call 107;refine (HNM.out _ (by first | assumption | exact (Below.refl _ _).drew)).mono ?_;rintro e' wy ⟨rfl,hby2⟩
              have hbz:Below V.heap.size V wy:=(by first | exact zAa (show Below V.heap.size V _ by assumption) hby2 (Below.size (show Below V.heap.size V _ by assumption)) | exact zAa (Below.refl V.heap.size V).drew hby2 (Nat.le_refl _))
              have hgz:V.grownBy wy (blk A'):=zDH hbz _)
           | (go_at_call 124;refine (HIT.out _ (by first | assumption | exact (Below.refl _ _).drew)).mono ?_;rintro e' wy ⟨rfl,hby2⟩
              have hbz:Below V.heap.size V wy:=(by first | exact zAa (show Below V.heap.size V _ by assumption) hby2 (Below.size (show Below V.heap.size V _ by assumption)) | exact zAa (Below.refl V.heap.size V).drew hby2 (Nat.le_refl _))
              have hgz:V.grownBy wy (blk A'):=zDH hbz _)
           | (refine zVs (base:=Y2.heap.size) (A:=A') (n:=k) (c:=c') (Ss:=Ss) rfl (.tmp 57) (.tmp 76) (by rfl) IT (by rfl) (by rfl) (hRV.below hbz) (k+1) rfl hk6 (Nat.le_trans hzV hbz.size) ?_
              intro A2 c2 w9 hR9 hb9 hg9
              have hgz9:V.grownBy w9 (blk A'):=zAb (zDH hbz _) hg9))
        | fail
       all_goals
        have hb10:=(zAa hb2 hbz hb2.size).trans hb9;clear hRV hb2 hbz hb9 HIT HNM KP hcat1 hcat2 hcat3 f0 f1 f2 e1 e2 e3 w1 w2 hgz9;go_wp2_with fail
        go_roundw
        case rel=>exact ⟨i+1,_,A2,k+1,c2,Ss++[IT],rfl,hi7,by go_num,by rw [HDN.out];rfl,rfl,hR9,hb10,hk7,HST⟩
        case measure=>simp [intOf];omega
   ·have j1:¬(i:Int) < (m:Int):=by omega
    have hin:i=m:=by omega
    have hSs:Ss=zFb F L L.length:=by rw [HS.out,hin,HLN.out]
    have hjl:(Lib.join Ss [32]).length≤140737488355328:=by
     have:=zJg (b:=100) [32] (by simp) (xs:=Ss) (by rw [hSs];exact zLZ HP.out (Nat.le_refl _));have h2:=zPX F L L.length;rw [←hSs,HLN.out] at h2;have:Ss.length*(100+1)≤400*101:=Nat.mul_le_mul (by omega) (by omega);omega
    have HJ:=Lib.hid (zMy hR (by omega) hjl);have HR:=Lib.hid (show Lib.join Ss [32]=zGL F L by unfold zGL;rw [if_neg (by rw [HLN.out];exact HMN.out),hSs]);have hbw:=zAa hby hb hby.size;clear hin hlt HS hSs hjl hR hb;go_wp2_with fail
    refine HJ.out.mono ?_;rintro e w8 ⟨rfl,hb8⟩;have hb9:=zAa hbw hb8 hbw.size;go_wp2_with fail
    go_ret;exact ⟨by rw [HR.out];rfl,hb9⟩
end Go.Proofs.YtlmdfmnbcndhoaaGreatDoor
