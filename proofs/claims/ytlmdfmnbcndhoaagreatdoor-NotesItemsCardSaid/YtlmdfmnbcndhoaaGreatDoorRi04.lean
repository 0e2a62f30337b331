/-
  Lemmas, part 4. Conditions: each theorem's own.
-/
import Derived.Test.YtlmdfmnbcndhoaaGreatDoorRi03
import Derived.Test.YtlmdfmnbcndhoaaGreatDoorRi01
import Derived.Laws.IdiomStrings
import Derived.Lib.AppendIntMem
import Derived.Lib.AtoiErrMem
import Derived.StillTailTactics
import Derived.Laws.Concat
import Derived.Lib.ItoaLen
namespace Go.Proofs.YtlmdfmnbcndhoaaGreatDoor
open Go.RowKit
def bA (l:List UInt8):ByteArray:=⟨l.toArray⟩
theorem zDm (l:List UInt8):(bA l).data.toList=l:=by simp [bA]
theorem zAC (l:List UInt8):(bA l).size=l.length:=by simp [bA,ByteArray.size]
theorem zJw (a b:List UInt8):bA a++bA b=bA (a++b):=by
 apply ByteArray.ext;simp [bA]
theorem zWi (s:ByteArray):bA s.data.toList=s:=by cases s;simp [bA]
structure Tabs (w:World):Prop where
 pow : Lib.TabIs Tryz.prog w "internal/strconv.uint64pow10" .u64 Lib.pow10Tab
 most:∃m,w.cell? ⟨0,0,none⟩=some (.int .i64 m)
theorem zNZ {P:Program} {w w':World} {nm:String} {cs:Array Value} (h:w.var? P nm=some cs) (hb:Below w.heap.size w w'):w'.var? P nm=some cs:=by
 unfold World.var? at h ⊢;obtain ⟨g,hg,h2⟩:=Option.bind_eq_some_iff.1 h;rw [hg];have hlt:g < w.heap.size:=by
  rcases Nat.lt_or_ge g w.heap.size with h3 | h3
  ·exact h3
  ·rw [Array.getElem?_eq_none h3] at h2;cases h2
 show (match w'.heap[g]? with | some (.cells cs _ _)=>some cs | _=>none)=some cs;rw [hb.block g hlt];exact h2
theorem Tabs.below {w w':World} (h:Tabs w) (hb:Below w.heap.size w w'):Tabs w':=by
 obtain ⟨h1,⟨m,h2⟩⟩:=h;exact ⟨zNZ h1 hb,⟨m,(hb.cell (World.block_lt_of_cell? w _ h2)).trans h2⟩⟩
theorem zIp (x:Int) (hx:I64 x) (w:World) (ht:Tabs w):Calls Tryz.prog 124 #[.int .i64 x] w fun e w'=>e=.returned (.string (bA (Lib.itoa x)))∧Below w.heap.size w w':=by
 refine (Tryz.strconv_Itoa x hx.1 hx.2 w ht.pow).mono ?_;rintro e w' ⟨rfl,k,os,rfl⟩;exact ⟨rfl,Lib.below_grow _ _ (Nat.le_refl _) _ _⟩
theorem zAs (l:List UInt8):(bA l).toList=l:=by
 rw [Lib.toList_data];exact zDm l
theorem zBD (a b:List UInt8):((bA a).toList==(bA b).toList)=(a==b):=by rw [zAs,zAs]
theorem zAw (a b:List UInt8) (ha:a.length≤100000) (hb:b.length≤100000):∀w,(Op.stringOp .add (bA a) (bA b)).run Tryz.prog w=.ok (.string (bA (a++b))) w:=fun w=>by
 rw [run_string_add_sum w (bA a) (bA b) (by rw [zAC,zAC];omega),zJw]
theorem zGx {u:Nat} (hu:u < 9223372036854775808):(Lib.decDigits u).length≤21:=by
 have:=Lib.itoa_length_le (u:Int) (by omega) (by omega);unfold Lib.itoa at this;rw [if_neg (by omega)] at this;simpa using this
theorem zFm {u:Nat} (h:u < 10):Lib.decDigits u=[UInt8.ofNat (48+u)]:=by rw [Lib.decDigits,dif_pos h]
theorem zKG {u:Nat} (h:¬u < 10):Lib.decDigits u=Lib.decDigits (u / 10)++Lib.decDigits (u % 10):=by
 conv=>lhs;rw [Lib.decDigits]
 rw [dif_neg h,zFm (u:=u % 10) (by omega)]
theorem zQC (u:Nat) (h:u < 10) (w:World):(convert 99 9 (.slice (some ⟨w.heap.size,0,none⟩) 1 1)).run Tryz.prog (w.alloc (.cells #[.int .u8 (48+(u:Int))] 5))=.ok (.string (bA (Lib.decDigits u))) (w.alloc (.cells #[.int .u8 (48+(u:Int))] 5)):=by
 rw [zFm h]
 exact run_convert_bytes_back _ _ _ _ ⟨w.heap.size,0,none⟩ 1 [UInt8.ofNat (48+u)] Tryz.underlying99 Tryz.underlying5 Tryz.underlying9 (fun j hj=>by
  have:j=0:=by simpa using hj
  subst this
  rw [Addr.add_lit,World.cell?_alloc_at _ _ _ _ rfl]
  simp
  omega)
set_option maxHeartbeats 1600000 in
theorem zOa (u:Nat):u < 9223372036854775808→∀w:World,Calls Tryz.prog 127 #[.int .i64 (u:Int)] w fun e w'=>e=.returned (.string (bA (Lib.decDigits u)))∧Below w.heap.size w w':=by
 induction u using Nat.strongRecOn with
 | _ u ih =>
  intro hu w;have i0:decide ((u:Int) < 0)=false:=by simp
  by_cases h:u < 10
  ·have hc:=zQC u h;have i1:(u:Int) < 10:=by omega
   have i2:IntKind.i64.wrap (48+(u:Int))=48+(u:Int):=IntWalk.i64_in _ (by omega);have i3:IntKind.u8.wrap (48+(u:Int))=48+(u:Int):=by unfold IntKind.wrap;simp [IntKind.signed,IntKind.bits];omega
   clear ih;go_enter Tryz.func127,Tryz.ntmps127;go_wp2_with fail
   go_ret;exact ⟨rfl,(Below.refl _ _).alloc (Nat.le_refl _) _⟩
  ·obtain ⟨a,ha⟩:∃a,a=u / 10:=⟨_,rfl⟩
   obtain ⟨b,hb⟩:∃b,b=u % 10:=⟨_,rfl⟩
   have q1:(u:Int) / 10=(a:Int):=by omega
   have q2:(u:Int) % 10=(b:Int):=by omega
   have i1:decide ((u:Int) < 10)=false:=by simp;omega
   have i5:IntKind.i64.wrap (a:Int)=(a:Int):=IntWalk.i64_in _ (by omega);have i6:IntKind.i64.wrap (b:Int)=(b:Int):=IntWalk.i64_in _ (by omega);have hA:=qH (ih a (by omega) (by omega));have hB:=qH (ih b (by omega) (by omega));have hd:=zKG h;rw [←ha,←hb] at hd;have la:=zGx (u:=a) (by omega);have lb:=zGx (u:=b) (by omega);have hs:=zAw (Lib.decDigits a) (Lib.decDigits b) (by omega) (by omega);have HD:=qH hd;clear ih hd ha hb h;go_enter Tryz.func127,Tryz.ntmps127;go_wp2_with fail
   refine (hA.out _).mono ?_;rintro e w1 ⟨rfl,hb1⟩;go_wp2_with fail
   refine (hB.out _).mono ?_;rintro e w2 ⟨rfl,hb2⟩;have hb3:=hb1.trans (hb2.mono hb1.size);go_wp2_with fail
   go_ret;exact ⟨by rw [HD.out];rfl,hb3⟩
set_option maxHeartbeats 1600000 in
theorem zKH (x:Int) (hx:I64 x) (w:World):Calls Tryz.prog 127 #[.int .i64 x] w fun e w'=>e=.returned (.string (bA (Lib.itoa x)))∧Below w.heap.size w w':=by
 by_cases h:x < 0
 ·have i0:decide (x < 0)=true:=by simpa using h
  have hi:Lib.itoa x=45 :: Lib.decDigits x.natAbs:=by unfold Lib.itoa;rw [if_pos h]
  by_cases hm:x = -9223372036854775808
  ·subst hm;have hi2:bA (Lib.itoa (-9223372036854775808))=⟨#[45,57,50,50,51,51,55,50,48,51,54,56,53,52,55,55,53,56,48,56]⟩:=by kernel_rfl
   have i3:wrap64 9223372036854775808 = -9223372036854775808:=by unfold wrap64;omega
   have HI:=qH hi2;clear hi hi2 h;go_enter Tryz.func127,Tryz.ntmps127;go_wp2_with fail
   go_ret;exact ⟨by rw [HI.out];rfl,Below.refl _ _⟩
  ·obtain ⟨u,hu⟩:∃u:Nat,-x=(u:Int):=⟨x.natAbs,by omega⟩
   have hu2:x.natAbs=u:=by omega
   rw [hu2] at hi;have hlt:u < 9223372036854775808:=by have:=hx.1;omega
   have hU:=qH (zOa u hlt);have l1:=zGx hlt;have hs:=zAw [45] (Lib.decDigits u) (by simp) (by omega);have i1:IntKind.i64.wrap (u:Int)=(u:Int):=IntWalk.i64_in _ (by omega);have i2:(x==(u:Int))=false:=by simp;omega
   have HI:=qH hi;have hb:bA [45]=⟨#[45]⟩:=rfl;rw [hb] at hs;clear hi hm h hu2 hb;go_enter Tryz.func127,Tryz.ntmps127;go_wp2_with fail
   refine (hU.out _).mono ?_;rintro e w1 ⟨rfl,hb1⟩;go_wp2_with fail
   go_ret;exact ⟨by rw [HI.out];rfl,hb1⟩
 ·obtain ⟨u,rfl⟩:∃u:Nat,x=(u:Int):=⟨x.toNat,by omega⟩
  have:=zOa u (by have:=hx.2;omega) w;have hi:Lib.itoa (u:Int)=Lib.decDigits u:=by unfold Lib.itoa;rw [if_neg h];simp
  rw [hi];exact this
set_option maxHeartbeats 1600000 in
theorem zBs (x:Int) (hx:I64 x) (w:World):Calls Tryz.prog 78 #[.int .i64 x] w fun e w'=>e=.returned (.string (bA (Lib.itoa x)))∧Below w.heap.size w w':=by
 have HK:=qH (zKH x hx w);go_enter Tryz.func78,Tryz.ntmps78;go_wp2_with fail
 refine HK.out.mono ?_;rintro e w1 ⟨rfl,hb1⟩;go_wp2_with fail
 go_ret;exact ⟨rfl,hb1⟩
set_option maxHeartbeats 1600000 in
theorem zHN (A:Option Addr) (n c:Nat) (L:List Fg) (re lo:Int) (f:Fg) (w:World) (hA:Fgs w A n L) :
  Calls Tryz.prog 53 #[.agg #[.slice A n c,.int .i64 re,.int .i64 lo],fgV f] w fun e w'=>e=.returned (.int .i64 (zAG L f:Int))∧Below w.heap.size w w':=by
 have hle:=hA.le;have HL:=qH hA.len;have hb0:Below w.heap.size w ((w.alloc (.cells #[.slice A n c,.int .i64 re,.int .i64 lo] 24)).alloc (.cells #[.int .i64 f.p,.bool f.r,.int .i64 f.d] 90)):=((Below.refl _ _).alloc (Nat.le_refl _) _).alloc (by simp) _;have hk1:Blk ((w.alloc (.cells #[.slice A n c,.int .i64 re,.int .i64 lo] 24)).alloc (.cells #[.int .i64 f.p,.bool f.r,.int .i64 f.d] 90)) (w.heap.size+1) 90 #[.int .i64 f.p,.bool f.r,.int .i64 f.d]:=heap_alloc2_new w _ _;have hk0:=(Blk.new w 24 #[.slice A n c,.int .i64 re,.int .i64 lo]).alloc (.cells #[.int .i64 f.p,.bool f.r,.int .i64 f.d] 90);go_enter Tryz.func53,Tryz.ntmps53;go_wp2_with fail
 generalize (w.alloc (.cells #[.slice A n c,.int .i64 re,.int .i64 lo] 24)).alloc (.cells #[.int .i64 f.p,.bool f.r,.int .i64 f.d] 90)=W at hb0 hk0 hk1 ⊢;go_loopw [5] (fun v wr=>∃i:Nat,i≤n∧v=.int .i64 i∧Below W.heap.size W wr∧Hid (∀j:Nat,j < i→L[j]?≠some f)) (fun v _=>n-(intOf v).toNat)
 case atStart=>exact ⟨0,Nat.zero_le _,rfl,Below.refl _ _,qH (fun j hj=>by omega)⟩
 case round =>
  obtain ⟨i,hi,rfl,hbr,HS⟩:=hrel;have hkr:=hk1.below hbr hk1.lt;obtain ⟨e0,e1,e2⟩:=cQ3 hkr;have e3:wr.cell? ⟨w.heap.size,0,none⟩=some (.slice A n c):=((hk0.below hbr hk0.lt).cell 0).trans rfl;have hbw:=zAa hb0 hbr hb0.size;by_cases hlt:i < n
  ·obtain ⟨g,o,rfl,hg,⟨x0,x1,x2⟩,_⟩:=(hA.below hbw).at_ hlt;have i0:(0:Int)≤(i:Int):=by omega
   have i1:(i:Int) < (n:Int):=by omega
   have heq:=fun w=>eqFg (fa L i) f w
   have hget:=zLF (L:=L) (i:=i) (by rw [HL.out];exact hlt)
   cases hq:fgB (fa L i) f with
   | true =>
    have hr:=qH (show zAG L f=i+1 from zGt (by rw [hget,zKy.1 hq]) HS.out);clear HS hget;go_wp2_with fail
    go_quiet (fail)
    go_wp2_with fail
    go_ret;exact ⟨zIm (by rw [hr.out];omega),zAf hbw _⟩
   | false =>
    have HS1:=qH (show ∀j:Nat,j < i+1→L[j]?≠some f from fun j hj=>by
     rcases Nat.decEq j i with e | e
     ·exact HS.out j (by omega)
     ·subst e
      rw [hget]
      intro e2
      injection e2 with e2
      rw [e2,zLE] at hq
      cases hq)
    clear HS hget;go_wp2_with fail
    go_quiet (fail)
    go_wp2_with fail
    go_roundw
    case rel=>exact ⟨i+1,by omega,by go_num,zAf hbr _,HS1⟩
    case measure=>simp [intOf];omega
  ·have hr:=qH (show zAG L f=0 from zEr fun j e=>by
    have hj:=(List.getElem?_eq_some_iff.1 e).1
    rw [HL.out] at hj
    exact HS.out j (by omega) e)
   have i1:¬(i:Int) < (n:Int):=by omega
   clear HS;go_wp2_with fail
   go_ret;exact ⟨zIm (by rw [hr.out];rfl),hbw⟩
theorem zOb {L:List Fg} {i:Nat} (hi:i < L.length):zCQ L i=true↔1≤(fa L i).p∧(fa L i).p≤9∧0≤(fa L i).d∧(fa L i).d≤6∧zAG L (fa L i)=i+1:=by
 unfold zCQ;rw [Bool.and_eq_true,zAp,decide_eq_true_eq,zJo hi];simp [and_assoc]
set_option maxRecDepth 100000 in
set_option maxHeartbeats 3200000 in
theorem zMM (A:Option Addr) (n c:Nat) (L:List Fg) (re lo:Int) (w:World) (hA:Fgs w A n L) :
  Calls Tryz.prog 18 #[.agg #[.slice A n c,.int .i64 re,.int .i64 lo]] w fun e w'=>e=.returned (.bool (frB L re lo))∧Below w.heap.size w w':=by
 have hln:=hA.len;have hb0:Below w.heap.size w (w.alloc (.cells #[.slice A n c,.int .i64 re,.int .i64 lo] 24)):=(Below.refl _ _).alloc (Nat.le_refl _) _;by_cases hok:L.length≤40∧0≤re∧re≤40∧1≤lo∧lo≤20
 ·have HOK:=qH hok;have HL:=qH hln;have hn40:n≤40:=by omega
  have i0:¬(40:Int) < (n:Int):=by omega
  have i1:¬re < 0:=by omega
  have i2:¬40 < re:=by omega
  have i3:¬lo < 1:=by omega
  have i4:¬20 < lo:=by omega
  have hk0:Blk (w.alloc (.cells #[.slice A n c,.int .i64 re,.int .i64 lo] 24)) w.heap.size 24 #[.slice A n c,.int .i64 re,.int .i64 lo]:=Blk.new _ _ _;clear hok hln;go_enter Tryz.func18,Tryz.ntmps18;go_wp2_with fail
  generalize w.alloc (.cells #[.slice A n c,.int .i64 re,.int .i64 lo] 24)=W at hb0 hk0 ⊢;go_loopw [3] (fun v wr=>∃i:Nat,i≤n∧v=.int .i64 i∧Below W.heap.size W wr∧Hid (∀j:Nat,j < i→zCQ L j=true)) (fun v _=>n-(intOf v).toNat)
  case atStart=>exact ⟨0,Nat.zero_le _,rfl,Below.refl _ _,qH (fun j hj=>by omega)⟩
  case round =>
   obtain ⟨i,hi,rfl,hbr,HS⟩:=hrel;have hkr:=hk0.below hbr hk0.lt;have hbw:=zAa hb0 hbr hb0.size;have e0:wr.cell? ⟨w.heap.size,0,none⟩=some (.slice A n c):=(hkr.cell 0).trans rfl;by_cases hlt:i < n
   ·obtain ⟨g,o,rfl,hg,⟨x0,x1,x2⟩,_⟩:=(hA.below hbw).at_ hlt;have j0:(0:Int)≤(i:Int):=by omega
    have j1:(i:Int) < (n:Int):=by omega
    have HG:=qH (zOb (L:=L) (i:=i) (by rw [HL.out];exact hlt));have hlen:i < L.length:=by rw [HL.out];exact hlt
    have hix:zAG L (fa L i)≤n:=by have:=zDk (L:=L) (f:=fa L i);rw [HL.out] at this;exact this
    generalize hx:fa L i=x at x0 x1 x2 HG hix;have HX:=qH hx;have HLEN:=qH hlen;clear hx hlen;have hA4:=(hA.below hbw).alloc (.cells #[.int .i64 x.p,.bool x.r,.int .i64 x.d] 90);have hb4:Below W.heap.size W (wr.alloc (.cells #[.int .i64 x.p,.bool x.r,.int .i64 x.d] 90)):=hbr.alloc hbr.size _;have HC:=qH (zHN (some ⟨g,o,none⟩) n c L re lo x _ hA4);have hkf:=hkr.alloc (.cells #[.int .i64 x.p,.bool x.r,.int .i64 x.d] 90);obtain ⟨y0,y1,y2⟩:=cQ3 hkf;by_cases hth:1≤x.p∧x.p≤9∧0≤x.d∧x.d≤6
    ·obtain ⟨t1,t2,t3,t4⟩:=hth;have HTH:=qH (show 1≤x.p∧x.p≤9∧0≤x.d∧x.d≤6 from ⟨t1,t2,t3,t4⟩);have u1:¬x.p < 1:=by omega
     have u2:¬9 < x.p:=by omega
     have u3:¬x.d < 0:=by omega
     have u4:¬6 < x.d:=by omega
     clear t1 t2 t3 t4;go_wp2_with fail
     refine HC.out.mono ?_;rintro e w5 ⟨rfl,hb5⟩;have hb6:=zAa hb4 hb5 hb4.size;by_cases hi1:zAG L x=i+1
     ·have v0:((zAG L x:Int) != (i:Int)+1)=false:=by simp;omega
      have HS1:=qH (show ∀j:Nat,j < i+1→zCQ L j=true from fun j hj=>by
       rcases Nat.decEq j i with e | e
       ·exact HS.out j (by omega)
       ·subst e
        have:=HTH.out
        exact HG.out.2 ⟨this.1,this.2.1,this.2.2.1,this.2.2.2,hi1⟩)
      clear HS hi1;go_wp2_with fail
      go_roundw
      case rel=>exact ⟨i+1,by omega,by go_num,hb6,HS1⟩
      case measure=>simp [intOf];omega
     ·have v0:((zAG L x:Int) != (i:Int)+1)=true:=by simp;omega
      have hr:=qH (zKF (re:=re) (lo:=lo) (L:=L) (i:=i) HLEN.out (by
       cases e:zCQ L i with
       | false=>rfl
       | true=>exact absurd (HG.out.1 e).2.2.2.2 hi1))
      clear HS hi1;go_wp2_with fail
      go_ret;exact ⟨zBz (by rw [hr.out]),zAa hb0 hb6 hb0.size⟩
    ·have hr:=qH (zKF (re:=re) (lo:=lo) (L:=L) (i:=i) HLEN.out (by
      cases e:zCQ L i with
      | false=>rfl
      | true=>have h5:=HG.out.1 e;exact absurd ⟨h5.1,h5.2.1,h5.2.2.1,h5.2.2.2.1⟩ hth))
     go_wp2_with fail
     all_goals first
      | (exfalso;omega)
      | (go_ret;exact ⟨zBz (by rw [hr.out]),zAa hb0 hb4 hb0.size⟩)
   ·have hr:=qH (show frB L re lo=true from zCR.2 ⟨HOK.out.1,HOK.out.2.1,HOK.out.2.2.1,HOK.out.2.2.2.1,HOK.out.2.2.2.2,fun j hj=>HS.out j (by rw [HL.out] at hj;omega)⟩);have j1:¬(i:Int) < (n:Int):=by omega
    clear HS;go_wp2_with fail
    go_ret;exact ⟨zBz (by rw [hr.out]),hbw⟩
 ·have hr:=qH (zSj hok);go_enter Tryz.func18,Tryz.ntmps18;go_wp2_with fail
  all_goals first
   | (exfalso;omega)
   | (go_ret;exact ⟨zBz (by rw [hr.out]),hb0⟩)
theorem zLK (x:Int) (h0:0≤x) (h1:x < 100) (w:World):Calls Tryz.prog 124 #[.int .i64 x] w fun e w'=>e=.returned (.string (bA (Lib.itoa x)))∧w'=w:=by
 obtain ⟨k,rfl⟩:=Int.eq_ofNat_of_zero_le h0;have:=Tryz.strconv_Itoa_small k (by omega) w;have hi:Lib.itoa (k:Int)=Lib.decDigits k:=by unfold Lib.itoa;rw [if_neg (by omega)];simp
 rw [hi];exact this
theorem zAZ {x:Int} (h:I64 x):(Lib.itoa x).length≤21:=Lib.itoa_length_le x h.1 h.2
theorem zJx {x:Fg} (h:FgOk x):(zAk x).length≤43:=by
 have h1:=zAZ h.p;have h2:=zAZ h.d;unfold zAk;by_cases hp:x.p=1
 ·rw [if_pos hp];simp;omega
 ·rw [if_neg hp];simp;omega
theorem zGb {x:Fg} (h:zAm x=true):FgOk x:=by
 have:=zAp.1 h;exact ⟨⟨by omega,by omega⟩,⟨by omega,by omega⟩⟩
set_option maxHeartbeats 1600000 in
theorem zJy (x:Fg) (hx:zAm x=true) (w:World) :
  Calls Tryz.prog 154 #[fgV x] w fun e w'=>e=.returned (.string (bA (zAk x)))∧Below w.heap.size w w':=by
 have hok:=zGb hx;obtain ⟨h1,h2,h3,h4⟩:=zAp.1 hx;have zP:=zAZ hok.p;have zD:=zAZ hok.d;have hb0:Below w.heap.size w (w.alloc (.cells #[.int .i64 x.p,.bool x.r,.int .i64 x.d] 90)):=(Below.refl _ _).alloc (Nat.le_refl _) _;obtain ⟨p,r,d⟩:=x;simp only at h1 h2 h3 h4 zP zD hb0 ⊢;have HP:=qH (zLK p (by omega) (by omega) (w.alloc (.cells #[.int .i64 p,.bool r,.int .i64 d] 90)));have HD:=qH (zLK d (by omega) (by omega) (w.alloc (.cells #[.int .i64 p,.bool r,.int .i64 d] 90)));by_cases hp:p=1
 ·have s0:=zAw [] [82] (by simp) (by simp);have s1:=zAw [] [76] (by simp) (by simp);have s2:=zAw [82] (Lib.itoa d) (by simp) (by omega);have s3:=zAw [76] (Lib.itoa d) (by simp) (by omega);rw [show bA [82]=⟨#[82]⟩ from rfl] at s0 s2;rw [show bA [76]=⟨#[76]⟩ from rfl] at s1 s3;rw [show bA []=⟨#[]⟩ from rfl] at s0 s1;rw [show bA ([]++[82])=⟨#[82]⟩ from rfl] at s0;rw [show bA ([]++[76])=⟨#[76]⟩ from rfl] at s1;have q0:(p != 1)=false:=by simpa using hp
  have hf:=qH (show zAk ⟨p,r,d⟩=(if r then 82 else 76) :: Lib.itoa d by unfold zAk;rw [if_pos hp];rfl);clear hp h1 h2 h3 h4 hok hx HP zP zD
  cases r with
  | true =>
   go_enter Tryz.func154,Tryz.ntmps154;go_wp2_with fail
   refine HD.out.mono ?_;rintro e w2 ⟨rfl,rfl⟩;go_wp2_with fail
   go_ret;exact ⟨zDl (by rw [hf.out];first | rfl | simp),hb0⟩
  | false =>
   go_enter Tryz.func154,Tryz.ntmps154;go_wp2_with fail
   refine HD.out.mono ?_;rintro e w2 ⟨rfl,rfl⟩;go_wp2_with fail
   go_ret;exact ⟨zDl (by rw [hf.out];first | rfl | simp),hb0⟩
 ·have s0:=zAw (Lib.itoa p) [82] (by omega) (by simp);have s1:=zAw (Lib.itoa p) [76] (by omega) (by simp);have s2:=zAw (Lib.itoa p++[82]) (Lib.itoa d) (by simp;omega) (by omega);have s3:=zAw (Lib.itoa p++[76]) (Lib.itoa d) (by simp;omega) (by omega);rw [show bA [82]=⟨#[82]⟩ from rfl] at s0;rw [show bA [76]=⟨#[76]⟩ from rfl] at s1;have q0:(p != 1)=true:=by simpa using hp
  have hf:=qH (show zAk ⟨p,r,d⟩=Lib.itoa p++[if r then 82 else 76]++Lib.itoa d by unfold zAk;rw [if_neg hp];simp);clear hp h1 h2 h3 h4 hok hx zP zD
  cases r with
  | true =>
   go_enter Tryz.func154,Tryz.ntmps154;go_wp2_with fail
   refine HP.out.mono ?_;rintro e w2 ⟨rfl,rfl⟩;go_wp2_with fail
   refine HD.out.mono ?_;rintro e w2 ⟨rfl,rfl⟩;go_wp2_with fail
   go_ret;exact ⟨zDl (by rw [hf.out];first | rfl | simp),hb0⟩
  | false =>
   go_enter Tryz.func154,Tryz.ntmps154;go_wp2_with fail
   refine HP.out.mono ?_;rintro e w2 ⟨rfl,rfl⟩;go_wp2_with fail
   refine HD.out.mono ?_;rintro e w2 ⟨rfl,rfl⟩;go_wp2_with fail
   go_ret;exact ⟨zDl (by rw [hf.out];first | rfl | simp),hb0⟩
set_option maxHeartbeats 1600000 in
theorem zJz (x:Fg) (hx:zAm x=true) (w:World) :
  Calls Tryz.prog 111 #[fgV x] w fun e w'=>e=.returned (.string (bA (zAk x)))∧Below w.heap.size w w':=by
 have hok:=zGb hx;obtain ⟨h1,h2,h3,h4⟩:=zAp.1 hx;have zP:=zAZ hok.p;have zD:=zAZ hok.d;have hb0:Below w.heap.size w (w.alloc (.cells #[.int .i64 x.p,.bool x.r,.int .i64 x.d] 90)):=(Below.refl _ _).alloc (Nat.le_refl _) _;have hk0:Blk (w.alloc (.cells #[.int .i64 x.p,.bool x.r,.int .i64 x.d] 90)) w.heap.size 90 #[.int .i64 x.p,.bool x.r,.int .i64 x.d]:=Blk.new _ _ _;obtain ⟨p,r,d⟩:=x;simp only at h1 h2 h3 h4 zP zD hb0 hk0 ⊢;have HP:=qH (fun w=>zBs p hok.p w);have HD:=qH (fun w=>zBs d hok.d w);by_cases hp:p=1
 ·have s0:=zAw [] [82] (by simp) (by simp);have s1:=zAw [] [76] (by simp) (by simp);have s2:=zAw [82] (Lib.itoa d) (by simp) (by omega);have s3:=zAw [76] (Lib.itoa d) (by simp) (by omega);rw [show bA [82]=⟨#[82]⟩ from rfl] at s0 s2;rw [show bA [76]=⟨#[76]⟩ from rfl] at s1 s3;rw [show bA []=⟨#[]⟩ from rfl] at s0 s1;rw [show bA ([]++[82])=⟨#[82]⟩ from rfl] at s0;rw [show bA ([]++[76])=⟨#[76]⟩ from rfl] at s1;have q0:(p != 1)=false:=by simpa using hp
  have hf:=qH (show zAk ⟨p,r,d⟩=(if r then 82 else 76) :: Lib.itoa d by unfold zAk;rw [if_pos hp];rfl);clear hp h1 h2 h3 h4 hok hx HP zP zD
  cases r with
  | true =>
   go_enter Tryz.func111,Tryz.ntmps111;go_wp2_with fail
   refine (HD.out _).mono ?_;rintro e w2 ⟨rfl,hb2⟩;have hb3:=zAa hb0 hb2 hb0.size;go_wp2_with fail
   go_ret;exact ⟨zDl (by rw [hf.out];first | rfl | simp),hb3⟩
  | false =>
   go_enter Tryz.func111,Tryz.ntmps111;go_wp2_with fail
   refine (HD.out _).mono ?_;rintro e w2 ⟨rfl,hb2⟩;have hb3:=zAa hb0 hb2 hb0.size;go_wp2_with fail
   go_ret;exact ⟨zDl (by rw [hf.out];first | rfl | simp),hb3⟩
 ·have s0:=zAw (Lib.itoa p) [82] (by omega) (by simp);have s1:=zAw (Lib.itoa p) [76] (by omega) (by simp);have s2:=zAw (Lib.itoa p++[82]) (Lib.itoa d) (by simp;omega) (by omega);have s3:=zAw (Lib.itoa p++[76]) (Lib.itoa d) (by simp;omega) (by omega);rw [show bA [82]=⟨#[82]⟩ from rfl] at s0;rw [show bA [76]=⟨#[76]⟩ from rfl] at s1;have q0:(p != 1)=true:=by simpa using hp
  have hf:=qH (show zAk ⟨p,r,d⟩=Lib.itoa p++[if r then 82 else 76]++Lib.itoa d by unfold zAk;rw [if_neg hp];simp);clear hp h1 h2 h3 h4 hok hx zP zD
  cases r with
  | true =>
   go_enter Tryz.func111,Tryz.ntmps111;go_wp2_with fail
   generalize w.alloc (.cells #[.int .i64 p,.bool true,.int .i64 d] 90)=X at hb0 hk0 ⊢;refine (HP.out _).mono ?_;rintro e w2 ⟨rfl,hb2⟩;have hk2:=hk0.below hb2 hk0.lt;obtain ⟨-,c1,c2⟩:=cQ3 hk2;have hb3:=zAa hb0 hb2 hb0.size;go_wp2_with fail
   refine (HD.out _).mono ?_;rintro e w3 ⟨rfl,hb4⟩;have hb5:=zAa hb3 hb4 hb3.size;go_wp2_with fail
   go_ret;exact ⟨zDl (by rw [hf.out];first | rfl | simp),hb5⟩
  | false =>
   go_enter Tryz.func111,Tryz.ntmps111;go_wp2_with fail
   generalize w.alloc (.cells #[.int .i64 p,.bool false,.int .i64 d] 90)=X at hb0 hk0 ⊢;refine (HP.out _).mono ?_;rintro e w2 ⟨rfl,hb2⟩;have hk2:=hk0.below hb2 hk0.lt;obtain ⟨-,c1,c2⟩:=cQ3 hk2;have hb3:=zAa hb0 hb2 hb0.size;go_wp2_with fail
   refine (HD.out _).mono ?_;rintro e w3 ⟨rfl,hb4⟩;have hb5:=zAa hb3 hb4 hb3.size;go_wp2_with fail
   go_ret;exact ⟨zDl (by rw [hf.out];first | rfl | simp),hb5⟩
structure Sg where
 f:Int
 l:Int
 far:Bool
 pc:Int
instance : DecidableEq Sg := fun a b =>
 if h:a.f=b.f∧a.l=b.l∧a.far=b.far∧a.pc=b.pc then .isTrue (by cases a;cases b;simp at h;simp [h])
 else .isFalse (fun e=>h (by subst e;simp))
structure Sp where
 s:Sg
 over:Bool
instance : DecidableEq Sp := fun a b =>
 if h:a.s=b.s∧a.over=b.over then .isTrue (by cases a;cases b;simp at h;simp [h])
 else .isFalse (fun e=>h (by subst e;simp))
structure Og where
 kind:Int
 f:Int
 fr:Sg
 path:List Sp
 over:Bool
instance : DecidableEq Og := fun a b =>
 if h:a.kind=b.kind∧a.f=b.f∧a.fr=b.fr∧a.path=b.path∧a.over=b.over then .isTrue (by cases a;cases b;simp at h;simp [h])
 else .isFalse (fun e=>h (by subst e;simp))
def sgB (x y:Sg):Bool:=x.f==y.f&&x.l==y.l&&x.far==y.far&&x.pc==y.pc
theorem zCA {x y:Sg}:sgB x y=true↔x=y:=by
 cases x;cases y
 simp [sgB,and_assoc]
def s0:Sg:=⟨0,0,false,0⟩
def zAq (k:Nat) (s:Sg):Bool:=decide (1≤s.f)&&decide (s.f≤(k:Int))&&decide (0≤s.l)&&decide (s.l≤999999999)&&decide (0≤s.pc)&&decide (s.pc≤999999999)
theorem zAj {k:Nat} {s:Sg}:zAq k s=true↔1≤s.f∧s.f≤(k:Int)∧0≤s.l∧s.l≤999999999∧0≤s.pc∧s.pc≤999999999:=by simp [zAq,and_assoc]
def zBh (k:Nat) (o:Og):Bool :=
 if o.kind=1∨o.kind=2∨o.kind=8 then !o.over&&sgB o.fr s0
 else if o.kind=4 then sgB o.fr s0
 else if o.kind=3 then !o.over&&zAq k o.fr
 else if o.kind=5 then zAq k o.fr
 else if o.kind=6∨o.kind=7 then zAq k o.fr&&sgB o.fr ⟨o.fr.f,0,false,0⟩
 else false
def zAh (k:Nat) (o:Og):Bool :=
 decide (1≤o.f)&&decide (o.f≤(k:Int))&&(decide (o.kind=3)||decide (o.path=[]))&&o.path.all (fun x=>zAq k x.s)&&zBh k o
structure SgOk (s:Sg):Prop where
 f:I64 s.f
 l:I64 s.l
 pc:I64 s.pc
abbrev sgV (s:Sg):Value:=.agg #[.int .i64 s.f,.int .i64 s.l,.bool s.far,.int .i64 s.pc]
def zCj (x:Sp):List Value:=[.int .i64 x.s.f,.int .i64 x.s.l,.bool x.s.far,.int .i64 x.s.pc,.bool x.over]
abbrev spV (x:Sp):Value:=.agg #[.int .i64 x.s.f,.int .i64 x.s.l,.bool x.s.far,.int .i64 x.s.pc,.bool x.over]
def dp:Sp:=⟨s0,false⟩
def pa (L:List Sp) (i:Nat):Sp:=(L[i]?).getD dp
theorem zBS {L:List Sp} {i:Nat} (h:i < L.length):L[i]? = some (pa L i):=by unfold pa;rw [List.getElem?_eq_getElem h];rfl
structure SpAt (w:World) (g o:Nat) (x:Sp):Prop where
 f:w.cell? ⟨g,o,none⟩=some (.int .i64 x.s.f)
 l:w.cell? ⟨g,o+1,none⟩=some (.int .i64 x.s.l)
 far:w.cell? ⟨g,o+2,none⟩=some (.bool x.s.far)
 pc:w.cell? ⟨g,o+3,none⟩=some (.int .i64 x.s.pc)
 over:w.cell? ⟨g,o+4,none⟩=some (.bool x.over)
def Stps (w:World) (A:Option Addr) (n:Nat) (L:List Sp):Prop:=Els 5 zCj w A n L∧∀x∈L,SgOk x.s
section
variable {w w':World} {A:Option Addr} {n:Nat} {L:List Sp}
theorem Stps.len (h:Stps w A n L):L.length=n:=h.1.1
theorem Stps.le (h:Stps w A n L):n≤17592186043904:=h.1.2.1
theorem Stps.nil (w:World) (A:Option Addr):Stps w A 0 []:=⟨Els.nil _ _,by simp⟩
theorem Stps.below (h:Stps w A n L) (hb:Below w.heap.size w w'):Stps w' A n L:=⟨h.1.below hb,h.2⟩
theorem Stps.at_ {k:Nat} (h:Stps w A n L) (hk:k < n):∃g o,A=some ⟨g,o,none⟩∧g < w.heap.size∧SpAt w g (o+k*5) (pa L k)∧SgOk (pa L k).s:=by
 obtain ⟨g,o,e,hb,hc⟩:=h.1.2.2 (by omega);have hx:L[k]? = some (pa L k):=zBS (by rw [h.len];exact hk);exact ⟨g,o,e,hb,⟨hc k _ hx 0 _ rfl,hc k _ hx 1 _ rfl,hc k _ hx 2 _ rfl,hc k _ hx 3 _ rfl,hc k _ hx 4 _ rfl⟩,h.2 _ (List.mem_of_getElem? hx)⟩
end
structure OgOk (o:Og):Prop where
 kind:I64 o.kind
 f:I64 o.f
 fr:SgOk o.fr
abbrev opV (o:Og) (A:Option Addr) (n c:Nat):Value:=.agg #[.int .i64 o.kind,.int .i64 o.f,.int .i64 o.fr.f,.int .i64 o.fr.l,.bool o.fr.far,.int .i64 o.fr.pc,.slice A n c,.bool o.over]
structure OpIn (w:World) (o:Og) (A:Option Addr) (n c:Nat):Prop where
 ok:OgOk o
 path:Stps w A n o.path
 cap:n≤c
theorem OpIn.below {w w':World} {o:Og} {A:Option Addr} {n c:Nat} (h:OpIn w o A n c) (hb:Below w.heap.size w w'):OpIn w' o A n c:=⟨h.ok,h.path.below hb,h.cap⟩
structure Oe where
 o:Og
 A:Option Addr
 n:Nat
 c:Nat
def zSV (e:Oe):List Value:=[.int .i64 e.o.kind,.int .i64 e.o.f,.int .i64 e.o.fr.f,.int .i64 e.o.fr.l,.bool e.o.fr.far,.int .i64 e.o.fr.pc,.slice e.A e.n e.c,.bool e.o.over]
def do_:Oe:=⟨⟨0,0,s0,[],false⟩,none,0,0⟩
def oa (L:List Oe) (i:Nat):Oe:=(L[i]?).getD do_
theorem zBT {L:List Oe} {i:Nat} (h:i < L.length):L[i]? = some (oa L i):=by unfold oa;rw [List.getElem?_eq_getElem h];rfl
structure OpAt (w:World) (g p:Nat) (e:Oe):Prop where
 kind:w.cell? ⟨g,p,none⟩=some (.int .i64 e.o.kind)
 f:w.cell? ⟨g,p+1,none⟩=some (.int .i64 e.o.f)
 ff:w.cell? ⟨g,p+2,none⟩=some (.int .i64 e.o.fr.f)
 fl:w.cell? ⟨g,p+3,none⟩=some (.int .i64 e.o.fr.l)
 far:w.cell? ⟨g,p+4,none⟩=some (.bool e.o.fr.far)
 pc:w.cell? ⟨g,p+5,none⟩=some (.int .i64 e.o.fr.pc)
 path:w.cell? ⟨g,p+6,none⟩=some (.slice e.A e.n e.c)
 over:w.cell? ⟨g,p+7,none⟩=some (.bool e.o.over)
def Oprs (w:World) (A:Option Addr) (n:Nat) (L:List Oe):Prop:=Els 8 zSV w A n L∧∀e∈L,OpIn w e.o e.A e.n e.c
section
variable {w w':World} {A:Option Addr} {n:Nat} {L:List Oe}
theorem Oprs.len (h:Oprs w A n L):L.length=n:=h.1.1
theorem Oprs.le (h:Oprs w A n L):n≤17592186043904:=h.1.2.1
theorem Oprs.below (h:Oprs w A n L) (hb:Below w.heap.size w w'):Oprs w' A n L:=⟨h.1.below hb,fun e he=>(h.2 e he).below hb⟩
theorem Oprs.at_ {k:Nat} (h:Oprs w A n L) (hk:k < n):∃g o,A=some ⟨g,o,none⟩∧g < w.heap.size∧OpAt w g (o+k*8) (oa L k)∧OpIn w (oa L k).o (oa L k).A (oa L k).n (oa L k).c:=by
 obtain ⟨g,o,e,hb,hc⟩:=h.1.2.2 (by omega);have hx:L[k]? = some (oa L k):=zBT (by rw [h.len];exact hk);exact ⟨g,o,e,hb,⟨hc k _ hx 0 _ rfl,hc k _ hx 1 _ rfl,hc k _ hx 2 _ rfl,hc k _ hx 3 _ rfl,hc k _ hx 4 _ rfl,hc k _ hx 5 _ rfl,hc k _ hx 6 _ rfl,hc k _ hx 7 _ rfl⟩,h.2 _ (List.mem_of_getElem? hx)⟩
end
set_option maxRecDepth 100000 in
theorem zUN (x y:Sg) (w:World):(Op.equalIn 10000 29 (sgV x) (sgV y)).run Tryz.prog w=.ok (sgB x y) w:=by
 have u3:=Tryz.underlying3;have a3:=Tryz.isAgg3;have z3:=Tryz.sizeOf3;have u4:=Tryz.underlying4;have a4:=Tryz.isAgg4;have z4:=Tryz.sizeOf4;have hS:Tryz.prog.underlying 29=some (.struct (Tryz.prog.fieldsOf 29)):=by kernel_rfl
 have hp:Tryz.prog.stoodInHeld 29=false:=by kernel_rfl
 rw [show (10000:Nat)=9999+1 from rfl,run_equalIn_agg w 9999 29 _ _ hS hp];simp only [Program.fieldsOf,Tryz.underlying29];go_simp
 unfold sgB;by_cases h1:x.f=y.f<;>by_cases h2:x.l=y.l<;>by_cases h3:x.far=y.far<;>by_cases h4:x.pc=y.pc<;>simp [h1,h2,h3,h4]
theorem zEe (A:Option Addr) (n c:Nat) (re lo:Int) (s:Sg) (w:World) :
  Calls Tryz.prog 152 #[.agg #[.slice A n c,.int .i64 re,.int .i64 lo],sgV s] w fun e w'=>e=.returned (.bool (zAq n s))∧Below w.heap.size w w':=by
 have hb0:Below w.heap.size w ((w.alloc (.cells #[.slice A n c,.int .i64 re,.int .i64 lo] 24)).alloc (.cells #[.int .i64 s.f,.int .i64 s.l,.bool s.far,.int .i64 s.pc] 29)):=((Below.refl _ _).alloc (Nat.le_refl _) _).alloc (by simp) _;have HB:=qH hb0;have hr:=qH (show zAq n s=(decide (1≤s.f)&&decide (s.f≤(n:Int))&&decide (0≤s.l)&&decide (s.l≤999999999)&&decide (0≤s.pc)&&decide (s.pc≤999999999)) from rfl);clear hb0;go_enter Tryz.func152,Tryz.ntmps152;go_wp2_with fail
 all_goals
  go_ret;refine ⟨zBz ?_,HB.out⟩;rw [hr.out];simp
  try omega
end Go.Proofs.YtlmdfmnbcndhoaaGreatDoor
