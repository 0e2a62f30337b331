/-
  Contracts: the program's Posed, posed (of notes). Conditions: the frame and the code's letters read.
  Plain: items of a sequence; the codes of items and the sequence of a code, as the program computes them. No program.
  Plain: in a flat code whose strands below are arcs between neighbors, these arcs do not cross. No walk of the program.
  Contract: the program's loops. Conditions: the code's letters read; its passes are in gates from 0 on; those that go down are followed by a pass.
-/
import Derived.Test.YtlmdfmnbcndhoaaGreatDoorWs31
import Derived.Test.YtlmdfmnbcndhoaaGreatDoorWs26
namespace Go.Proofs.YtlmdfmnbcndhoaaGreatDoor
open Go.RowKit
def posedF (F:List Fg) (re lo K:Int) (L:List Lt):Bool:=frB F re lo&&(checkE K L==0)&&(K==(F.length:Int))&&posedB L
def posedE (F:List Fg) (re lo K:Int) (L:List Lt):Int:=if frB F re lo=false then 2 else if checkE K L≠0 then checkE K L else if posedF F re lo K L then 0 else 2
theorem check_is {K E:Int} {A:Option Addr} {n c:Nat} {L:List Lt} (h:checkE K L=E) (w:World) (hA:Lets w A n L):Calls Tryz.prog 122 #[.agg #[.int .i64 K,.slice A n c]] w fun e w'=>e=.returned (.int .i64 E)∧Below w.heap.size w w':=by
 subst h;exact code_Check K A n c L w hA
theorem posed_is {K:Int} {A:Option Addr} {n c:Nat} {L:List Lt} {b:Bool} (h:posedB L=b) (w:World) (hA:Lets w A n L) (h0:checkE K L=0):Calls Tryz.prog 130 #[.agg #[.int .i64 K,.slice A n c]] w fun e w'=>e=.returned (.bool b)∧Below w.heap.size w w':=by
 have ht:=tame_of_check h0
 have hl:=hA.len
 subst h
 exact hand_posed K A n c L w hA (by have:=ht.len;omega) (fun i hi hp=>by have:=ht.pass i (by omega) hp;have:=ht.hi;omega)
set_option maxHeartbeats 3200000 in
theorem hand_Posed (A:Option Addr) (n c:Nat) (F:List Fg) (re lo K:Int) (B:Option Addr) (m d:Nat) (L:List Lt) (w:World) (hA:Fgs w A n F) (hc:n≤c) (hB:Lets w B m L) :
  Calls Tryz.prog 83 #[frV A n c re lo,.agg #[.int .i64 K,.slice B m d]] w fun e w'=>e=.returned (.bool (posedF F re lo K L))∧Below w.heap.size w w':=by
 have hb0:Below w.heap.size w ((w.alloc (.cells #[.slice A n c,.int .i64 re,.int .i64 lo] 24)).alloc (.cells #[.int .i64 K,.slice B m d] 55)):=((Below.refl _ _).alloc (Nat.le_refl _) _).alloc (by simp) _
 have hk0:Blk ((w.alloc (.cells #[.slice A n c,.int .i64 re,.int .i64 lo] 24)).alloc (.cells #[.int .i64 K,.slice B m d] 55)) w.heap.size 24 #[.slice A n c,.int .i64 re,.int .i64 lo]:=(Blk.new w _ _).alloc _
 have hk1:Blk ((w.alloc (.cells #[.slice A n c,.int .i64 re,.int .i64 lo] 24)).alloc (.cells #[.int .i64 K,.slice B m d] 55)) (w.heap.size+1) 55 #[.int .i64 K,.slice B m d]:=heap_alloc2_new w _ _
 have hFl:=hA.len
 obtain ⟨v,hv⟩:∃v,frB F re lo=v:=⟨_,rfl⟩
 have HV:=Lib.hid (fun wx (hx:Fgs wx A n F)=>valid_is hv A n c wx hx hc)
 have HR:=Lib.hid (show posedF F re lo K L=(v&&(checkE K L==0)&&(K==(n:Int))&&posedB L) by unfold posedF;rw [hv,hFl])
 rw [HR.out]
 clear hv hFl
 cases v with
 | false =>
  go_enter Tryz.func83,Tryz.ntmps83
  go_wp2_with fail
  generalize ((w.alloc (.cells #[.slice A n c,.int .i64 re,.int .i64 lo] 24)).alloc (.cells #[.int .i64 K,.slice B m d] 55))=Y at hb0 hk0 hk1 ⊢
  refine (HV.out _ (hA.below hb0)).mono ?_
  rintro e Y2 ⟨rfl,hb2⟩
  have hb3:=below_chain hb0 hb2 hb0.size
  clear hb2 hk0 hk1
  go_wp2_with fail
  go_ret
  exact ⟨rfl,hb3⟩
 | true =>
  obtain ⟨E,hE⟩:∃E,checkE K L=E:=⟨_,rfl⟩
  have HC:=Lib.hid (fun wx (hx:Lets wx B m L)=>check_is (c:=d) hE wx hx)
  rw [hE]
  have HE:=Lib.hid hE
  clear hE HR
  by_cases h0:E=0
  ·subst h0
   by_cases hK:K=(n:Int)
   ·have q1:(K==(n:Int))=true:=by simpa using hK
    obtain ⟨p,hp⟩:∃p,posedB L=p:=⟨_,rfl⟩
    have HP:=Lib.hid (fun wx (hx:Lets wx B m L)=>posed_is (c:=d) hp wx hx HE.out)
    rw [hp]
    clear hp hK
    go_enter Tryz.func83,Tryz.ntmps83
    go_wp2_with fail
    generalize ((w.alloc (.cells #[.slice A n c,.int .i64 re,.int .i64 lo] 24)).alloc (.cells #[.int .i64 K,.slice B m d] 55))=Y at hb0 hk0 hk1 ⊢
    refine (HV.out _ (hA.below hb0)).mono ?_
    rintro e Y2 ⟨rfl,hb2⟩
    have hb3:=below_chain hb0 hb2 hb0.size
    have k2:=hk0.below hb2 hk0.lt
    have k3:=hk1.below hb2 hk1.lt
    clear hb2 hk0 hk1
    have c0:Y2.cell? ⟨w.heap.size+1,0,none⟩=some (.int .i64 K):=(k3.cell 0).trans rfl
    have c1:Y2.cell? ⟨w.heap.size+1,1,none⟩=some (.slice B m d):=(k3.cell 1).trans rfl
    go_wp2_with fail
    refine (HC.out _ (hB.below hb3)).mono ?_
    rintro e Y3 ⟨rfl,hb4⟩
    have hb5:=below_chain hb3 hb4 hb3.size
    have k4:=k2.below hb4 k2.lt
    have k5:=k3.below hb4 k3.lt
    clear hb4 k2 k3 c0 c1 hb3
    have c0:Y3.cell? ⟨w.heap.size+1,0,none⟩=some (.int .i64 K):=(k5.cell 0).trans rfl
    have c1:Y3.cell? ⟨w.heap.size+1,1,none⟩=some (.slice B m d):=(k5.cell 1).trans rfl
    have c2:Y3.cell? ⟨w.heap.size,0,none⟩=some (.slice A n c):=(k4.cell 0).trans rfl
    go_wp2_with fail
    refine (HP.out _ (hB.below hb5)).mono ?_
    rintro e Y4 ⟨rfl,hb6⟩
    have hb7:=below_chain hb5 hb6 hb5.size
    clear hb5 hb6 k4 k5 c0 c1 c2
    go_wp2_with fail
    go_ret
    exact ⟨by rw [q1];simp,hb7⟩
   ·have q1:(K==(n:Int))=false:=by simpa using hK
    clear hK
    go_enter Tryz.func83,Tryz.ntmps83
    go_wp2_with fail
    generalize ((w.alloc (.cells #[.slice A n c,.int .i64 re,.int .i64 lo] 24)).alloc (.cells #[.int .i64 K,.slice B m d] 55))=Y at hb0 hk0 hk1 ⊢
    refine (HV.out _ (hA.below hb0)).mono ?_
    rintro e Y2 ⟨rfl,hb2⟩
    have hb3:=below_chain hb0 hb2 hb0.size
    have k2:=hk0.below hb2 hk0.lt
    have k3:=hk1.below hb2 hk1.lt
    clear hb2 hk0 hk1
    have c0:Y2.cell? ⟨w.heap.size+1,0,none⟩=some (.int .i64 K):=(k3.cell 0).trans rfl
    have c1:Y2.cell? ⟨w.heap.size+1,1,none⟩=some (.slice B m d):=(k3.cell 1).trans rfl
    go_wp2_with fail
    refine (HC.out _ (hB.below hb3)).mono ?_
    rintro e Y3 ⟨rfl,hb4⟩
    have hb5:=below_chain hb3 hb4 hb3.size
    have k4:=k2.below hb4 k2.lt
    have k5:=k3.below hb4 k3.lt
    clear hb4 k2 k3 c0 c1 hb3
    have c0:Y3.cell? ⟨w.heap.size+1,0,none⟩=some (.int .i64 K):=(k5.cell 0).trans rfl
    have c2:Y3.cell? ⟨w.heap.size,0,none⟩=some (.slice A n c):=(k4.cell 0).trans rfl
    go_wp2_with fail
    go_ret
    exact ⟨by rw [q1];simp,hb5⟩
  ·have q1:(E==0)=false:=by simpa using h0
   clear h0
   go_enter Tryz.func83,Tryz.ntmps83
   go_wp2_with fail
   generalize ((w.alloc (.cells #[.slice A n c,.int .i64 re,.int .i64 lo] 24)).alloc (.cells #[.int .i64 K,.slice B m d] 55))=Y at hb0 hk0 hk1 ⊢
   refine (HV.out _ (hA.below hb0)).mono ?_
   rintro e Y2 ⟨rfl,hb2⟩
   have hb3:=below_chain hb0 hb2 hb0.size
   have k3:=hk1.below hb2 hk1.lt
   clear hb2 hk0 hk1
   have c0:Y2.cell? ⟨w.heap.size+1,0,none⟩=some (.int .i64 K):=(k3.cell 0).trans rfl
   have c1:Y2.cell? ⟨w.heap.size+1,1,none⟩=some (.slice B m d):=(k3.cell 1).trans rfl
   go_wp2_with fail
   refine (HC.out _ (hB.below hb3)).mono ?_
   rintro e Y3 ⟨rfl,hb4⟩
   have hb5:=below_chain hb3 hb4 hb3.size
   clear hb4 k3 c0 c1 hb3
   go_wp2_with fail
   go_ret
   exact ⟨by rw [q1];simp,hb5⟩
theorem handPosed_is {A:Option Addr} {n c:Nat} {F:List Fg} {re lo K:Int} {B:Option Addr} {m d:Nat} {L:List Lt} {b:Bool} (h:posedF F re lo K L=b) (w:World) (hA:Fgs w A n F) (hc:n≤c) (hB:Lets w B m L) :
  Calls Tryz.prog 83 #[frV A n c re lo,.agg #[.int .i64 K,.slice B m d]] w fun e w'=>e=.returned (.bool b)∧Below w.heap.size w w':=by
 subst h;exact hand_Posed A n c F re lo K B m d L w hA hc hB
set_option maxHeartbeats 3200000 in
theorem notes_posed (A:Option Addr) (n c:Nat) (F:List Fg) (re lo K:Int) (B:Option Addr) (m d:Nat) (L:List Lt) (w:World) (hA:Fgs w A n F) (hc:n≤c) (hB:Lets w B m L) :
  Calls Tryz.prog 74 #[frV A n c re lo,.agg #[.int .i64 K,.slice B m d]] w fun e w'=>e=.returned (.int .i64 (posedE F re lo K L))∧Below w.heap.size w w':=by
 have hb0:Below w.heap.size w ((w.alloc (.cells #[.slice A n c,.int .i64 re,.int .i64 lo] 24)).alloc (.cells #[.int .i64 K,.slice B m d] 55)):=((Below.refl _ _).alloc (Nat.le_refl _) _).alloc (by simp) _
 have hk0:Blk ((w.alloc (.cells #[.slice A n c,.int .i64 re,.int .i64 lo] 24)).alloc (.cells #[.int .i64 K,.slice B m d] 55)) w.heap.size 24 #[.slice A n c,.int .i64 re,.int .i64 lo]:=(Blk.new w _ _).alloc _
 have hk1:Blk ((w.alloc (.cells #[.slice A n c,.int .i64 re,.int .i64 lo] 24)).alloc (.cells #[.int .i64 K,.slice B m d] 55)) (w.heap.size+1) 55 #[.int .i64 K,.slice B m d]:=heap_alloc2_new w _ _
 obtain ⟨v,hv⟩:∃v,frB F re lo=v:=⟨_,rfl⟩
 obtain ⟨E,hE⟩:∃E,checkE K L=E:=⟨_,rfl⟩
 obtain ⟨p,hp⟩:∃p,posedF F re lo K L=p:=⟨_,rfl⟩
 have HV:=Lib.hid (fun wx (hx:Fgs wx A n F)=>valid_is hv A n c wx hx hc)
 have HC:=Lib.hid (fun wx (hx:Lets wx B m L)=>check_is (c:=d) hE wx hx)
 have HP:=Lib.hid (fun wx (hx:Fgs wx A n F) (hy:Lets wx B m L)=>handPosed_is (d:=d) hp wx hx hc hy)
 have HR:=Lib.hid (show posedE F re lo K L=if v=false then 2 else if E≠0 then E else if p then 0 else 2 by unfold posedE;rw [hv,hE,hp])
 clear hv hE hp
 go_enter Tryz.func74,Tryz.ntmps74
 go_wp2_with fail
 generalize ((w.alloc (.cells #[.slice A n c,.int .i64 re,.int .i64 lo] 24)).alloc (.cells #[.int .i64 K,.slice B m d] 55))=Y at hb0 hk0 hk1 ⊢
 refine (HV.out _ (hA.below hb0)).mono ?_
 rintro e Y2 ⟨rfl,hb2⟩
 have hb3:=below_chain hb0 hb2 hb0.size
 have k2:=hk0.below hb2 hk0.lt
 have k3:=hk1.below hb2 hk1.lt
 clear hb2 hk0 hk1 hb0
 cases v with
 | false =>
  have HR2:=Lib.hid (HR.out.trans (if_pos rfl))
  clear HR
  go_wp2_with fail
  go_ret
  exact ⟨retI HR2.out.symm,hb3⟩
 | true =>
  have c0:Y2.cell? ⟨w.heap.size+1,0,none⟩=some (.int .i64 K):=(k3.cell 0).trans rfl
  have c1:Y2.cell? ⟨w.heap.size+1,1,none⟩=some (.slice B m d):=(k3.cell 1).trans rfl
  go_wp2_with fail
  refine (HC.out _ (hB.below hb3)).mono ?_
  rintro e Y3 ⟨rfl,hb4⟩
  have hb5:=below_chain hb3 hb4 hb3.size
  have k4:=k2.below hb4 k2.lt
  have k5:=k3.below hb4 k3.lt
  clear hb4 k2 k3 c0 c1 hb3
  by_cases h0:E=0
  ·subst h0
   have c0:Y3.cell? ⟨w.heap.size+1,0,none⟩=some (.int .i64 K):=(k5.cell 0).trans rfl
   have c1:Y3.cell? ⟨w.heap.size+1,1,none⟩=some (.slice B m d):=(k5.cell 1).trans rfl
   have c2:Y3.cell? ⟨w.heap.size,0,none⟩=some (.slice A n c):=(k4.cell 0).trans rfl
   have c3:Y3.cell? ⟨w.heap.size,1,none⟩=some (.int .i64 re):=(k4.cell 1).trans rfl
   have c4:Y3.cell? ⟨w.heap.size,2,none⟩=some (.int .i64 lo):=(k4.cell 2).trans rfl
   go_wp2_with fail
   refine (HP.out _ (hA.below hb5) (hB.below hb5)).mono ?_
   rintro e Y4 ⟨rfl,hb6⟩
   have hb7:=below_chain hb5 hb6 hb5.size
   clear hb5 hb6 k4 k5 c0 c1 c2 c3 c4
   cases p with
   | false =>
    have HR2:=Lib.hid (show posedE F re lo K L=2 by rw [HR.out];simp)
    clear HR
    go_wp2_with fail
    go_ret
    exact ⟨retI HR2.out.symm,hb7⟩
   | true =>
    have HR2:=Lib.hid (show posedE F re lo K L=0 by rw [HR.out];simp)
    clear HR
    go_wp2_with fail
    go_ret
    exact ⟨retI HR2.out.symm,hb7⟩
  ·have q1:(E != 0)=true:=by simpa using h0
   have HR2:=Lib.hid (show posedE F re lo K L=E by rw [HR.out,if_neg (by simp),if_pos h0])
   clear h0 HR
   go_wp2_with fail
   go_ret
   exact ⟨retI HR2.out.symm,hb5⟩
theorem posedE_zero {F:List Fg} {re lo K:Int} {L:List Lt} (h:posedE F re lo K L=0):posedF F re lo K L=true∧frOk F re lo∧checkE K L=0∧K=(F.length:Int)∧posedB L=true:=by
 have hp:posedF F re lo K L=true:=by
  unfold posedE at h
  split at h
  ·omega
  ·split at h
   ·rename_i h1 h2;exact absurd h h2
   ·split at h
    ·rename_i h3;exact h3
    ·omega
 have hq:=hp
 unfold posedF at hq
 simp only [Bool.and_eq_true,beq_iff_eq] at hq
 exact ⟨hp,frB_iff.1 hq.1.1.1,hq.1.1.2,hq.1.2,hq.2⟩
end Go.Proofs.YtlmdfmnbcndhoaaGreatDoor
namespace Go.Proofs.YtlmdfmnbcndhoaaGreatDoor
open Go.RowKit
/-- An item: the finger (0: a visit of a crossing), the number, the mark. -/
structure Bi where
 f:Int
 n:Int
 b:Bool
instance:DecidableEq Bi:=fun x y =>
 if h:x.f=y.f∧x.n=y.n∧x.b=y.b then .isTrue (by cases x;cases y;simp at h;simp [h])
 else .isFalse (fun e=>h (by subst e;simp))
def bi0:Bi:=⟨0,0,false⟩
def ba (l:List Bi) (i:Nat):Bi:=(l[i]?).getD bi0
theorem ba_get {l:List Bi} {i:Nat} (h:i < l.length):l[i]? = some (ba l i):=by unfold ba;rw [List.getElem?_eq_getElem h];rfl
theorem ba_of {l:List Bi} {i:Nat} {x:Bi} (h:l[i]? = some x):ba l i=x:=by unfold ba;rw [h];rfl
/-- The parts of a word of a sequence. -/
def cutI (x:List UInt8):List UInt8×List UInt8×Bool:=Lib.cut x.dropLast [46]
def lastI (x:List UInt8) (c:UInt8):Bool:=decide (x.getLast? = some c)
noncomputable def bitF (L:List Fg) (x:List UInt8):Bi :=
 if (cutI x).2.2 then ⟨if fidx L (cutI x).1=0 then -1 else (fidx L (cutI x).1:Int),(countF (cutI x).2.1).1,lastI x 62⟩
 else ⟨0,(countF x.dropLast).1,lastI x 111⟩
noncomputable def bitB (x:List UInt8):Bool :=
 if (cutI x).2.2 then (fbad (cutI x).1||!(lastI x 62||lastI x 60))||!(countF (cutI x).2.1).2
 else !(lastI x 111||lastI x 117)||!(countF x.dropLast).2
def bitV (x:List UInt8):Bool:=!(cutI x).2.2
noncomputable def bitL (L:List Fg) (x:List UInt8):Bool:=(cutI x).2.2&&flost L (cutI x).1
def headV (T:List (List UInt8)):Bool:=match T with
 | []=>false
 | x :: _=>bitV x
noncomputable def bitsB (T:List (List UInt8)):Bool:=T.any bitB||headV T
noncomputable def bitsL (L:List Fg) (T:List (List UInt8)):Bool:=T.any (bitL L)
theorem bitsB_snoc (T:List (List UInt8)) (x:List UInt8):bitsB (T++[x])=(bitsB T||(bitB x||(T.isEmpty&&bitV x))):=by
 unfold bitsB
 cases T with
 | nil=>simp [headV]
 | cons y T =>
  simp only [List.cons_append,List.any_cons,List.any_append,List.any_nil,headV,List.isEmpty_cons,Bool.false_and,Bool.or_false]
  cases bitB y<;>cases T.any bitB<;>cases bitB x<;>cases bitV y<;>rfl
theorem bitsL_snoc (L:List Fg) (T:List (List UInt8)) (x:List UInt8):bitsL L (T++[x])=(bitsL L T||bitL L x):=by simp [bitsL]
/-- The number and the mark do not count together: a loop is there once. -/
def bkey (b:Bi):Bi:=if 0 < b.f then ⟨b.f,b.n,false⟩ else b
def cntF (l:List Bi) (f:Int):Nat:=l.countP fun b=>decide (0 < b.f)&&b.f==f
def visN (l:List Bi):Nat:=l.countP fun b=>!decide (0 < b.f)
def manyL (k:Nat) (l:List Bi):List Int:=(List.range (k+2)).map fun f:Nat=>((cntF l (f:Int):Nat):Int)
def overB (l:List Bi) (b:Bi):Bool:=(decide (0 < b.f)&&decide ((cntF l b.f:Int) < b.n))||(b.f==0&&(decide (((visN l / 2:Nat):Int) < b.n)||visN l % 2 != 0))
def compB (l:List Bi):Bool:=decide ((l.map bkey).Nodup)&&l.all fun b=>!overB l b
/-- The letters of an item. -/
def ia (M:List Int) (i:Int):Int:=(M[i.toNat]?).getD 0
def bitLs (M:List Int) (b:Bi):List Lt :=
 if b.f=0 then [⟨2,0,0,b.n,0,b.b⟩]
 else if b.b then [⟨1,b.f-1,ia M (b.f-1)+b.n,0,0,false⟩,⟨1,b.f,ia M b.f-b.n+1,0,0,false⟩]
 else [⟨1,b.f,ia M b.f-b.n+1,0,0,false⟩,⟨1,b.f-1,ia M (b.f-1)+b.n,0,0,false⟩]
def buildB (M:List Int) (l:List Bi):List Lt:=l.flatMap (bitLs M)
theorem bitLs_len (M:List Int) (b:Bi):(bitLs M b).length≤2:=by
 unfold bitLs
 split
 ·simp
 ·split<;>simp
theorem buildB_len (M:List Int) (l:List Bi):(buildB M l).length≤2*l.length:=by
 unfold buildB
 induction l with
 | nil=>simp
 | cons b l ih=>rw [List.flatMap_cons,List.length_append,List.length_cons];have:=bitLs_len M b;omega
theorem cntF_le (l:List Bi) (f:Int):cntF l f≤l.length:=List.countP_le_length
theorem visN_le (l:List Bi):visN l≤l.length:=List.countP_le_length
theorem many_at (k:Nat) (l:List Bi) {f:Nat} (h:f < k+2):(manyL k l)[f]? = some ((cntF l (f:Int):Nat):Int):=by
 unfold manyL
 rw [List.getElem?_map,List.getElem?_range h];rfl
theorem many_len (k:Nat) (l:List Bi):(manyL k l).length=k+2:=by simp [manyL]
theorem cnt_yes {l:List Bi} {b:Bi} {f:Int} (h:0 < b.f) (e:b.f=f):cntF (l++[b]) f=cntF l f+1:=by
 unfold cntF
 rw [List.countP_append,List.countP_singleton,if_pos (by simp [e];omega)]
theorem cnt_no {l:List Bi} {b:Bi} {f:Int} (h:¬(0 < b.f∧b.f=f)):cntF (l++[b]) f=cntF l f:=by
 unfold cntF
 rw [List.countP_append,List.countP_singleton,if_neg (by simpa using h),Nat.add_zero]
theorem vis_yes {l:List Bi} {b:Bi} (h:¬0 < b.f):visN (l++[b])=visN l+1:=by
 unfold visN
 rw [List.countP_append,List.countP_singleton,if_pos (by simpa using h)]
theorem vis_no {l:List Bi} {b:Bi} (h:0 < b.f):visN (l++[b])=visN l:=by
 unfold visN
 rw [List.countP_append,List.countP_singleton,if_neg (by simp [h]),Nat.add_zero]
theorem many_set (k:Nat) (l:List Bi) {b:Bi} {f:Nat} (h0:0 < b.f) (e:b.f=(f:Int)):(manyL k l).set f ((cntF l (f:Int):Int)+1)=manyL k (l++[b]):=by
 apply List.ext_getElem?
 intro i
 rw [List.getElem?_set]
 by_cases hi:i < k+2
 ·rw [many_at k _ hi]
  by_cases hf:f=i
  ·subst hf
   rw [if_pos rfl,many_len,if_pos hi,many_at k _ hi,cnt_yes h0 e];rfl
  ·rw [if_neg hf,many_at k _ hi,cnt_no (fun h=>hf (by omega))]
 ·rw [List.getElem?_eq_none (by rw [many_len];omega),List.getElem?_eq_none (by rw [many_len];omega),many_len]
  split
  ·rename_i h1;rw [h1,if_neg hi]
  ·rfl
theorem many_same (k:Nat) (l:List Bi) {b:Bi} (h0:¬0 < b.f):manyL k (l++[b])=manyL k l:=by
 unfold manyL
 exact List.map_congr_left fun f _=>by rw [cnt_no (fun h=>h0 h.1)]
/-- The signs that the bits of a number say. -/
def sgI (cr nu:Nat) (l:Lt):Int:=if (nu >>> (cr-l.id.toNat)) % 2=1 then 1 else -1
def sgL (cr nu:Nat) (l:Lt):Lt:=if isC l then { l with sign:=sgI cr nu l } else l
def signedL (cr nu:Nat) (L:List Lt):List Lt:=L.map (sgL cr nu)
/-- The loops of a finger: the passes that go down beside it. -/
def maxG (L:List Lt) (i:Nat):Int:=if (la L i).gate≤(la L (i+1)).gate then (la L (i+1)).gate else (la L i).gate
def lpC (L:List Lt) (g:Int) (m:Nat):Nat:=countTo (fun i=>(isP (la L i)&&dwn L i)&&maxG L i==g) m
def loopsL (K:Nat) (L:List Lt) (m:Nat):List Int:=(List.range (K+2)).map fun g:Nat=>((lpC L (g:Int) m:Nat):Int)
theorem loops_at (K:Nat) (L:List Lt) (m:Nat) {g:Nat} (h:g < K+2):(loopsL K L m)[g]? = some ((lpC L (g:Int) m:Nat):Int):=by
 unfold loopsL
 rw [List.getElem?_map,List.getElem?_range h];rfl
theorem loops_len (K:Nat) (L:List Lt) (m:Nat):(loopsL K L m).length=K+2:=by simp [loopsL]
theorem lpC_le (L:List Lt) (g:Int) (m:Nat):lpC L g m≤m:=countTo_le _ _
theorem loops_set (K:Nat) (L:List Lt) {m g:Nat} (h:(isP (la L m)&&dwn L m)=true) (e:maxG L m=(g:Int)):(loopsL K L m).set g ((lpC L (g:Int) m:Int)+1)=loopsL K L (m+1):=by
 apply List.ext_getElem?
 intro i
 rw [List.getElem?_set]
 by_cases hi:i < K+2
 ·rw [loops_at K L _ hi]
  by_cases hf:g=i
  ·subst hf
   rw [if_pos rfl,loops_len,if_pos hi,loops_at K L _ hi,show lpC L (g:Int) (m+1)=lpC L (g:Int) m+1 from countTo_yes (by rw [h,e];simp)];rfl
  ·rw [if_neg hf,loops_at K L _ hi,show lpC L (i:Int) (m+1)=lpC L (i:Int) m from countTo_no (by rw [h,e];simp;omega)]
 ·rw [List.getElem?_eq_none (by rw [loops_len];omega),List.getElem?_eq_none (by rw [loops_len];omega),loops_len]
  split
  ·rename_i h1;rw [h1,if_neg hi]
  ·rfl
theorem loops_same (K:Nat) (L:List Lt) {m:Nat} (h:(isP (la L m)&&dwn L m)=false):loopsL K L (m+1)=loopsL K L m:=by
 unfold loopsL
 exact List.map_congr_left fun g _=>by rw [show lpC L (g:Int) (m+1)=lpC L (g:Int) m from countTo_no (by rw [h];rfl)]
theorem loops_zero (K:Nat) (L:List Lt):loopsL K L 0=List.replicate (K+2) 0:=by
 unfold loopsL
 rw [List.eq_replicate_iff]
 exact ⟨by simp,fun b hb=>by
  obtain ⟨g,_,rfl⟩:=List.mem_map.1 hb
  simp [lpC,countTo]⟩
theorem many_nil (k:Nat):manyL k []=List.replicate (k+2) 0:=by
 unfold manyL
 rw [List.eq_replicate_iff]
 exact ⟨by simp,fun b hb=>by
  obtain ⟨g,_,rfl⟩:=List.mem_map.1 hb
  simp [cntF]⟩
/-- The sequence of a code. -/
def leftL (L:List Lt) (i:Nat):Lt:=if (la L (i+1)).gate < (la L i).gate then la L (i+1) else la L i
def arrB (L:List Lt) (i:Nat):UInt8:=if (la L (i+1)).gate < (la L i).gate then 60 else 62
def visW (l:Lt):List UInt8:=Lib.itoa l.id++[if l.over then 111 else 117]
def loopW2 (F:List Fg) (L:List Lt) (i:Nat):List UInt8:=nmF F ((leftL L i).gate+1)++[46]++Lib.itoa ((leftL L i).rank-(lpC L (leftL L i).gate L.length:Int))++[arrB L i]
def seqAt (F:List Fg) (L:List Lt) (i:Nat):List (List UInt8) :=
 if isC (la L i) then [visW (la L i)] else if dwn L i then [loopW2 F L i] else []
def seqTo (F:List Fg) (L:List Lt) (m:Nat):List (List UInt8):=(List.range m).flatMap (seqAt F L)
theorem seqTo_succ (F:List Fg) (L:List Lt) (m:Nat):seqTo F L (m+1)=seqTo F L m++seqAt F L m:=by simp [seqTo,List.range_succ]
def bareW:List UInt8:=[98,97,114,101]
def seqF (F:List Fg) (L:List Lt):List UInt8:=if L.length=0 then bareW else Lib.join (seqTo F L L.length) [32]
end Go.Proofs.YtlmdfmnbcndhoaaGreatDoor
namespace Go.Proofs.YtlmdfmnbcndhoaaGreatDoor
/-- The passes that go down are followed by a pass. -/
def Arcs (L:List Lt):Prop:=∀i,i < L.length→isP (la L i)=true→dwn L i=true→i+1 < L.length∧isP (la L (i+1))=true
section
variable {K:Int} {L:List Lt} {a:Nat}
theorem not_isC {v:Nat} (h:isP (la L v)=true) (hc:isC (la L v)=true):False:=by rw [isP_isC h] at hc;cases hc
theorem not_isP {v:Nat} (h:isC (la L v)=true):isP (la L v)=false:=by
 cases hq:isP (la L v) with
 | false=>rfl
 | true=>exact (not_isC hq h).elim
variable {X:Nat→Nat}
end
section
variable {K:Int} {L:List Lt}
end
end Go.Proofs.YtlmdfmnbcndhoaaGreatDoor
namespace Go.Proofs.YtlmdfmnbcndhoaaGreatDoor
open Go.RowKit
/-- What is asked of a code: it is small, its gates are on the axis, its passes that go down are followed by a pass. -/
structure Lps (K:Nat) (L:List Lt):Prop where
 len:L.length≤400
 k40:K≤40
 gate:∀i,i < L.length→isP (la L i)=true→0≤(la L i).gate∧(la L i).gate≤K
 arcs:Arcs L
def LoopsGives (w:World) (K:Nat) (L:List Lt) (e:Ending) (w':World):Prop :=
 ∃g,e=.returned (.slice (some ⟨g,0,none⟩) (K+2) (K+2))∧OwnI w' w.heap.size g (K+2) (loopsL K L L.length)∧Below w.heap.size w w'
theorem wrap_n1 {v:Nat} (h:v≤100000):IntKind.i64.wrap ((v:Int)+1)=(v:Int)+1:=IntWalk.i64_in _ (by omega)
set_option maxHeartbeats 6400000 in
set_option maxRecDepth 100000 in
theorem notes_loops (K:Nat) (A:Option Addr) (n c:Nat) (L:List Lt) (w:World) (hA:Lets w A n L) (hL:Lps K L) :
  Calls Tryz.prog 123 #[.agg #[.int .i64 (K:Int),.slice A n c]] w (LoopsGives w K L):=by
 have hLn:L.length=n:=hA.len
 have hn:n≤400:=by have:=hL.len;omega
 have hK4:=hL.k40
 have hb0:=(Below.refl w.heap.size w).alloc (Nat.le_refl _) (.cells #[.int .i64 (K:Int),.slice A n c] 55)
 have hk0:Blk (w.alloc (.cells #[.int .i64 (K:Int),.slice A n c] 55)) w.heap.size 55 #[.int .i64 (K:Int),.slice A n c]:=Blk.new _ _ _
 have c0:(w.alloc (.cells #[.int .i64 (K:Int),.slice A n c] 55)).cell? ⟨w.heap.size,0,none⟩=some (.int .i64 (K:Int)):=(hk0.cell 0).trans rfl
 have HN:=Lib.hid hLn
 have HL:=Lib.hid hL
 have HA:=Lib.hid hA
 have hlw:w.heap.size < (w.alloc (.cells #[.int .i64 (K:Int),.slice A n c] 55)).heap.size:=hk0.lt
 have w1:wrap64 ((K:Int)+2)=((K+2:Nat):Int):=by unfold wrap64;omega
 clear hLn hL hA
 go_enter Tryz.func123,Tryz.ntmps123
 go_upto_region 1 with fail
 generalize w.alloc (.cells #[.int .i64 (K:Int),.slice A n c] 55)=Y at hb0 hk0 c0 hlw ⊢
 go_upto_region 2 with (refine makeIW rfl _ _ rfl (K+2) _ rfl rfl (by first | rfl | exact w1 | (simp;done) | omega) (by omega) (base:=Y.heap.size) (Nat.le_refl _) ?_;intro Y2 hO2 hb2 hs2)
 have hO0:OwnI Y2 Y.heap.size Y.heap.size (K+2) (loopsL K L 0):=by rw [loops_zero];exact hO2
 have hk2:=hk0.below hb2 hlw
 have hby:=below_chain hb0 hb2 hb0.size
 have c1:Y2.cell? ⟨w.heap.size,1,none⟩=some (.slice A n c):=(hk2.cell 1).trans rfl
 have hlw2:w.heap.size < Y2.heap.size:=hk2.lt
 have hwy:w.heap.size < Y.heap.size:=hlw
 clear hO2 hs2 c0 hk0 hlw hb2
 generalize Y.heap.size=g at hO0 hwy ⊢
 have hgl:g < Y2.heap.size:=hO0.lt
 have hb2:Below g Y2 Y2:=Below.refl _ _
 go_wp2_with fail
 clear c1
 go_loopw [4,14] (fun v4 v14 wv=>∃(i:Nat) (X:World),X=wv∧i≤n∧v14=.int .i64 i∧v4=.bool (!dwn L i)∧OwnI X g g (K+2) (loopsL K L i)∧Below g Y2 X) (fun _ v14 _=>n-(intOf v14).toNat)
 case atStart=>exact ⟨0,_,rfl,by omega,rfl,rfl,hO0,hb2⟩
 case round =>
  obtain ⟨i,X,hX,hi,rfl,rfl,hO,hb⟩:=hrel
  subst hX
  clear hO0
  have hkx:=hk2.below hb hwy
  have hAx:Lets X A n L:=HA.out.below ((hby.trans (hb.mono (by omega))))
  have hXg:g < X.heap.size:=hO.lt
  by_cases hlt:i < n
  ·have j0:(0:Int)≤(i:Int):=by omega
   have j1:(i:Int) < (n:Int):=by omega
   obtain ⟨ga,o,rfl,hgl,hat,hok⟩:=hAx.at_ hlt
   obtain ⟨x0,x1,x2,x3,x4,x5⟩:=hat
   have hbl:=(Below.refl X.heap.size X).alloc (Nat.le_refl _) (.cells #[.int .i64 (la L i).kind,.int .i64 (la L i).gate,.int .i64 (la L i).rank,.int .i64 (la L i).id,.int .i64 (la L i).sign,.bool (la L i).over] 76)
   have hl6:Blk (X.alloc (.cells #[.int .i64 (la L i).kind,.int .i64 (la L i).gate,.int .i64 (la L i).rank,.int .i64 (la L i).id,.int .i64 (la L i).sign,.bool (la L i).over] 76)) X.heap.size 76 #[.int .i64 (la L i).kind,.int .i64 (la L i).gate,.int .i64 (la L i).rank,.int .i64 (la L i).id,.int .i64 (la L i).sign,.bool (la L i).over]:=Blk.new _ _ _
   have hO1:=hO.below hbl hXg
   have hk1:=hkx.below hbl hkx.lt
   have hA1:=hAx.below hbl
   have hb1:=hb.trans (hbl.mono (Nat.le_of_lt hXg))
   have hg6:g < X.heap.size:=hXg
   obtain ⟨d,hd⟩:∃d,dwn L i=d:=⟨_,rfl⟩
   rw [hd]
   by_cases hk:(la L i).kind=1
   ·have q1:((la L i).kind != 1)=false:=by simpa using hk
    have hp:=isP_t hk
    have hdn:dwn L (i+1) = !d:=by rw [dwnP hp,hd]
    have HDN:=Lib.hid hdn
    cases d with
    | false =>
     have HS:=Lib.hid (show loopsL K L (i+1)=loopsL K L i from loops_same K L (by rw [hd,Bool.and_false]))
     clear hO hkx hAx hk1 hA1 hl6 hbl hk hp hd hdn
     go_wp2_with fail
     go_roundw
     case rel=>exact ⟨i+1,_,rfl,by omega,by go_num,by rw [HDN.out];rfl,by rw [HS.out];exact hO1,hb1⟩
     case measure=>simp [intOf];omega
    | true =>
     have hil:i < L.length:=by rw [HN.out];exact hlt
     obtain ⟨ha1,ha2⟩:=HL.out.arcs i hil hp hd
     have hi1:i+1 < n:=by rw [←HN.out];exact ha1
     have hg0:=HL.out.gate i hil hp
     have hg1:=HL.out.gate (i+1) ha1 ha2
     obtain ⟨gx,hgx⟩:∃m:Nat,(la L i).gate=(m:Int):=⟨(la L i).gate.toNat,by omega⟩
     obtain ⟨gy,hgy⟩:∃m:Nat,(la L (i+1)).gate=(m:Int):=⟨(la L (i+1)).gate.toNat,by omega⟩
     obtain ⟨m,hm,hm2,hm3⟩:∃m:Nat,max (gx:Int) (gy:Int)=(m:Int)∧m < K+2∧maxG L i=(m:Int):=by
      by_cases h:gx≤gy
      ·exact ⟨gy,by omega,by omega,by unfold maxG;rw [hgx,hgy,if_pos (by omega)]⟩
      ·exact ⟨gx,by omega,by omega,by unfold maxG;rw [hgx,hgy,if_neg (by omega)]⟩
     have hPD:(isP (la L i)&&dwn L i)=true:=by rw [hp,hd];rfl
     have c6:(X.alloc (.cells #[.int .i64 (la L i).kind,.int .i64 (la L i).gate,.int .i64 (la L i).rank,.int .i64 (la L i).id,.int .i64 (la L i).sign,.bool (la L i).over] 76)).cell? ⟨X.heap.size,1,none⟩=some (.int .i64 (gx:Int)):=by rw [←hgx];exact (hl6.cell 1).trans rfl
     have c1:(X.alloc (.cells #[.int .i64 (la L i).kind,.int .i64 (la L i).gate,.int .i64 (la L i).rank,.int .i64 (la L i).id,.int .i64 (la L i).sign,.bool (la L i).over] 76)).cell? ⟨w.heap.size,1,none⟩=some (.slice (some ⟨ga,o,none⟩) n c):=(hk1.cell 1).trans rfl
     have y1:(X.alloc (.cells #[.int .i64 (la L i).kind,.int .i64 (la L i).gate,.int .i64 (la L i).rank,.int .i64 (la L i).id,.int .i64 (la L i).sign,.bool (la L i).over] 76)).cell? ⟨ga,o+(i+1)*6+1,none⟩=some (.int .i64 (gy:Int)):=by rw [←hgy];exact (hA1.also hi1).1.gate
     have e1:=hO1.cell (loops_at K L i hm2)
     have z1:=hO1.frozen m
     have b1:=lpC_le L (m:Int) i
     have r1:=hO1.stored m ((lpC L (m:Int) i:Int)+1)
     rw [loops_set K L hPD hm3] at r1
     obtain ⟨v1,hv1⟩:∃v,lpC L (m:Int) i=v:=⟨_,rfl⟩
     rw [hv1] at e1 b1 r1
     have s1:=hb1.setCell (p:=⟨g,m,none⟩) (Nat.le_refl _) (.int .i64 ((v1:Int)+1))
     have p1:(0:Int)≤(i:Int)+1:=by omega
     have p2:(i:Int)+1 < (n:Int):=by omega
     have p3:IntKind.i64.wrap ((i:Int)+1)=(i:Int)+1:=wrap_n1 (by omega)
     have p4:(0:Int)≤(m:Int):=by omega
     have p6:(m:Int) < ((K+2:Nat):Int):=by omega
     have p7:(m:Int) < (K:Int)+2:=by omega
     have w7:IntKind.i64.wrap ((v1:Int)+1)=(v1:Int)+1:=wrap_n1 (by omega)
     have R1:=Lib.hid r1.drew
     have S1:=Lib.hid s1.drew
     clear hO hkx hAx hk1 hA1 hk hp hd hdn hgx hgy hv1 r1 s1 hg0 hg1 hl6 hbl hO1 hb1 ha2 hPD hm3
     go_upto_region 9 with fail
     clear x0 x1 x2 x3 x4 x5
     generalize X.alloc (.cells #[.int .i64 (la L i).kind,.int .i64 (la L i).gate,.int .i64 (la L i).rank,.int .i64 (la L i).id,.int .i64 (la L i).sign,.bool (la L i).over] 76)=X6 at c6 c1 y1 e1 z1 R1 S1 ⊢
     generalize X.heap.size=b6 at c6 ⊢
     go_region
     go_wp2_with fail
     go_roundw
     case rel=>exact ⟨i+1,_,rfl,by omega,by go_num,by rw [HDN.out];rfl,R1.out,S1.out⟩
     case measure=>simp [intOf];omega
   ·have q1:((la L i).kind != 1)=true:=by simpa using hk
    have hp:=isP_f hk
    have HS:=Lib.hid (show loopsL K L (i+1)=loopsL K L i from loops_same K L (by rw [hp,Bool.false_and]))
    have HDN:=Lib.hid (show dwn L (i+1)=d by rw [dwnC hp,hd])
    clear hO hkx hAx hk1 hA1 hl6 hbl hk hp hd
    go_wp2_with fail
    go_roundw
    case rel=>exact ⟨i+1,_,rfl,by omega,by go_num,by rw [HDN.out],by rw [HS.out];exact hO1,hb1⟩
    case measure=>simp [intOf];omega
  ·have j1:¬(i:Int) < (n:Int):=by omega
   have hin:i=n:=by omega
   have hOe:OwnI X w.heap.size g (K+2) (loopsL K L L.length):=by rw [HN.out,←hin];exact ⟨hO.blk,by omega,hO.len⟩
   have hbw:=hby.trans (hb.mono (by omega))
   clear hin hlt hO hkx hAx hb
   go_wp2_with fail
   go_ret
   exact ⟨g,rfl,hOe,hbw⟩
end Go.Proofs.YtlmdfmnbcndhoaaGreatDoor
