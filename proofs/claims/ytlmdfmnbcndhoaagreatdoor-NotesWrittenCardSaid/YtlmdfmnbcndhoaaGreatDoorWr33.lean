/-
  Plain: what a valid code's numbers keep to. No condition.
  Contracts: the program's Posed, posed (of notes). Conditions: the frame and the code's letters read.
  Plain: items of a sequence; the codes of items and the sequence of a code, as the program computes them. No program.
-/
import Derived.Test.YtlmdfmnbcndhoaaGreatDoorWr11
import Derived.Test.YtlmdfmnbcndhoaaGreatDoorWr32
import Derived.Test.YtlmdfmnbcndhoaaGreatDoorWr26
namespace Go.Proofs.YtlmdfmnbcndhoaaGreatDoor
/-- What a valid code's numbers keep to. -/
structure Tame (K:Int) (L:List Lt):Prop where
 lo:0≤K
 hi:K≤40
 len:L.length≤400
 pass:∀i,i < L.length→isP (la L i)=true→0≤(la L i).gate∧(la L i).gate≤K∧1≤(la L i).rank∧(la L i).rank≤400
 kinds:∀i,i < L.length→isP (la L i)=true∨isC (la L i)=true
 sign:∀i,i < L.length→isC (la L i)=true→(la L i).sign=1∨(la L i).sign = -1
theorem zDm {K:Int} {L:List Lt} (h:zAp K L=0):0≤K∧K≤40∧L.length≤400∧(L.length=0∨zAo K L=true):=by
 unfold zAp at h
 by_cases h1:400 < L.length∨200 < cN L L.length
 ·rw [if_pos h1] at h;cases h
 ·rw [if_neg h1] at h
  by_cases h2:K < 0∨40 < K
  ·rw [if_pos h2] at h;cases h
  ·rw [if_neg h2] at h
   by_cases h3:L.length=0
   ·exact ⟨by omega,by omega,by omega,.inl h3⟩
   ·rw [if_neg h3] at h
    cases hv:zAo K L with
    | true=>exact ⟨by omega,by omega,by omega,.inr rfl⟩
    | false=>rw [hv] at h;cases h
theorem zCh {K:Int} {L:List Lt} (h:zAp K L=0):Tame K L:=by
 obtain ⟨h1,h2,h3,h4⟩:=zDm h
 rcases h4 with h4 | h4
 ·exact ⟨h1,h2,h3,fun i hi=>by omega,fun i hi=>by omega,fun i hi=>by omega⟩
 ·rcases Nat.eq_zero_or_pos L.length with h0 | h0
  ·exact ⟨h1,h2,h3,fun i hi=>by omega,fun i hi=>by omega,fun i hi=>by omega⟩
  ·have g:=zCf h0 h4
   refine ⟨h1,h2,h3,fun i hi hp=>?_,g.kinds,fun i hi hc=>?_⟩
   ·have a1:=g.gates i hi hp
    have a2:=g.rank hp
    have a3:gN L (la L i).gate L.length≤L.length:=zCJ _ _
    omega
   ·unfold zAo at h4
    rw [←zBX] at h4
    simp only [Bool.and_eq_true] at h4
    have h5:=h4.1.2.1.1
    unfold zAx at h5
    have h6:=zAk.1 h5 i hi
    have k2:(la L i).kind=2:=by unfold isC at hc;simpa using hc
    unfold lpB at h6
    rw [if_neg (by omega),if_pos k2] at h6
    simp only [decide_eq_true_eq] at h6
    exact h6.2.2
end Go.Proofs.YtlmdfmnbcndhoaaGreatDoor
namespace Go.Proofs.YtlmdfmnbcndhoaaGreatDoor
open Go.RowKit
def zAU (F:List Fg) (re lo K:Int) (L:List Lt):Bool:=frB F re lo&&(zAp K L==0)&&(K==(F.length:Int))&&zCE L
def zBP (F:List Fg) (re lo K:Int) (L:List Lt):Int:=if frB F re lo=false then 2 else if zAp K L≠0 then zAp K L else if zAU F re lo K L then 0 else 2
theorem check_is {K E:Int} {A:Option Addr} {n c:Nat} {L:List Lt} (h:zAp K L=E) (w:World) (hA:Lets w A n L):Calls Tryz.prog 122 #[.agg #[.int .i64 K,.slice A n c]] w fun e w'=>e=.returned (.int .i64 E)∧Below w.heap.size w w':=by
 subst h;exact code_Check K A n c L w hA
theorem posed_is {K:Int} {A:Option Addr} {n c:Nat} {L:List Lt} {b:Bool} (h:zCE L=b) (w:World) (hA:Lets w A n L) (h0:zAp K L=0):Calls Tryz.prog 130 #[.agg #[.int .i64 K,.slice A n c]] w fun e w'=>e=.returned (.bool b)∧Below w.heap.size w w':=by
 have ht:=zCh h0
 have hl:=hA.len
 subst h
 exact hand_posed K A n c L w hA (by have:=ht.len;omega) (fun i hi hp=>by have:=ht.pass i (by omega) hp;have:=ht.hi;omega)
set_option maxHeartbeats 3200000 in
theorem hand_Posed (A:Option Addr) (n c:Nat) (F:List Fg) (re lo K:Int) (B:Option Addr) (m d:Nat) (L:List Lt) (w:World) (hA:Fgs w A n F) (hc:n≤c) (hB:Lets w B m L) :
  Calls Tryz.prog 83 #[frV A n c re lo,.agg #[.int .i64 K,.slice B m d]] w fun e w'=>e=.returned (.bool (zAU F re lo K L))∧Below w.heap.size w w':=by
 have hb0:Below w.heap.size w ((w.alloc (.cells #[.slice A n c,.int .i64 re,.int .i64 lo] 24)).alloc (.cells #[.int .i64 K,.slice B m d] 55)):=((Below.refl _ _).alloc (Nat.le_refl _) _).alloc (by simp) _
 have hk0:Blk ((w.alloc (.cells #[.slice A n c,.int .i64 re,.int .i64 lo] 24)).alloc (.cells #[.int .i64 K,.slice B m d] 55)) w.heap.size 24 #[.slice A n c,.int .i64 re,.int .i64 lo]:=(Blk.new w _ _).alloc _
 have hk1:Blk ((w.alloc (.cells #[.slice A n c,.int .i64 re,.int .i64 lo] 24)).alloc (.cells #[.int .i64 K,.slice B m d] 55)) (w.heap.size+1) 55 #[.int .i64 K,.slice B m d]:=heap_alloc2_new w _ _
 have hFl:=hA.len
 obtain ⟨v,hv⟩:∃v,frB F re lo=v:=⟨_,rfl⟩
 have HV:=Lib.hid (fun wx (hx:Fgs wx A n F)=>zEL hv A n c wx hx hc)
 have HR:=Lib.hid (show zAU F re lo K L=(v&&(zAp K L==0)&&(K==(n:Int))&&zCE L) by unfold zAU;rw [hv,hFl])
 rw [HR.out]
 clear hv hFl
 cases v with
 | false =>
  go_enter Tryz.func83,Tryz.ntmps83
  go_wp2_with fail
  generalize ((w.alloc (.cells #[.slice A n c,.int .i64 re,.int .i64 lo] 24)).alloc (.cells #[.int .i64 K,.slice B m d] 55))=Y at hb0 hk0 hk1 ⊢
  refine (HV.out _ (hA.below hb0)).mono ?_
  rintro e Y2 ⟨rfl,hb2⟩
  have hb3:=zAa hb0 hb2 hb0.size
  clear hb2 hk0 hk1
  go_wp2_with fail
  go_ret
  exact ⟨rfl,hb3⟩
 | true =>
  obtain ⟨E,hE⟩:∃E,zAp K L=E:=⟨_,rfl⟩
  have HC:=Lib.hid (fun wx (hx:Lets wx B m L)=>check_is (c:=d) hE wx hx)
  rw [hE]
  have HE:=Lib.hid hE
  clear hE HR
  by_cases h0:E=0
  ·subst h0
   by_cases hK:K=(n:Int)
   ·have q1:(K==(n:Int))=true:=by simpa using hK
    obtain ⟨p,hp⟩:∃p,zCE L=p:=⟨_,rfl⟩
    have HP:=Lib.hid (fun wx (hx:Lets wx B m L)=>posed_is (c:=d) hp wx hx HE.out)
    rw [hp]
    clear hp hK
    go_enter Tryz.func83,Tryz.ntmps83
    go_wp2_with fail
    generalize ((w.alloc (.cells #[.slice A n c,.int .i64 re,.int .i64 lo] 24)).alloc (.cells #[.int .i64 K,.slice B m d] 55))=Y at hb0 hk0 hk1 ⊢
    refine (HV.out _ (hA.below hb0)).mono ?_
    rintro e Y2 ⟨rfl,hb2⟩
    have hb3:=zAa hb0 hb2 hb0.size
    have k2:=hk0.below hb2 hk0.lt
    have k3:=hk1.below hb2 hk1.lt
    clear hb2 hk0 hk1
    have c0:Y2.cell? ⟨w.heap.size+1,0,none⟩=some (.int .i64 K):=(k3.cell 0).trans rfl
    have c1:Y2.cell? ⟨w.heap.size+1,1,none⟩=some (.slice B m d):=(k3.cell 1).trans rfl
    go_wp2_with fail
    refine (HC.out _ (hB.below hb3)).mono ?_
    rintro e Y3 ⟨rfl,hb4⟩
    have hb5:=zAa hb3 hb4 hb3.size
    have k4:=k2.below hb4 k2.lt
    have k5:=k3.below hb4 k3.lt
    clear hb4 k2 k3 c0 c1 hb3
    have c0:Y3.cell? ⟨w.heap.size+1,0,none⟩=some (.int .i64 K):=(k5.cell 0).trans rfl
    have c1:Y3.cell? ⟨w.heap.size+1,1,none⟩=some (.slice B m d):=(k5.cell 1).trans rfl
    have c2:Y3.cell? ⟨w.heap.size,0,none⟩=some (.slice A n c):=(k4.cell 0).trans rfl
    go_wp2_with fail
    refine (HP.out _ (hB.below hb5)).mono ?_
    rintro e Y4 ⟨rfl,hb6⟩
    have hb7:=zAa hb5 hb6 hb5.size
    clear hb5 hb6 k4 k5 c0 c1 c2
    go_wp2_with fail
    go_ret
    exact ⟨by rw [q1];simp,hb7⟩
   ·have q1:(K==(n:Int))=false:=by simpa using hK
    clear hK
    go_enter Tryz.func83,Tryz.ntmps83
    go_wp2_with fail
    generalize ((w.alloc (.cells #[.slice A n c,.int .i64 re,.int .i64 lo] 24)).alloc (.cells #[.int .i64 K,.slice B m d] 55))=Y at hb0 hk0 hk1 ⊢
    refine (HV.out _ (hA.below hb0)).mono ?_
    rintro e Y2 ⟨rfl,hb2⟩
    have hb3:=zAa hb0 hb2 hb0.size
    have k2:=hk0.below hb2 hk0.lt
    have k3:=hk1.below hb2 hk1.lt
    clear hb2 hk0 hk1
    have c0:Y2.cell? ⟨w.heap.size+1,0,none⟩=some (.int .i64 K):=(k3.cell 0).trans rfl
    have c1:Y2.cell? ⟨w.heap.size+1,1,none⟩=some (.slice B m d):=(k3.cell 1).trans rfl
    go_wp2_with fail
    refine (HC.out _ (hB.below hb3)).mono ?_
    rintro e Y3 ⟨rfl,hb4⟩
    have hb5:=zAa hb3 hb4 hb3.size
    have k4:=k2.below hb4 k2.lt
    have k5:=k3.below hb4 k3.lt
    clear hb4 k2 k3 c0 c1 hb3
    have c0:Y3.cell? ⟨w.heap.size+1,0,none⟩=some (.int .i64 K):=(k5.cell 0).trans rfl
    have c2:Y3.cell? ⟨w.heap.size,0,none⟩=some (.slice A n c):=(k4.cell 0).trans rfl
    go_wp2_with fail
    go_ret
    exact ⟨by rw [q1];simp,hb5⟩
  ·have q1:(E==0)=false:=by simpa using h0
   clear h0
   go_enter Tryz.func83,Tryz.ntmps83
   go_wp2_with fail
   generalize ((w.alloc (.cells #[.slice A n c,.int .i64 re,.int .i64 lo] 24)).alloc (.cells #[.int .i64 K,.slice B m d] 55))=Y at hb0 hk0 hk1 ⊢
   refine (HV.out _ (hA.below hb0)).mono ?_
   rintro e Y2 ⟨rfl,hb2⟩
   have hb3:=zAa hb0 hb2 hb0.size
   have k3:=hk1.below hb2 hk1.lt
   clear hb2 hk0 hk1
   have c0:Y2.cell? ⟨w.heap.size+1,0,none⟩=some (.int .i64 K):=(k3.cell 0).trans rfl
   have c1:Y2.cell? ⟨w.heap.size+1,1,none⟩=some (.slice B m d):=(k3.cell 1).trans rfl
   go_wp2_with fail
   refine (HC.out _ (hB.below hb3)).mono ?_
   rintro e Y3 ⟨rfl,hb4⟩
   have hb5:=zAa hb3 hb4 hb3.size
   clear hb4 k3 c0 c1 hb3
   go_wp2_with fail
   go_ret
   exact ⟨by rw [q1];simp,hb5⟩
theorem zFS {A:Option Addr} {n c:Nat} {F:List Fg} {re lo K:Int} {B:Option Addr} {m d:Nat} {L:List Lt} {b:Bool} (h:zAU F re lo K L=b) (w:World) (hA:Fgs w A n F) (hc:n≤c) (hB:Lets w B m L) :
  Calls Tryz.prog 83 #[frV A n c re lo,.agg #[.int .i64 K,.slice B m d]] w fun e w'=>e=.returned (.bool b)∧Below w.heap.size w w':=by
 subst h;exact hand_Posed A n c F re lo K B m d L w hA hc hB
set_option maxHeartbeats 3200000 in
theorem notes_posed (A:Option Addr) (n c:Nat) (F:List Fg) (re lo K:Int) (B:Option Addr) (m d:Nat) (L:List Lt) (w:World) (hA:Fgs w A n F) (hc:n≤c) (hB:Lets w B m L) :
  Calls Tryz.prog 74 #[frV A n c re lo,.agg #[.int .i64 K,.slice B m d]] w fun e w'=>e=.returned (.int .i64 (zBP F re lo K L))∧Below w.heap.size w w':=by
 have hb0:Below w.heap.size w ((w.alloc (.cells #[.slice A n c,.int .i64 re,.int .i64 lo] 24)).alloc (.cells #[.int .i64 K,.slice B m d] 55)):=((Below.refl _ _).alloc (Nat.le_refl _) _).alloc (by simp) _
 have hk0:Blk ((w.alloc (.cells #[.slice A n c,.int .i64 re,.int .i64 lo] 24)).alloc (.cells #[.int .i64 K,.slice B m d] 55)) w.heap.size 24 #[.slice A n c,.int .i64 re,.int .i64 lo]:=(Blk.new w _ _).alloc _
 have hk1:Blk ((w.alloc (.cells #[.slice A n c,.int .i64 re,.int .i64 lo] 24)).alloc (.cells #[.int .i64 K,.slice B m d] 55)) (w.heap.size+1) 55 #[.int .i64 K,.slice B m d]:=heap_alloc2_new w _ _
 obtain ⟨v,hv⟩:∃v,frB F re lo=v:=⟨_,rfl⟩
 obtain ⟨E,hE⟩:∃E,zAp K L=E:=⟨_,rfl⟩
 obtain ⟨p,hp⟩:∃p,zAU F re lo K L=p:=⟨_,rfl⟩
 have HV:=Lib.hid (fun wx (hx:Fgs wx A n F)=>zEL hv A n c wx hx hc)
 have HC:=Lib.hid (fun wx (hx:Lets wx B m L)=>check_is (c:=d) hE wx hx)
 have HP:=Lib.hid (fun wx (hx:Fgs wx A n F) (hy:Lets wx B m L)=>zFS (d:=d) hp wx hx hc hy)
 have HR:=Lib.hid (show zBP F re lo K L=if v=false then 2 else if E≠0 then E else if p then 0 else 2 by unfold zBP;rw [hv,hE,hp])
 clear hv hE hp
 go_enter Tryz.func74,Tryz.ntmps74
 go_wp2_with fail
 generalize ((w.alloc (.cells #[.slice A n c,.int .i64 re,.int .i64 lo] 24)).alloc (.cells #[.int .i64 K,.slice B m d] 55))=Y at hb0 hk0 hk1 ⊢
 refine (HV.out _ (hA.below hb0)).mono ?_
 rintro e Y2 ⟨rfl,hb2⟩
 have hb3:=zAa hb0 hb2 hb0.size
 have k2:=hk0.below hb2 hk0.lt
 have k3:=hk1.below hb2 hk1.lt
 clear hb2 hk0 hk1 hb0
 cases v with
 | false =>
  have HR2:=Lib.hid (HR.out.trans (if_pos rfl))
  clear HR
  go_wp2_with fail
  go_ret
  exact ⟨retI HR2.out.symm,hb3⟩
 | true =>
  have c0:Y2.cell? ⟨w.heap.size+1,0,none⟩=some (.int .i64 K):=(k3.cell 0).trans rfl
  have c1:Y2.cell? ⟨w.heap.size+1,1,none⟩=some (.slice B m d):=(k3.cell 1).trans rfl
  go_wp2_with fail
  refine (HC.out _ (hB.below hb3)).mono ?_
  rintro e Y3 ⟨rfl,hb4⟩
  have hb5:=zAa hb3 hb4 hb3.size
  have k4:=k2.below hb4 k2.lt
  have k5:=k3.below hb4 k3.lt
  clear hb4 k2 k3 c0 c1 hb3
  by_cases h0:E=0
  ·subst h0
   have c0:Y3.cell? ⟨w.heap.size+1,0,none⟩=some (.int .i64 K):=(k5.cell 0).trans rfl
   have c1:Y3.cell? ⟨w.heap.size+1,1,none⟩=some (.slice B m d):=(k5.cell 1).trans rfl
   have c2:Y3.cell? ⟨w.heap.size,0,none⟩=some (.slice A n c):=(k4.cell 0).trans rfl
   have c3:Y3.cell? ⟨w.heap.size,1,none⟩=some (.int .i64 re):=(k4.cell 1).trans rfl
   have c4:Y3.cell? ⟨w.heap.size,2,none⟩=some (.int .i64 lo):=(k4.cell 2).trans rfl
   go_wp2_with fail
   refine (HP.out _ (hA.below hb5) (hB.below hb5)).mono ?_
   rintro e Y4 ⟨rfl,hb6⟩
   have hb7:=zAa hb5 hb6 hb5.size
   clear hb5 hb6 k4 k5 c0 c1 c2 c3 c4
   cases p with
   | false =>
    have HR2:=Lib.hid (show zBP F re lo K L=2 by rw [HR.out];simp)
    clear HR
    go_wp2_with fail
    go_ret
    exact ⟨retI HR2.out.symm,hb7⟩
   | true =>
    have HR2:=Lib.hid (show zBP F re lo K L=0 by rw [HR.out];simp)
    clear HR
    go_wp2_with fail
    go_ret
    exact ⟨retI HR2.out.symm,hb7⟩
  ·have q1:(E != 0)=true:=by simpa using h0
   have HR2:=Lib.hid (show zBP F re lo K L=E by rw [HR.out,if_neg (by simp),if_pos h0])
   clear h0 HR
   go_wp2_with fail
   go_ret
   exact ⟨retI HR2.out.symm,hb5⟩
theorem zBz {F:List Fg} {re lo K:Int} {L:List Lt} (h:zBP F re lo K L=0):zAU F re lo K L=true∧frOk F re lo∧zAp K L=0∧K=(F.length:Int)∧zCE L=true:=by
 have hp:zAU F re lo K L=true:=by
  unfold zBP at h
  split at h
  ·omega
  ·split at h
   ·rename_i h1 h2;exact absurd h h2
   ·split at h
    ·rename_i h3;exact h3
    ·omega
 have hq:=hp
 unfold zAU at hq
 simp only [Bool.and_eq_true,beq_iff_eq] at hq
 exact ⟨hp,zCo.1 hq.1.1.1,hq.1.1.2,hq.1.2,hq.2⟩
end Go.Proofs.YtlmdfmnbcndhoaaGreatDoor
namespace Go.Proofs.YtlmdfmnbcndhoaaGreatDoor
open Go.RowKit
/-- An item: the finger (0: a visit of a crossing), the number, the mark. -/
structure Bi where
 f:Int
 n:Int
 b:Bool
instance:DecidableEq Bi:=fun x y =>
 if h:x.f=y.f∧x.n=y.n∧x.b=y.b then .isTrue (by cases x;cases y;simp at h;simp [h])
 else .isFalse (fun e=>h (by subst e;simp))
def bi0:Bi:=⟨0,0,false⟩
def ba (l:List Bi) (i:Nat):Bi:=(l[i]?).getD bi0
theorem ba_get {l:List Bi} {i:Nat} (h:i < l.length):l[i]? = some (ba l i):=by unfold ba;rw [List.getElem?_eq_getElem h];rfl
theorem ba_of {l:List Bi} {i:Nat} {x:Bi} (h:l[i]? = some x):ba l i=x:=by unfold ba;rw [h];rfl
/-- The parts of a word of a sequence. -/
def cutI (x:List UInt8):List UInt8×List UInt8×Bool:=Lib.cut x.dropLast [46]
def zBT (x:List UInt8) (c:UInt8):Bool:=decide (x.getLast? = some c)
noncomputable def bitF (L:List Fg) (x:List UInt8):Bi :=
 if (cutI x).2.2 then ⟨if fidx L (cutI x).1=0 then -1 else (fidx L (cutI x).1:Int),(zAs (cutI x).2.1).1,zBT x 62⟩
 else ⟨0,(zAs x.dropLast).1,zBT x 111⟩
noncomputable def bitB (x:List UInt8):Bool :=
 if (cutI x).2.2 then (fbad (cutI x).1||!(zBT x 62||zBT x 60))||!(zAs (cutI x).2.1).2
 else !(zBT x 111||zBT x 117)||!(zAs x.dropLast).2
def bitV (x:List UInt8):Bool:=!(cutI x).2.2
noncomputable def bitL (L:List Fg) (x:List UInt8):Bool:=(cutI x).2.2&&zEs L (cutI x).1
def headV (T:List (List UInt8)):Bool:=match T with
 | []=>false
 | x :: _=>bitV x
noncomputable def zEi (T:List (List UInt8)):Bool:=T.any bitB||headV T
noncomputable def zFh (L:List Fg) (T:List (List UInt8)):Bool:=T.any (bitL L)
theorem bitsB_snoc (T:List (List UInt8)) (x:List UInt8):zEi (T++[x])=(zEi T||(bitB x||(T.isEmpty&&bitV x))):=by
 unfold zEi
 cases T with
 | nil=>simp [headV]
 | cons y T =>
  simp only [List.cons_append,List.any_cons,List.any_append,List.any_nil,headV,List.isEmpty_cons,Bool.false_and,Bool.or_false]
  cases bitB y<;>cases T.any bitB<;>cases bitB x<;>cases bitV y<;>rfl
theorem bitsL_snoc (L:List Fg) (T:List (List UInt8)) (x:List UInt8):zFh L (T++[x])=(zFh L T||bitL L x):=by simp [zFh]
/-- The number and the mark do not count together: a loop is there once. -/
def bkey (b:Bi):Bi:=if 0 < b.f then ⟨b.f,b.n,false⟩ else b
def cntF (l:List Bi) (f:Int):Nat:=l.countP fun b=>decide (0 < b.f)&&b.f==f
def visN (l:List Bi):Nat:=l.countP fun b=>!decide (0 < b.f)
def zBH (k:Nat) (l:List Bi):List Int:=(List.range (k+2)).map fun f:Nat=>((cntF l (f:Int):Nat):Int)
def zHx (l:List Bi) (b:Bi):Bool:=(decide (0 < b.f)&&decide ((cntF l b.f:Int) < b.n))||(b.f==0&&(decide (((visN l / 2:Nat):Int) < b.n)||visN l % 2 != 0))
def zEz (l:List Bi):Bool:=decide ((l.map bkey).Nodup)&&l.all fun b=>!zHx l b
/-- The letters of an item. -/
def ia (M:List Int) (i:Int):Int:=(M[i.toNat]?).getD 0
def zGb (M:List Int) (b:Bi):List Lt :=
 if b.f=0 then [⟨2,0,0,b.n,0,b.b⟩]
 else if b.b then [⟨1,b.f-1,ia M (b.f-1)+b.n,0,0,false⟩,⟨1,b.f,ia M b.f-b.n+1,0,0,false⟩]
 else [⟨1,b.f,ia M b.f-b.n+1,0,0,false⟩,⟨1,b.f-1,ia M (b.f-1)+b.n,0,0,false⟩]
def zAI (M:List Int) (l:List Bi):List Lt:=l.flatMap (zGb M)
theorem bitLs_len (M:List Int) (b:Bi):(zGb M b).length≤2:=by
 unfold zGb
 split
 ·simp
 ·split<;>simp
theorem buildB_len (M:List Int) (l:List Bi):(zAI M l).length≤2*l.length:=by
 unfold zAI
 induction l with
 | nil=>simp
 | cons b l ih=>rw [List.flatMap_cons,List.length_append,List.length_cons];have:=bitLs_len M b;omega
theorem cntF_le (l:List Bi) (f:Int):cntF l f≤l.length:=List.countP_le_length
theorem visN_le (l:List Bi):visN l≤l.length:=List.countP_le_length
theorem zEA (k:Nat) (l:List Bi) {f:Nat} (h:f < k+2):(zBH k l)[f]? = some ((cntF l (f:Int):Nat):Int):=by
 unfold zBH
 rw [List.getElem?_map,List.getElem?_range h];rfl
theorem zGo (k:Nat) (l:List Bi):(zBH k l).length=k+2:=by simp [zBH]
theorem cnt_yes {l:List Bi} {b:Bi} {f:Int} (h:0 < b.f) (e:b.f=f):cntF (l++[b]) f=cntF l f+1:=by
 unfold cntF
 rw [List.countP_append,List.countP_singleton,if_pos (by simp [e];omega)]
theorem cnt_no {l:List Bi} {b:Bi} {f:Int} (h:¬(0 < b.f∧b.f=f)):cntF (l++[b]) f=cntF l f:=by
 unfold cntF
 rw [List.countP_append,List.countP_singleton,if_neg (by simpa using h),Nat.add_zero]
theorem vis_yes {l:List Bi} {b:Bi} (h:¬0 < b.f):visN (l++[b])=visN l+1:=by
 unfold visN
 rw [List.countP_append,List.countP_singleton,if_pos (by simpa using h)]
theorem vis_no {l:List Bi} {b:Bi} (h:0 < b.f):visN (l++[b])=visN l:=by
 unfold visN
 rw [List.countP_append,List.countP_singleton,if_neg (by simp [h]),Nat.add_zero]
theorem many_set (k:Nat) (l:List Bi) {b:Bi} {f:Nat} (h0:0 < b.f) (e:b.f=(f:Int)):(zBH k l).set f ((cntF l (f:Int):Int)+1)=zBH k (l++[b]):=by
 apply List.ext_getElem?
 intro i
 rw [List.getElem?_set]
 by_cases hi:i < k+2
 ·rw [zEA k _ hi]
  by_cases hf:f=i
  ·subst hf
   rw [if_pos rfl,zGo,if_pos hi,zEA k _ hi,cnt_yes h0 e];rfl
  ·rw [if_neg hf,zEA k _ hi,cnt_no (fun h=>hf (by omega))]
 ·rw [List.getElem?_eq_none (by rw [zGo];omega),List.getElem?_eq_none (by rw [zGo];omega),zGo]
  split
  ·rename_i h1;rw [h1,if_neg hi]
  ·rfl
theorem many_same (k:Nat) (l:List Bi) {b:Bi} (h0:¬0 < b.f):zBH k (l++[b])=zBH k l:=by
 unfold zBH
 exact List.map_congr_left fun f _=>by rw [cnt_no (fun h=>h0 h.1)]
/-- The signs that the bits of a number say. -/
def sgI (cr nu:Nat) (l:Lt):Int:=if (nu >>> (cr-l.id.toNat)) % 2=1 then 1 else -1
def sgL (cr nu:Nat) (l:Lt):Lt:=if isC l then { l with sign:=sgI cr nu l } else l
def zAT (cr nu:Nat) (L:List Lt):List Lt:=L.map (sgL cr nu)
/-- The loops of a finger: the passes that go down beside it. -/
def maxG (L:List Lt) (i:Nat):Int:=if (la L i).gate≤(la L (i+1)).gate then (la L (i+1)).gate else (la L i).gate
def lpC (L:List Lt) (g:Int) (m:Nat):Nat:=zAc (fun i=>(isP (la L i)&&dwn L i)&&maxG L i==g) m
def zBQ (K:Nat) (L:List Lt) (m:Nat):List Int:=(List.range (K+2)).map fun g:Nat=>((lpC L (g:Int) m:Nat):Int)
theorem zFi (K:Nat) (L:List Lt) (m:Nat) {g:Nat} (h:g < K+2):(zBQ K L m)[g]? = some ((lpC L (g:Int) m:Nat):Int):=by
 unfold zBQ
 rw [List.getElem?_map,List.getElem?_range h];rfl
theorem zFj (K:Nat) (L:List Lt) (m:Nat):(zBQ K L m).length=K+2:=by simp [zBQ]
theorem lpC_le (L:List Lt) (g:Int) (m:Nat):lpC L g m≤m:=zCJ _ _
theorem loops_set (K:Nat) (L:List Lt) {m g:Nat} (h:(isP (la L m)&&dwn L m)=true) (e:maxG L m=(g:Int)):(zBQ K L m).set g ((lpC L (g:Int) m:Int)+1)=zBQ K L (m+1):=by
 apply List.ext_getElem?
 intro i
 rw [List.getElem?_set]
 by_cases hi:i < K+2
 ·rw [zFi K L _ hi]
  by_cases hf:g=i
  ·subst hf
   rw [if_pos rfl,zFj,if_pos hi,zFi K L _ hi,show lpC L (g:Int) (m+1)=lpC L (g:Int) m+1 from zAj (by rw [h,e];simp)];rfl
  ·rw [if_neg hf,zFi K L _ hi,show lpC L (i:Int) (m+1)=lpC L (i:Int) m from zAi (by rw [h,e];simp;omega)]
 ·rw [List.getElem?_eq_none (by rw [zFj];omega),List.getElem?_eq_none (by rw [zFj];omega),zFj]
  split
  ·rename_i h1;rw [h1,if_neg hi]
  ·rfl
theorem loops_same (K:Nat) (L:List Lt) {m:Nat} (h:(isP (la L m)&&dwn L m)=false):zBQ K L (m+1)=zBQ K L m:=by
 unfold zBQ
 exact List.map_congr_left fun g _=>by rw [show lpC L (g:Int) (m+1)=lpC L (g:Int) m from zAi (by rw [h];rfl)]
theorem loops_zero (K:Nat) (L:List Lt):zBQ K L 0=List.replicate (K+2) 0:=by
 unfold zBQ
 rw [List.eq_replicate_iff]
 exact ⟨by simp,fun b hb=>by
  obtain ⟨g,_,rfl⟩:=List.mem_map.1 hb
  simp [lpC,zAc]⟩
theorem many_nil (k:Nat):zBH k []=List.replicate (k+2) 0:=by
 unfold zBH
 rw [List.eq_replicate_iff]
 exact ⟨by simp,fun b hb=>by
  obtain ⟨g,_,rfl⟩:=List.mem_map.1 hb
  simp [cntF]⟩
/-- The sequence of a code. -/
def zBf (L:List Lt) (i:Nat):Lt:=if (la L (i+1)).gate < (la L i).gate then la L (i+1) else la L i
def arrB (L:List Lt) (i:Nat):UInt8:=if (la L (i+1)).gate < (la L i).gate then 60 else 62
def visW (l:Lt):List UInt8:=Lib.itoa l.id++[if l.over then 111 else 117]
def zHk (F:List Fg) (L:List Lt) (i:Nat):List UInt8:=nmF F ((zBf L i).gate+1)++[46]++Lib.itoa ((zBf L i).rank-(lpC L (zBf L i).gate L.length:Int))++[arrB L i]
def zCH (F:List Fg) (L:List Lt) (i:Nat):List (List UInt8) :=
 if isC (la L i) then [visW (la L i)] else if dwn L i then [zHk F L i] else []
def zDS (F:List Fg) (L:List Lt) (m:Nat):List (List UInt8):=(List.range m).flatMap (zCH F L)
theorem zEc (F:List Fg) (L:List Lt) (m:Nat):zDS F L (m+1)=zDS F L m++zCH F L m:=by simp [zDS,List.range_succ]
def zEB:List UInt8:=[98,97,114,101]
def seqF (F:List Fg) (L:List Lt):List UInt8:=if L.length=0 then zEB else Lib.join (zDS F L L.length) [32]
end Go.Proofs.YtlmdfmnbcndhoaaGreatDoor
