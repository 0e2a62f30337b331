/-
  Lemmas for NotesLong, part 33: contracts and plain facts. Conditions: those that each theorem names.
-/
import Derived.Test.YtlmdfmnbcndhoaaGreatDoorLg32
import Derived.Test.YtlmdfmnbcndhoaaGreatDoorLg26
namespace Go.Proofs.YtlmdfmnbcndhoaaGreatDoor
open Go.RowKit
def zBs (F:List Fg) (re lo K:Int) (L:List Lt):Bool:=frB F re lo&&(zAB K L==0)&&(K==(F.length:Int))&&zCR L
def zBl (F:List Fg) (re lo K:Int) (L:List Lt):Int:=if frB F re lo=false then 2 else if zAB K L≠0 then zAB K L else if zBs F re lo K L then 0 else 2
theorem zMS {K E:Int} {A:Option Addr} {n c:Nat} {L:List Lt} (h:zAB K L=E) (w:World) (hA:Lets w A n L):Calls Tryz.prog 122 #[.agg #[.int .i64 K,.slice A n c]] w fun e w'=>e=.returned (.int .i64 E)∧Below w.heap.size w w':=by
 subst h;exact zNX K A n c L w hA
theorem zRJ {K:Int} {A:Option Addr} {n c:Nat} {L:List Lt} {b:Bool} (h:zCR L=b) (w:World) (hA:Lets w A n L) (h0:zAB K L=0):Calls Tryz.prog 130 #[.agg #[.int .i64 K,.slice A n c]] w fun e w'=>e=.returned (.bool b)∧Below w.heap.size w w':=by
 have ht:=zCu h0;have hl:=hA.len;subst h;exact zNY K A n c L w hA (by have:=ht.len;omega) (fun i hi hp=>by have:=ht.pass i (by omega) hp;have:=ht.hi;omega)
set_option maxHeartbeats 3200000 in
theorem zNZ (A:Option Addr) (n c:Nat) (F:List Fg) (re lo K:Int) (B:Option Addr) (m d:Nat) (L:List Lt) (w:World) (hA:Fgs w A n F) (hc:n≤c) (hB:Lets w B m L) :
  Calls Tryz.prog 83 #[frV A n c re lo,.agg #[.int .i64 K,.slice B m d]] w fun e w'=>e=.returned (.bool (zBs F re lo K L))∧Below w.heap.size w w':=by
 have hb0:Below w.heap.size w ((w.alloc (.cells #[.slice A n c,.int .i64 re,.int .i64 lo] 24)).alloc (.cells #[.int .i64 K,.slice B m d] 55)):=((Below.refl _ _).alloc (Nat.le_refl _) _).alloc (by simp) _;have hk0:Blk ((w.alloc (.cells #[.slice A n c,.int .i64 re,.int .i64 lo] 24)).alloc (.cells #[.int .i64 K,.slice B m d] 55)) w.heap.size 24 #[.slice A n c,.int .i64 re,.int .i64 lo]:=(Blk.new w _ _).alloc _;have hk1:Blk ((w.alloc (.cells #[.slice A n c,.int .i64 re,.int .i64 lo] 24)).alloc (.cells #[.int .i64 K,.slice B m d] 55)) (w.heap.size+1) 55 #[.int .i64 K,.slice B m d]:=heap_alloc2_new w _ _;have hFl:=hA.len;obtain ⟨v,hv⟩:∃v,frB F re lo=v:=⟨_,rfl⟩
 have HV:=Lib.hid (fun wx (hx:Fgs wx A n F)=>zFm hv A n c wx hx hc);have HR:=Lib.hid (show zBs F re lo K L=(v&&(zAB K L==0)&&(K==(n:Int))&&zCR L) by unfold zBs;rw [hv,hFl]);rw [HR.out];clear hv hFl
 cases v with
 | false =>
  go_enter Tryz.func83,Tryz.ntmps83;go_wp2_with fail
  generalize ((w.alloc (.cells #[.slice A n c,.int .i64 re,.int .i64 lo] 24)).alloc (.cells #[.int .i64 K,.slice B m d] 55))=Y at hb0 hk0 hk1 ⊢;refine (HV.out _ (hA.below hb0)).mono ?_;rintro e Y2 ⟨rfl,hb2⟩;have hb3:=zAa hb0 hb2 hb0.size;clear hb2 hk0 hk1;go_wp2_with fail
  go_ret;exact ⟨rfl,hb3⟩
 | true =>
  obtain ⟨E,hE⟩:∃E,zAB K L=E:=⟨_,rfl⟩
  have HC:=Lib.hid (fun wx (hx:Lets wx B m L)=>zMS (c:=d) hE wx hx);rw [hE];have HE:=Lib.hid hE;clear hE HR;by_cases h0:E=0
  ·subst h0;by_cases hK:K=(n:Int)
   ·have q1:(K==(n:Int))=true:=by simpa using hK
    obtain ⟨p,hp⟩:∃p,zCR L=p:=⟨_,rfl⟩
    have HP:=Lib.hid (fun wx (hx:Lets wx B m L)=>zRJ (c:=d) hp wx hx HE.out);rw [hp];clear hp hK;go_enter Tryz.func83,Tryz.ntmps83;go_wp2_with fail
    generalize ((w.alloc (.cells #[.slice A n c,.int .i64 re,.int .i64 lo] 24)).alloc (.cells #[.int .i64 K,.slice B m d] 55))=Y at hb0 hk0 hk1 ⊢;refine (HV.out _ (hA.below hb0)).mono ?_;rintro e Y2 ⟨rfl,hb2⟩;have hb3:=zAa hb0 hb2 hb0.size;have k2:=hk0.below hb2 hk0.lt;have k3:=hk1.below hb2 hk1.lt;clear hb2 hk0 hk1;obtain ⟨c0,c1⟩:=cQ2 k3;go_wp2_with fail
    refine (HC.out _ (hB.below hb3)).mono ?_;rintro e Y3 ⟨rfl,hb4⟩;have hb5:=zAa hb3 hb4 hb3.size;have k4:=k2.below hb4 k2.lt;have k5:=k3.below hb4 k3.lt;clear hb4 k2 k3 c0 c1 hb3;obtain ⟨c0,c1⟩:=cQ2 k5;have c2:Y3.cell? ⟨w.heap.size,0,none⟩=some (.slice A n c):=(k4.cell 0).trans rfl;go_wp2_with fail
    refine (HP.out _ (hB.below hb5)).mono ?_;rintro e Y4 ⟨rfl,hb6⟩;have hb7:=zAa hb5 hb6 hb5.size;clear hb5 hb6 k4 k5 c0 c1 c2;go_wp2_with fail
    go_ret;exact ⟨by rw [q1];simp,hb7⟩
   ·have q1:(K==(n:Int))=false:=by simpa using hK
    clear hK;go_enter Tryz.func83,Tryz.ntmps83;go_wp2_with fail
    generalize ((w.alloc (.cells #[.slice A n c,.int .i64 re,.int .i64 lo] 24)).alloc (.cells #[.int .i64 K,.slice B m d] 55))=Y at hb0 hk0 hk1 ⊢;refine (HV.out _ (hA.below hb0)).mono ?_;rintro e Y2 ⟨rfl,hb2⟩;have hb3:=zAa hb0 hb2 hb0.size;have k2:=hk0.below hb2 hk0.lt;have k3:=hk1.below hb2 hk1.lt;clear hb2 hk0 hk1;obtain ⟨c0,c1⟩:=cQ2 k3;go_wp2_with fail
    refine (HC.out _ (hB.below hb3)).mono ?_;rintro e Y3 ⟨rfl,hb4⟩;have hb5:=zAa hb3 hb4 hb3.size;have k4:=k2.below hb4 k2.lt;have k5:=k3.below hb4 k3.lt;clear hb4 k2 k3 c0 c1 hb3;have c0:Y3.cell? ⟨w.heap.size+1,0,none⟩=some (.int .i64 K):=(k5.cell 0).trans rfl;have c2:Y3.cell? ⟨w.heap.size,0,none⟩=some (.slice A n c):=(k4.cell 0).trans rfl;go_wp2_with fail
    go_ret;exact ⟨by rw [q1];simp,hb5⟩
  ·have q1:(E==0)=false:=by simpa using h0
   clear h0;go_enter Tryz.func83,Tryz.ntmps83;go_wp2_with fail
   generalize ((w.alloc (.cells #[.slice A n c,.int .i64 re,.int .i64 lo] 24)).alloc (.cells #[.int .i64 K,.slice B m d] 55))=Y at hb0 hk0 hk1 ⊢;refine (HV.out _ (hA.below hb0)).mono ?_;rintro e Y2 ⟨rfl,hb2⟩;have hb3:=zAa hb0 hb2 hb0.size;have k3:=hk1.below hb2 hk1.lt;clear hb2 hk0 hk1;obtain ⟨c0,c1⟩:=cQ2 k3;go_wp2_with fail
   refine (HC.out _ (hB.below hb3)).mono ?_;rintro e Y3 ⟨rfl,hb4⟩;have hb5:=zAa hb3 hb4 hb3.size;clear hb4 k3 c0 c1 hb3;go_wp2_with fail
   go_ret;exact ⟨by rw [q1];simp,hb5⟩
theorem zEf {A:Option Addr} {n c:Nat} {F:List Fg} {re lo K:Int} {B:Option Addr} {m d:Nat} {L:List Lt} {b:Bool} (h:zBs F re lo K L=b) (w:World) (hA:Fgs w A n F) (hc:n≤c) (hB:Lets w B m L) :
  Calls Tryz.prog 83 #[frV A n c re lo,.agg #[.int .i64 K,.slice B m d]] w fun e w'=>e=.returned (.bool b)∧Below w.heap.size w w':=by
 subst h;exact zNZ A n c F re lo K B m d L w hA hc hB
set_option maxHeartbeats 3200000 in
theorem zLT (A:Option Addr) (n c:Nat) (F:List Fg) (re lo K:Int) (B:Option Addr) (m d:Nat) (L:List Lt) (w:World) (hA:Fgs w A n F) (hc:n≤c) (hB:Lets w B m L) :
  Calls Tryz.prog 74 #[frV A n c re lo,.agg #[.int .i64 K,.slice B m d]] w fun e w'=>e=.returned (.int .i64 (zBl F re lo K L))∧Below w.heap.size w w':=by
 have hb0:Below w.heap.size w ((w.alloc (.cells #[.slice A n c,.int .i64 re,.int .i64 lo] 24)).alloc (.cells #[.int .i64 K,.slice B m d] 55)):=((Below.refl _ _).alloc (Nat.le_refl _) _).alloc (by simp) _;have hk0:Blk ((w.alloc (.cells #[.slice A n c,.int .i64 re,.int .i64 lo] 24)).alloc (.cells #[.int .i64 K,.slice B m d] 55)) w.heap.size 24 #[.slice A n c,.int .i64 re,.int .i64 lo]:=(Blk.new w _ _).alloc _;have hk1:Blk ((w.alloc (.cells #[.slice A n c,.int .i64 re,.int .i64 lo] 24)).alloc (.cells #[.int .i64 K,.slice B m d] 55)) (w.heap.size+1) 55 #[.int .i64 K,.slice B m d]:=heap_alloc2_new w _ _;obtain ⟨v,hv⟩:∃v,frB F re lo=v:=⟨_,rfl⟩
 obtain ⟨E,hE⟩:∃E,zAB K L=E:=⟨_,rfl⟩
 obtain ⟨p,hp⟩:∃p,zBs F re lo K L=p:=⟨_,rfl⟩
 have HV:=Lib.hid (fun wx (hx:Fgs wx A n F)=>zFm hv A n c wx hx hc);have HC:=Lib.hid (fun wx (hx:Lets wx B m L)=>zMS (c:=d) hE wx hx);have HP:=Lib.hid (fun wx (hx:Fgs wx A n F) (hy:Lets wx B m L)=>zEf (d:=d) hp wx hx hc hy);have HR:=Lib.hid (show zBl F re lo K L=if v=false then 2 else if E≠0 then E else if p then 0 else 2 by unfold zBl;rw [hv,hE,hp]);clear hv hE hp;go_enter Tryz.func74,Tryz.ntmps74;go_wp2_with fail
 generalize ((w.alloc (.cells #[.slice A n c,.int .i64 re,.int .i64 lo] 24)).alloc (.cells #[.int .i64 K,.slice B m d] 55))=Y at hb0 hk0 hk1 ⊢;refine (HV.out _ (hA.below hb0)).mono ?_;rintro e Y2 ⟨rfl,hb2⟩;have hb3:=zAa hb0 hb2 hb0.size;have k2:=hk0.below hb2 hk0.lt;have k3:=hk1.below hb2 hk1.lt;clear hb2 hk0 hk1 hb0
 cases v with
 | false =>
  have HR2:=Lib.hid (HR.out.trans (if_pos rfl));clear HR;go_wp2_with fail
  go_ret;exact ⟨zKb HR2.out.symm,hb3⟩
 | true =>
  obtain ⟨c0,c1⟩:=cQ2 k3;go_wp2_with fail
  refine (HC.out _ (hB.below hb3)).mono ?_;rintro e Y3 ⟨rfl,hb4⟩;have hb5:=zAa hb3 hb4 hb3.size;have k4:=k2.below hb4 k2.lt;have k5:=k3.below hb4 k3.lt;clear hb4 k2 k3 c0 c1 hb3;by_cases h0:E=0
  ·subst h0;obtain ⟨c0,c1⟩:=cQ2 k5;obtain ⟨c2,c3,c4⟩:=cQ3 k4;go_wp2_with fail
   refine (HP.out _ (hA.below hb5) (hB.below hb5)).mono ?_;rintro e Y4 ⟨rfl,hb6⟩;have hb7:=zAa hb5 hb6 hb5.size;clear hb5 hb6 k4 k5 c0 c1 c2 c3 c4
   cases p with
   | false =>
    have HR2:=Lib.hid (show zBl F re lo K L=2 by rw [HR.out];simp);clear HR;go_wp2_with fail
    go_ret;exact ⟨zKb HR2.out.symm,hb7⟩
   | true =>
    have HR2:=Lib.hid (show zBl F re lo K L=0 by rw [HR.out];simp);clear HR;go_wp2_with fail
    go_ret;exact ⟨zKb HR2.out.symm,hb7⟩
  ·have q1:(E != 0)=true:=by simpa using h0
   have HR2:=Lib.hid (show zBl F re lo K L=E by rw [HR.out,if_neg (by simp),if_pos h0]);clear h0 HR;go_wp2_with fail
   go_ret;exact ⟨zKb HR2.out.symm,hb5⟩
theorem zEX {F:List Fg} {re lo K:Int} {L:List Lt} (h:zBl F re lo K L=0):zBs F re lo K L=true∧frOk F re lo∧zAB K L=0∧K=(F.length:Int)∧zCR L=true:=by
 have hp:zBs F re lo K L=true:=by
  unfold zBl at h;split at h
  ·omega
  ·split at h
   ·rename_i h1 h2;exact absurd h h2
   ·split at h
    ·rename_i h3;exact h3
    ·omega
 have hq:=hp;unfold zBs at hq;simp only [Bool.and_eq_true,beq_iff_eq] at hq;exact ⟨hp,zCA.1 hq.1.1.1,hq.1.1.2,hq.1.2,hq.2⟩
end Go.Proofs.YtlmdfmnbcndhoaaGreatDoor
namespace Go.Proofs.YtlmdfmnbcndhoaaGreatDoor
open Go.RowKit
structure Bi where
 f:Int
 n:Int
 b:Bool
instance : DecidableEq Bi := fun x y =>
 if h:x.f=y.f∧x.n=y.n∧x.b=y.b then .isTrue (by cases x;cases y;simp at h;simp [h])
 else .isFalse (fun e=>h (by subst e;simp))
def bi0:Bi:=⟨0,0,false⟩
def ba (l:List Bi) (i:Nat):Bi:=(l[i]?).getD bi0
theorem zKJ {l:List Bi} {i:Nat} (h:i < l.length):l[i]? = some (ba l i):=by unfold ba;rw [List.getElem?_eq_getElem h];rfl
theorem zWh {l:List Bi} {i:Nat} {x:Bi} (h:l[i]? = some x):ba l i=x:=by unfold ba;rw [h];rfl
def zHa (x:List UInt8):List UInt8×List UInt8×Bool:=Lib.cut x.dropLast [46]
def zCc (x:List UInt8) (c:UInt8):Bool:=decide (x.getLast? = some c)
noncomputable def zMT (L:List Fg) (x:List UInt8):Bi :=
 if (zHa x).2.2 then ⟨if zEx L (zHa x).1=0 then -1 else (zEx L (zHa x).1:Int),(zAs (zHa x).2.1).1,zCc x 62⟩
 else ⟨0,(zAs x.dropLast).1,zCc x 111⟩
noncomputable def zOa (x:List UInt8):Bool :=
 if (zHa x).2.2 then (zKs (zHa x).1||!(zCc x 62||zCc x 60))||!(zAs (zHa x).2.1).2
 else !(zCc x 111||zCc x 117)||!(zAs x.dropLast).2
def zSP (x:List UInt8):Bool:=!(zHa x).2.2
noncomputable def zUe (L:List Fg) (x:List UInt8):Bool:=(zHa x).2.2&&zEO L (zHa x).1
def zRK (T:List (List UInt8)):Bool:=match T with
 | []=>false
 | x :: _=>zSP x
noncomputable def zEA (T:List (List UInt8)):Bool:=T.any zOa||zRK T
noncomputable def zFJ (L:List Fg) (T:List (List UInt8)):Bool:=T.any (zUe L)
theorem zOb (T:List (List UInt8)) (x:List UInt8):zEA (T++[x])=(zEA T||(zOa x||(T.isEmpty&&zSP x))):=by
 unfold zEA
 cases T with
 | nil=>simp [zRK]
 | cons y T =>
  simp only [List.cons_append,List.any_cons,List.any_append,List.any_nil,zRK,List.isEmpty_cons,Bool.false_and,Bool.or_false]
  cases zOa y<;>cases T.any zOa<;>cases zOa x<;>cases zSP y<;>rfl
theorem zOc (L:List Fg) (T:List (List UInt8)) (x:List UInt8):zFJ L (T++[x])=(zFJ L T||zUe L x):=by simp [zFJ]
def zEY (b:Bi):Bi:=if 0 < b.f then ⟨b.f,b.n,false⟩ else b
def cntF (l:List Bi) (f:Int):Nat:=l.countP fun b=>decide (0 < b.f)&&b.f==f
def visN (l:List Bi):Nat:=l.countP fun b=>!decide (0 < b.f)
def zBS (k:Nat) (l:List Bi):List Int:=(List.range (k+2)).map fun f:Nat=>((cntF l (f:Int):Nat):Int)
def zIq (l:List Bi) (b:Bi):Bool:=(decide (0 < b.f)&&decide ((cntF l b.f:Int) < b.n))||(b.f==0&&(decide (((visN l / 2:Nat):Int) < b.n)||visN l % 2 != 0))
def zEZ (l:List Bi):Bool:=decide ((l.map zEY).Nodup)&&l.all fun b=>!zIq l b
def ia (M:List Int) (i:Int):Int:=(M[i.toNat]?).getD 0
def zGK (M:List Int) (b:Bi):List Lt :=
 if b.f=0 then [⟨2,0,0,b.n,0,b.b⟩]
 else if b.b then [⟨1,b.f-1,ia M (b.f-1)+b.n,0,0,false⟩,⟨1,b.f,ia M b.f-b.n+1,0,0,false⟩]
 else [⟨1,b.f,ia M b.f-b.n+1,0,0,false⟩,⟨1,b.f-1,ia M (b.f-1)+b.n,0,0,false⟩]
def zAO (M:List Int) (l:List Bi):List Lt:=l.flatMap (zGK M)
theorem zPP (M:List Int) (b:Bi):(zGK M b).length≤2:=by
 unfold zGK;split
 ·simp
 ·split<;>simp
theorem zOd (M:List Int) (l:List Bi):(zAO M l).length≤2*l.length:=by
 unfold zAO
 induction l with
 | nil=>simp
 | cons b l ih=>rw [List.flatMap_cons,List.length_append,List.length_cons];have:=zPP M b;omega
theorem zLU (l:List Bi) (f:Int):cntF l f≤l.length:=List.countP_le_length
theorem zLV (l:List Bi):visN l≤l.length:=List.countP_le_length
theorem zFa (k:Nat) (l:List Bi) {f:Nat} (h:f < k+2):(zBS k l)[f]? = some ((cntF l (f:Int):Nat):Int):=by
 unfold zBS;rw [List.getElem?_map,List.getElem?_range h];rfl
theorem zHb (k:Nat) (l:List Bi):(zBS k l).length=k+2:=by simp [zBS]
theorem zUf {l:List Bi} {b:Bi} {f:Int} (h:0 < b.f) (e:b.f=f):cntF (l++[b]) f=cntF l f+1:=by
 unfold cntF;rw [List.countP_append,List.countP_singleton,if_pos (by simp [e];omega)]
theorem zSQ {l:List Bi} {b:Bi} {f:Int} (h:¬(0 < b.f∧b.f=f)):cntF (l++[b]) f=cntF l f:=by
 unfold cntF;rw [List.countP_append,List.countP_singleton,if_neg (by simpa using h),Nat.add_zero]
theorem zUg {l:List Bi} {b:Bi} (h:¬0 < b.f):visN (l++[b])=visN l+1:=by
 unfold visN;rw [List.countP_append,List.countP_singleton,if_pos (by simpa using h)]
theorem zVr {l:List Bi} {b:Bi} (h:0 < b.f):visN (l++[b])=visN l:=by
 unfold visN;rw [List.countP_append,List.countP_singleton,if_neg (by simp [h]),Nat.add_zero]
theorem zRL (k:Nat) (l:List Bi) {b:Bi} {f:Nat} (h0:0 < b.f) (e:b.f=(f:Int)):(zBS k l).set f ((cntF l (f:Int):Int)+1)=zBS k (l++[b]):=by
 apply List.ext_getElem?;intro i;rw [List.getElem?_set];by_cases hi:i < k+2
 ·rw [zFa k _ hi];by_cases hf:f=i
  ·subst hf;rw [if_pos rfl,zHb,if_pos hi,zFa k _ hi,zUf h0 e];rfl
  ·rw [if_neg hf,zFa k _ hi,zSQ (fun h=>hf (by omega))]
 ·rw [List.getElem?_eq_none (by rw [zHb];omega),List.getElem?_eq_none (by rw [zHb];omega),zHb];split
  ·rename_i h1;rw [h1,if_neg hi]
  ·rfl
theorem zPQ (k:Nat) (l:List Bi) {b:Bi} (h0:¬0 < b.f):zBS k (l++[b])=zBS k l:=by
 unfold zBS;exact List.map_congr_left fun f _=>by rw [zSQ (fun h=>h0 h.1)]
def sgI (cr nu:Nat) (l:Lt):Int:=if (nu >>> (cr-l.id.toNat)) % 2=1 then 1 else -1
def sgL (cr nu:Nat) (l:Lt):Lt:=if isC l then { l with sign:=sgI cr nu l } else l
def zBt (cr nu:Nat) (L:List Lt):List Lt:=L.map (sgL cr nu)
def zUh (L:List Lt) (i:Nat):Int:=if (la L i).gate≤(la L (i+1)).gate then (la L (i+1)).gate else (la L i).gate
def lpC (L:List Lt) (g:Int) (m:Nat):Nat:=zAc (fun i=>(isP (la L i)&&dwn L i)&&zUh L i==g) m
def zCa (K:Nat) (L:List Lt) (m:Nat):List Int:=(List.range (K+2)).map fun g:Nat=>((lpC L (g:Int) m:Nat):Int)
theorem zFK (K:Nat) (L:List Lt) (m:Nat) {g:Nat} (h:g < K+2):(zCa K L m)[g]? = some ((lpC L (g:Int) m:Nat):Int):=by
 unfold zCa;rw [List.getElem?_map,List.getElem?_range h];rfl
theorem zFL (K:Nat) (L:List Lt) (m:Nat):(zCa K L m).length=K+2:=by simp [zCa]
theorem zMU (L:List Lt) (g:Int) (m:Nat):lpC L g m≤m:=zBv _ _
theorem zPR (K:Nat) (L:List Lt) {m g:Nat} (h:(isP (la L m)&&dwn L m)=true) (e:zUh L m=(g:Int)):(zCa K L m).set g ((lpC L (g:Int) m:Int)+1)=zCa K L (m+1):=by
 apply List.ext_getElem?;intro i;rw [List.getElem?_set];by_cases hi:i < K+2
 ·rw [zFK K L _ hi];by_cases hf:g=i
  ·subst hf;rw [if_pos rfl,zFL,if_pos hi,zFK K L _ hi,show lpC L (g:Int) (m+1)=lpC L (g:Int) m+1 from zAm (by rw [h,e];simp)];rfl
  ·rw [if_neg hf,zFK K L _ hi,show lpC L (i:Int) (m+1)=lpC L (i:Int) m from zAi (by rw [h,e];simp;omega)]
 ·rw [List.getElem?_eq_none (by rw [zFL];omega),List.getElem?_eq_none (by rw [zFL];omega),zFL];split
  ·rename_i h1;rw [h1,if_neg hi]
  ·rfl
theorem zIM (K:Nat) (L:List Lt) {m:Nat} (h:(isP (la L m)&&dwn L m)=false):zCa K L (m+1)=zCa K L m:=by
 unfold zCa;exact List.map_congr_left fun g _=>by rw [show lpC L (g:Int) (m+1)=lpC L (g:Int) m from zAi (by rw [h];rfl)]
theorem zOe (K:Nat) (L:List Lt):zCa K L 0=List.replicate (K+2) 0:=by
 unfold zCa;rw [List.eq_replicate_iff]
 exact ⟨by simp,fun b hb=>by
  obtain ⟨g,_,rfl⟩:=List.mem_map.1 hb
  simp [lpC,zAc]⟩
theorem zRM (k:Nat):zBS k []=List.replicate (k+2) 0:=by
 unfold zBS;rw [List.eq_replicate_iff]
 exact ⟨by simp,fun b hb=>by
  obtain ⟨g,_,rfl⟩:=List.mem_map.1 hb
  simp [cntF]⟩
def zBL (L:List Lt) (i:Nat):Lt:=if (la L (i+1)).gate < (la L i).gate then la L (i+1) else la L i
def zRN (L:List Lt) (i:Nat):UInt8:=if (la L (i+1)).gate < (la L i).gate then 60 else 62
def zWi (l:Lt):List UInt8:=Lib.itoa l.id++[if l.over then 111 else 117]
def zKK (F:List Fg) (L:List Lt) (i:Nat):List UInt8:=nmF F ((zBL L i).gate+1)++[46]++Lib.itoa ((zBL L i).rank-(lpC L (zBL L i).gate L.length:Int))++[zRN L i]
def zGs (F:List Fg) (L:List Lt) (i:Nat):List (List UInt8) :=
 if isC (la L i) then [zWi (la L i)] else if dwn L i then [zKK F L i] else []
def zFb (F:List Fg) (L:List Lt) (m:Nat):List (List UInt8):=(List.range m).flatMap (zGs F L)
theorem zEt (F:List Fg) (L:List Lt) (m:Nat):zFb F L (m+1)=zFb F L m++zGs F L m:=by simp [zFb,List.range_succ]
def zGt:List UInt8:=[98,97,114,101]
def zGL (F:List Fg) (L:List Lt):List UInt8:=if L.length=0 then zGt else Lib.join (zFb F L L.length) [32]
end Go.Proofs.YtlmdfmnbcndhoaaGreatDoor
namespace Go.Proofs.YtlmdfmnbcndhoaaGreatDoor
def zVM (L:List Lt):Prop:=∀i,i < L.length→isP (la L i)=true→dwn L i=true→i+1 < L.length∧isP (la L (i+1))=true
section
variable {K:Int} {L:List Lt} {a:Nat}
theorem zIb {v:Nat} (h:isP (la L v)=true) (hc:isC (la L v)=true):False:=by rw [zCq h] at hc;cases hc
theorem zLW {v:Nat} (h:isC (la L v)=true):isP (la L v)=false:=by
 cases hq:isP (la L v) with
 | false=>rfl
 | true=>exact (zIb hq h).elim
theorem Good.fineA (g:Good K L) {X:Nat→Nat} (hX:Col L X) (hp:isP (la L a)=true) (hp2:isP (la L (a+1))=true) (hk:∀e,e < L.length→e≠a→nwB L (e+1)=false→X (2*e)=X (2*e+1)) :
  ∀e,e < L.length→e≠a→X (2*e)=X (2*e+1):=by
 have key:∀t e,e < L.length→e≠a→L.length-e=t→X (2*e)=X (2*e+1):=by
  intro t
  induction t using Nat.strongRecOn with
  | ind t ih =>
   intro e he hea ht
   cases hn:nwB L (e+1) with
   | false=>exact hk e he hea hn
   | true =>
    unfold nwB at hn;simp only [Bool.and_eq_true,zAt] at hn;obtain ⟨hc,hno⟩:=hn;obtain ⟨h1,h2,h3,_,_,_⟩:=g.other hc;have hi:=zBB hc;have hj:=zBB h2;have hlt:e+1 < zCr L (e+1):=by
     rcases Nat.lt_trichotomy (zCr L (e+1)) (e+1) with h | h | h
     ·have:=hno _ h;rw [h2,h3] at this;simp at this
     ·exact absurd h h1
     ·exact h
    have f1:=ih (L.length-(e+1)) (by omega) (e+1) hi (fun h=>zIb (by rw [h];exact hp) hc) rfl;have f2:=ih (L.length-zCr L (e+1)) (by omega) (zCr L (e+1)) hj (fun h=>zIb (by rw [h];exact hp) h2) rfl;have f3:=ih (L.length-(zCr L (e+1)-1)) (by omega) (zCr L (e+1)-1) (by omega) (fun h=>zIb (v:=zCr L (e+1)) (by rw [show zCr L (e+1)=a+1 by omega];exact hp2) h2) rfl;have f:=g.four hX hc;rw [show e+1-1=e by omega] at f;rcases f with ⟨a,b,c,d⟩ | ⟨a,b,c,d⟩
    ·rw [a,f2,d,f1,b,←f3,c]
    ·rw [a,←f3,c,f1,b,f2,d]
 exact fun e he hea=>key _ e he hea rfl
variable {X:Nat→Nat}
theorem Good.p1A (g:Good K L) (hX:Col L X) (hf:∀e,e < L.length→e≠a→X (2*e)=X (2*e+1)) (hda:dwn L a=true) {v:Nat} (hp:isP (la L v)=true):X (2*L.length+2*atN L v)=X (2*upE L v):=by
 have hv:=zBi hp;have hpv:=zCQ hv
 cases hd:dwn L v with
 | true =>
  have e:=g.left_pass (d:=2*zCb L.length v) (by omega) (by rw [zBE hv];exact hp);rw [zBE hv,hd,if_pos (by simp)] at e;have:=hX.step (2*zCb L.length v) (by unfold zAu;omega);rw [e] at this;rw [this];unfold upE;rw [hd,if_pos rfl]
 | false =>
  have e:=g.left_pass (d:=2*v+1) (by omega) (by rw [zCj];exact hp);rw [zCj,hd,if_pos (by simp)] at e;have:=hX.step (2*v+1) (by unfold zAu;omega);rw [e] at this;rw [this,←hf v hv (fun h=>by rw [h,hda] at hd;cases hd)];unfold upE;rw [hd];simp
theorem zWj {v:Nat} (hv:v < L.length) (ha:a+1 < L.length) (hda:dwn L (a+1)=false) (hd:dwn L v=true):zCb L.length v≠a:=fun h=>by
 rcases Nat.eq_zero_or_pos v with h0 | h0
 ·subst h0;unfold zCb at h;rw [Nat.zero_add,Nat.mod_eq_of_lt (by omega)] at h;omega
 ·rw [zCI hv h0] at h;rw [show v=a+1 by omega,hda] at hd;cases hd
theorem Good.below (g:Good K L) (hA:zVM L):∀e,e < L.length→dwn L (e+1)=false→isP (la L e)=true∧dwn L e=true:=by
 intro e
 induction e with
 | zero =>
  intro _ hd;rw [zOt g.first] at hd;exact ⟨g.first,by simpa using hd⟩
 | succ e ih =>
  intro he hd;rcases g.kinds (e+1) he with hp | hc
  ·rw [zOt hp] at hd;exact ⟨hp,by simpa using hd⟩
  ·rw [zUK (zLW hc)] at hd;obtain ⟨h1,h2⟩:=ih (by omega) hd;exact (zIb (hA e (by omega) h1 h2).2 hc).elim
def lfE (L:List Lt) (v:Nat):Nat:=if dwn L v then 2*v+1 else 2*zCb L.length v
def rgE (L:List Lt) (v:Nat):Nat:=if dwn L v then 2*v else 2*zCb L.length v+1
theorem Good.p2A (g:Good K L) (hX:Col L X) {v:Nat} (hp:isP (la L v)=true):X (2*L.length+2*((atN L v+(axL L).length-1) % (axL L).length)+1)=X (lfE L v):=by
 have hv:=zBi hp;have hpv:=zCQ hv;unfold lfE
 cases hd:dwn L v with
 | true =>
  have e:=g.left_pass (d:=2*v+1) (by omega) (by rw [zCj];exact hp);rw [zCj,hd,if_neg (by simp)] at e;have:=hX.step (2*v+1) (by unfold zAu;omega);rw [e] at this;rw [this,if_pos rfl]
 | false =>
  have e:=g.left_pass (d:=2*zCb L.length v) (by omega) (by rw [zBE hv];exact hp);rw [zBE hv,hd,if_neg (by simp)] at e;have:=hX.step (2*zCb L.length v) (by unfold zAu;omega);rw [e] at this;rw [this];simp
theorem Good.p4A (_g:Good K L) (hX:Col L X) {j:Nat} (hj:j < (axL L).length):X (2*L.length+2*j+1)=X (rgE L (xat (axL L) j)):=by
 have hs:=hX.step (2*L.length+2*j+1) (by unfold zAu;omega);rw [←hs];unfold zAy;rw [if_pos (by omega),if_neg (by omega),show (2*L.length+2*j+1-2*L.length) / 2=j by omega];generalize xat (axL L) j=v;unfold rgE
 cases hd:dwn L v with
 | true=>rw [if_pos rfl,zIa]
 | false=>rw [zHZ];simp
theorem Good.stepA (g:Good K L) (hX:Col L X) {j:Nat} (hj:j+1 < (axL L).length):X (2*L.length+2*j+1)=X (lfE L (xat (axL L) (j+1))):=by
 have h1:=g.p2A hX (zBW (L:=L) (j:=j+1) hj).1;rw [g.at_xat hj,show j+1+(axL L).length-1=j+(axL L).length by omega,Nat.add_mod_right,Nat.mod_eq_of_lt (show j < (axL L).length by omega)] at h1;exact h1
theorem zPS (hf:∀e,e < L.length→e≠a→X (2*e)=X (2*e+1)) (ha:a+1 < L.length) {v:Nat} (hv:v < L.length) (h1:v≠a) (h2:v≠a+1):X (lfE L v)=X (rgE L v):=by
 unfold lfE rgE
 cases hd:dwn L v with
 | true=>rw [if_pos rfl,if_pos rfl,hf v hv h1]
 | false =>
  rw [if_neg (by simp),if_neg (by simp),hf _ (zCQ hv) (fun h=>?_)];rcases Nat.eq_zero_or_pos v with h0 | h0
  ·subst h0;unfold zCb at h;rw [Nat.zero_add,Nat.mod_eq_of_lt (by omega)] at h;omega
  ·rw [zCI hv h0] at h;omega
theorem Good.runA (g:Good K L) (hX:Col L X) (hf:∀e,e < L.length→e≠a→X (2*e)=X (2*e+1)) (ha:a+1 < L.length) {i:Nat} :
  ∀{j:Nat},i≤j→j < (axL L).length→(∀t,i < t→t≤j→xat (axL L) t≠a∧xat (axL L) t≠a+1)→X (2*L.length+2*i+1)=X (2*L.length+2*j+1):=by
 intro j
 induction j with
 | zero=>intro h _ _;rw [show i=0 by omega]
 | succ j ih =>
  intro hij hj hn;rcases Nat.eq_or_lt_of_le hij with h | h
  ·rw [h]
  ·rw [ih (by omega) (by omega) (fun t h1 h2=>hn t h1 (by omega)),g.stepA hX hj,g.p4A hX hj];obtain ⟨n1,n2⟩:=hn (j+1) h (Nat.le_refl _);exact zPS hf ha (zBW hj).2 n1 n2
end
theorem zKL {W n:Nat} {a b:Nat→Nat} {kept:Nat→Bool} (h:zAc kept n+3≤W):∃c:Nat→Nat,(∀e,e < n→kept e=true→c (a e)=c (b e))∧∃x y z,x < W∧y < W∧z < W∧c x≠c y∧c x≠c z∧c y≠c z:=by
 obtain ⟨c,h1,h2,h3⟩:=ties W a b kept n;refine ⟨c,h2,?_⟩;have h4:3≤zAc (fun k=>c k==k) W:=by omega
 obtain ⟨x,hx,px⟩:=zNt (p:=fun k=>c k==k) (n:=W) (by omega);have h5:=zMR (p:=fun k=>c k==k) (q:=fun k=>c k==k&&k != x) (z:=x) (n:=W) (fun m _ hp hz=>by simp only [hp,Bool.true_and];simpa using hz);obtain ⟨y,hy,py⟩:=zNt (p:=fun k=>c k==k&&k != x) (n:=W) (by omega);have h6:=zMR (p:=fun k=>c k==k&&k != x) (q:=fun k=>(c k==k&&k != x)&&k != y) (z:=y) (n:=W) (fun m _ hp hz=>by simp only [hp,Bool.true_and];simpa using hz);obtain ⟨z,hz,pz⟩:=zNt (p:=fun k=>(c k==k&&k != x)&&k != y) (n:=W) (by omega);simp only [Bool.and_eq_true,beq_iff_eq,bne_iff_ne,ne_eq] at px py pz;exact ⟨x,y,z,hx,hy,hz,by rw [px,py.1];exact fun e=>py.2 e.symm,by rw [px,pz.1.1];exact fun e=>pz.1.2 e.symm,by rw [py.1,pz.1.1];exact fun e=>pz.2 e.symm⟩
section
variable {K:Int} {L:List Lt}
theorem Good.colorA (g:Good K L) (h:zFX L=true) {a:Nat} (hp:isP (la L a)=true) (hp2:isP (la L (a+1))=true):∃X:Nat→Nat,Col L X∧(∀e,e < L.length→e≠a→X (2*e)=X (2*e+1)) ∧
  ∃x y z,x < zAu L∧y < zAu L∧z < zAu L∧X x≠X y∧X x≠X z∧X y≠X z:=by
 have ha:=zBi hp;obtain ⟨lab,l1,l2,l3,l4⟩:=zPO g.inj (fun x hx=>g.into hx) (Ws:=zBz L) rfl;unfold zFX at h;simp only [beq_iff_eq] at h;have hkc:=zLR g;have hnw:dN L L.length=cN L L.length / 2:=zTu (by unfold zBM;simp only [Bool.and_eq_true,decide_eq_true_eq,zAt];exact ⟨g.ceven,g.cross⟩);have hkept:zAc (fun e=>!nwB L (e+1)) L.length+dN L L.length=L.length:=by
  have hs:∀n,zAc (fun e=>!nwB L (e+1)) n+dN L (n+1)=n:=by
   intro n
   induction n with
   | zero =>
    show 0+zAc (nwB L) 1=0;rw [zAi (by unfold nwB;rw [zCq g.first];rfl)];rfl
   | succ n ih =>
    unfold dN at ih ⊢
    cases hq:nwB L (n+1) with
    | true=>rw [zAi (p:=fun e=>!nwB L (e+1)) (by rw [hq];rfl),zAm hq];omega
    | false=>rw [zAm (p:=fun e=>!nwB L (e+1)) (by rw [hq];rfl),zAi hq];omega
  have:=hs L.length;unfold dN at this ⊢;rw [zAi (by unfold nwB;rw [zTv (Nat.le_refl _)];rfl)] at this;exact this
 have hlt:=zOw (p:=fun e=>!nwB L (e+1)&&e != a) (q:=fun e=>!nwB L (e+1)) (n:=L.length) (i:=a) (fun m _ hm=>by
  simp only [Bool.and_eq_true] at hm;exact hm.1) ha (by
  unfold nwB;rw [zCq hp2];rfl) (by simp)
 have hce:=g.ceven;obtain ⟨c,c1,x,y,z,hx,hy,hz,n1,n2,n3⟩:=zKL (W:=(zBz L).length) (n:=L.length) (a:=fun e=>lab (2*e)) (b:=fun e=>lab (2*e+1)) (kept:=fun e=>!nwB L (e+1)&&e != a) (by omega);have hX:Col L (fun d=>c (lab d)):=⟨fun d hd=>by show c _=c _;rw [l3 d hd]⟩;refine ⟨fun d=>c (lab d),hX,?_,?_⟩
 ·exact g.fineA hX hp hp2 (fun e he hea hn=>c1 e he (by rw [hn];simpa using hea))
 ·obtain ⟨u,hu,rfl⟩:=l4 x hx;obtain ⟨v,hv,rfl⟩:=l4 y hy;obtain ⟨t,ht,rfl⟩:=l4 z hz;exact ⟨u,v,t,hu,hv,ht,n1,n2,n3⟩
theorem Good.arcs (g:Good K L) (h:zFX L=true) (hA:zVM L) {a b u u' v v':Nat} (hp:isP (la L a)=true) (hd:dwn L a=true) (hpb:isP (la L b)=true) (hdb:dwn L b=true) (hab:a≠b)
  (hu:(u=atN L a∧u'=atN L (a+1))∨(u=atN L (a+1)∧u'=atN L a)) (hv:(v=atN L b∧v'=atN L (b+1))∨(v=atN L (b+1)∧v'=atN L b)):¬(u < v∧v < u'∧u' < v'):=by
 rintro ⟨o1,o2,o3⟩;obtain ⟨ha1,hp2⟩:=hA a (zBi hp) hp hd;obtain ⟨hb1,hpb2⟩:=hA b (zBi hpb) hpb hdb;have hd2:dwn L (a+1)=false:=by rw [zOt hp,hd];rfl
 have hdb2:dwn L (b+1)=false:=by rw [zOt hpb,hdb];rfl
 obtain ⟨X,hX,hf,x,y,z,hx,hy,hz,n1,n2,n3⟩:=g.colorA h hp hp2;have hm:=g.m_pos;have hxa:∀{t:Nat},t < (axL L).length→xat (axL L) t=a→t=atN L a:=fun ht e=>by rw [←e,g.at_xat ht]
 have hxa2:∀{t:Nat},t < (axL L).length→xat (axL L) t=a+1→t=atN L (a+1):=fun ht e=>by rw [←e,g.at_xat ht]
 have la1:=g.at_lt hp;have la2:=g.at_lt hp2;have lb1:=g.at_lt hpb;have lb2:=g.at_lt hpb2;have hne:∀{t:Nat},t < (axL L).length→t≠u→t≠u'→xat (axL L) t≠a∧xat (axL L) t≠a+1:=fun ht h1 h2 =>
  ⟨fun e=>by have:=hxa ht e;rcases hu with ⟨e1,e2⟩ | ⟨e1,e2⟩<;>omega,fun e=>by have:=hxa2 ht e;rcases hu with ⟨e1,e2⟩ | ⟨e1,e2⟩<;>omega⟩
 have lv':v' < (axL L).length:=by rcases hv with ⟨e1,e2⟩ | ⟨e1,e2⟩<;>omega
 -- the colors between u and u', and behind u'
 have r1:=g.runA hX hf ha1 (i:=u) (j:=v) (by omega) (by omega) (fun t h1 h2=>hne (by omega) (by omega) (by omega));have r2:=g.runA hX hf ha1 (i:=u') (j:=v') (by omega) (by omega) (fun t h1 h2=>hne (by omega) (by omega) (by omega))
 -- the other arc joins both
 have rv:X (2*L.length+2*v+1)=X (2*L.length+2*v'+1):=by
  have hfb:=hf b (by omega) (fun e=>hab e.symm);have e1:=g.p4A hX (j:=atN L b) lb1;have e2:=g.p4A hX (j:=atN L (b+1)) lb2;rw [g.xat_at hpb] at e1;rw [g.xat_at hpb2] at e2;unfold rgE at e1 e2;rw [hdb,if_pos rfl] at e1;rw [hdb2,if_neg (by simp),zCI hb1 (by omega),Nat.add_sub_cancel] at e2;rcases hv with ⟨h1,h2⟩ | ⟨h1,h2⟩
  ·rw [h1,h2,e1,e2,hfb]
  ·rw [h1,h2,e1,e2,hfb]
 -- so the two sides of the first arc are of one color
 have ea1:=g.p4A hX (j:=atN L a) la1;have ea2:=g.p4A hX (j:=atN L (a+1)) la2;rw [g.xat_at hp] at ea1;rw [g.xat_at hp2] at ea2;unfold rgE at ea1 ea2;rw [hd,if_pos rfl] at ea1;rw [hd2,if_neg (by simp),zCI ha1 (by omega),Nat.add_sub_cancel] at ea2;have hsame:X (2*a)=X (2*a+1):=by
  rcases hu with ⟨h1,h2⟩ | ⟨h1,h2⟩
  ·rw [←ea1,←ea2,←h1,←h2,r1,rv,←r2]
  ·rw [←ea1,←ea2,←h1,←h2,r2,←rv,←r1]
 have hall:∀e,e < L.length→X (2*e)=X (2*e+1):=fun e he=>by
  by_cases h:e=a
  ·rw [h];exact hsame
  ·exact hf e he h
 -- all pieces below are of one color
 have hpc:∀j,j < (axL L).length→X (2*L.length+2*j+1)=X (2*loE L (xat (axL L) 0)):=fun j hj=>by
  rw [g.p4 hX hall hj];exact g.lo_const hX hall j hj
 have hed:=g.edges hX hall;have all:∀d,d < zAu L→X d=X (2*upE L (xat (axL L) 0))∨X d=X (2*loE L (xat (axL L) 0)):=by
  intro d hd;unfold zAu at hd;have hs:∀t,t < L.length→X (2*t)=X (2*upE L (xat (axL L) 0))∨X (2*t)=X (2*loE L (xat (axL L) 0)):=fun t ht=>by
   rw [hed t ht];split
   ·exact .inl rfl
   ·exact .inr rfl
  rcases Nat.lt_or_ge d (2*L.length) with hl | hl
  ·rcases Nat.mod_two_eq_zero_or_one d with h2 | h2
   ·have:=hs (d / 2) (by omega)
    rwa [show 2*(d / 2)=d by omega] at this
   ·have:=hs (d / 2) (by omega);rw [hall _ (by omega)] at this
    rwa [show 2*(d / 2)+1=d by omega] at this
  ·rcases Nat.mod_two_eq_zero_or_one d with h2 | h2
   ·have:=g.p3 hX hall (j:=(d-2*L.length) / 2) (by omega);rw [show 2*L.length+2*((d-2*L.length) / 2)=d by omega] at this;rw [this];exact .inl (g.up_const hX hall _ (Nat.mod_lt _ hm))
   ·have:=hpc ((d-2*L.length) / 2) (by omega);rw [show 2*L.length+2*((d-2*L.length) / 2)+1=d by omega] at this;exact .inr this
 have a1:=all x hx;have a2:=all y hy;have a3:=all z hz;rcases a1 with a1 | a1<;>rcases a2 with a2 | a2<;>rcases a3 with a3 | a3
 all_goals first
  | exact n1 (a1.trans a2.symm)
  | exact n2 (a1.trans a3.symm)
  | exact n3 (a2.trans a3.symm)
end
end Go.Proofs.YtlmdfmnbcndhoaaGreatDoor
