/-
  Lemmas, part 31. Conditions: each theorem's own.
-/
import Derived.Test.YtlmdfmnbcndhoaaGreatDoorRi30
import Derived.Test.YtlmdfmnbcndhoaaGreatDoorRi24
namespace Go.Proofs.YtlmdfmnbcndhoaaGreatDoor
open Go.RowKit
def zCt (F:List Fg) (re lo K:Int) (L:List Lt):Bool:=frB F re lo&&(zBk K L==0)&&(K==(F.length:Int))&&zDZ L
def zCP (F:List Fg) (re lo K:Int) (L:List Lt):Int:=if frB F re lo=false then 2 else if zBk K L≠0 then zBk K L else if zCt F re lo K L then 0 else 2
theorem zMg {K E:Int} {A:Option Addr} {n c:Nat} {L:List Lt} (h:zBk K L=E) (w:World) (hA:Lets w A n L):Calls Tryz.prog 122 #[.agg #[.int .i64 K,.slice A n c]] w fun e w'=>e=.returned (.int .i64 E)∧Below w.heap.size w w':=by
 subst h;exact zNk K A n c L w hA
theorem zRl {K:Int} {A:Option Addr} {n c:Nat} {L:List Lt} {b:Bool} (h:zDZ L=b) (w:World) (hA:Lets w A n L) (h0:zBk K L=0):Calls Tryz.prog 130 #[.agg #[.int .i64 K,.slice A n c]] w fun e w'=>e=.returned (.bool b)∧Below w.heap.size w w':=by
 have ht:=zEZ h0;have hl:=hA.len;subst h;exact zNl K A n c L w hA (by have:=ht.len;omega) (fun i hi hp=>by have:=ht.pass i (by omega) hp;have:=ht.hi;omega)
set_option maxHeartbeats 3200000 in
theorem zNm (A:Option Addr) (n c:Nat) (F:List Fg) (re lo K:Int) (B:Option Addr) (m d:Nat) (L:List Lt) (w:World) (hA:Fgs w A n F) (hc:n≤c) (hB:Lets w B m L) :
  Calls Tryz.prog 83 #[frV A n c re lo,.agg #[.int .i64 K,.slice B m d]] w fun e w'=>e=.returned (.bool (zCt F re lo K L))∧Below w.heap.size w w':=by
 have hb0:Below w.heap.size w ((w.alloc (.cells #[.slice A n c,.int .i64 re,.int .i64 lo] 24)).alloc (.cells #[.int .i64 K,.slice B m d] 55)):=((Below.refl _ _).alloc (Nat.le_refl _) _).alloc (by simp) _;have hk0:Blk ((w.alloc (.cells #[.slice A n c,.int .i64 re,.int .i64 lo] 24)).alloc (.cells #[.int .i64 K,.slice B m d] 55)) w.heap.size 24 #[.slice A n c,.int .i64 re,.int .i64 lo]:=(Blk.new w _ _).alloc _;have hk1:Blk ((w.alloc (.cells #[.slice A n c,.int .i64 re,.int .i64 lo] 24)).alloc (.cells #[.int .i64 K,.slice B m d] 55)) (w.heap.size+1) 55 #[.int .i64 K,.slice B m d]:=heap_alloc2_new w _ _;have hFl:=hA.len;obtain ⟨v,hv⟩:∃v,frB F re lo=v:=⟨_,rfl⟩
 have HV:=qH (fun wx (hx:Fgs wx A n F)=>zEx hv A n c wx hx hc);have HR:=qH (show zCt F re lo K L=(v&&(zBk K L==0)&&(K==(n:Int))&&zDZ L) by unfold zCt;rw [hv,hFl]);rw [HR.out];clear hv hFl
 cases v with
 | false =>
  go_enter Tryz.func83,Tryz.ntmps83;go_wp2_with fail
  generalize ((w.alloc (.cells #[.slice A n c,.int .i64 re,.int .i64 lo] 24)).alloc (.cells #[.int .i64 K,.slice B m d] 55))=Y at hb0 hk0 hk1 ⊢;refine (HV.out _ (hA.below hb0)).mono ?_;rintro e Y2 ⟨rfl,hb2⟩;have hb3:=zAa hb0 hb2 hb0.size;clear hb2 hk0 hk1;go_wp2_with fail
  go_ret;exact ⟨rfl,hb3⟩
 | true =>
  obtain ⟨E,hE⟩:∃E,zBk K L=E:=⟨_,rfl⟩
  have HC:=qH (fun wx (hx:Lets wx B m L)=>zMg (c:=d) hE wx hx);rw [hE];have HE:=qH hE;clear hE HR;by_cases h0:E=0
  ·subst h0;by_cases hK:K=(n:Int)
   ·have q1:(K==(n:Int))=true:=by simpa using hK
    obtain ⟨p,hp⟩:∃p,zDZ L=p:=⟨_,rfl⟩
    have HP:=qH (fun wx (hx:Lets wx B m L)=>zRl (c:=d) hp wx hx HE.out);rw [hp];clear hp hK;go_enter Tryz.func83,Tryz.ntmps83;go_wp2_with fail
    generalize ((w.alloc (.cells #[.slice A n c,.int .i64 re,.int .i64 lo] 24)).alloc (.cells #[.int .i64 K,.slice B m d] 55))=Y at hb0 hk0 hk1 ⊢;refine (HV.out _ (hA.below hb0)).mono ?_;rintro e Y2 ⟨rfl,hb2⟩;have hb3:=zAa hb0 hb2 hb0.size;have k2:=hk0.below hb2 hk0.lt;have k3:=hk1.below hb2 hk1.lt;clear hb2 hk0 hk1;obtain ⟨c0,c1⟩:=cQ2 k3;go_wp2_with fail
    refine (HC.out _ (hB.below hb3)).mono ?_;rintro e Y3 ⟨rfl,hb4⟩;have hb5:=zAa hb3 hb4 hb3.size;have k4:=k2.below hb4 k2.lt;have k5:=k3.below hb4 k3.lt;clear hb4 k2 k3 c0 c1 hb3;obtain ⟨c0,c1⟩:=cQ2 k5;have c2:Y3.cell? ⟨w.heap.size,0,none⟩=some (.slice A n c):=(k4.cell 0).trans rfl;go_wp2_with fail
    refine (HP.out _ (hB.below hb5)).mono ?_;rintro e Y4 ⟨rfl,hb6⟩;have hb7:=zAa hb5 hb6 hb5.size;clear hb5 hb6 k4 k5 c0 c1 c2;go_wp2_with fail
    go_ret;exact ⟨by rw [q1];simp,hb7⟩
   ·have q1:(K==(n:Int))=false:=by simpa using hK
    clear hK;go_enter Tryz.func83,Tryz.ntmps83;go_wp2_with fail
    generalize ((w.alloc (.cells #[.slice A n c,.int .i64 re,.int .i64 lo] 24)).alloc (.cells #[.int .i64 K,.slice B m d] 55))=Y at hb0 hk0 hk1 ⊢;refine (HV.out _ (hA.below hb0)).mono ?_;rintro e Y2 ⟨rfl,hb2⟩;have hb3:=zAa hb0 hb2 hb0.size;have k2:=hk0.below hb2 hk0.lt;have k3:=hk1.below hb2 hk1.lt;clear hb2 hk0 hk1;obtain ⟨c0,c1⟩:=cQ2 k3;go_wp2_with fail
    refine (HC.out _ (hB.below hb3)).mono ?_;rintro e Y3 ⟨rfl,hb4⟩;have hb5:=zAa hb3 hb4 hb3.size;have k4:=k2.below hb4 k2.lt;have k5:=k3.below hb4 k3.lt;clear hb4 k2 k3 c0 c1 hb3;have c0:Y3.cell? ⟨w.heap.size+1,0,none⟩=some (.int .i64 K):=(k5.cell 0).trans rfl;have c2:Y3.cell? ⟨w.heap.size,0,none⟩=some (.slice A n c):=(k4.cell 0).trans rfl;go_wp2_with fail
    go_ret;exact ⟨by rw [q1];simp,hb5⟩
  ·have q1:(E==0)=false:=by simpa using h0
   clear h0;go_enter Tryz.func83,Tryz.ntmps83;go_wp2_with fail
   generalize ((w.alloc (.cells #[.slice A n c,.int .i64 re,.int .i64 lo] 24)).alloc (.cells #[.int .i64 K,.slice B m d] 55))=Y at hb0 hk0 hk1 ⊢;refine (HV.out _ (hA.below hb0)).mono ?_;rintro e Y2 ⟨rfl,hb2⟩;have hb3:=zAa hb0 hb2 hb0.size;have k3:=hk1.below hb2 hk1.lt;clear hb2 hk0 hk1;obtain ⟨c0,c1⟩:=cQ2 k3;go_wp2_with fail
   refine (HC.out _ (hB.below hb3)).mono ?_;rintro e Y3 ⟨rfl,hb4⟩;have hb5:=zAa hb3 hb4 hb3.size;clear hb4 k3 c0 c1 hb3;go_wp2_with fail
   go_ret;exact ⟨by rw [q1];simp,hb5⟩
theorem zFR {A:Option Addr} {n c:Nat} {F:List Fg} {re lo K:Int} {B:Option Addr} {m d:Nat} {L:List Lt} {b:Bool} (h:zCt F re lo K L=b) (w:World) (hA:Fgs w A n F) (hc:n≤c) (hB:Lets w B m L) :
  Calls Tryz.prog 83 #[frV A n c re lo,.agg #[.int .i64 K,.slice B m d]] w fun e w'=>e=.returned (.bool b)∧Below w.heap.size w w':=by
 subst h;exact zNm A n c F re lo K B m d L w hA hc hB
set_option maxHeartbeats 3200000 in
theorem zLm (A:Option Addr) (n c:Nat) (F:List Fg) (re lo K:Int) (B:Option Addr) (m d:Nat) (L:List Lt) (w:World) (hA:Fgs w A n F) (hc:n≤c) (hB:Lets w B m L) :
  Calls Tryz.prog 74 #[frV A n c re lo,.agg #[.int .i64 K,.slice B m d]] w fun e w'=>e=.returned (.int .i64 (zCP F re lo K L))∧Below w.heap.size w w':=by
 have hb0:Below w.heap.size w ((w.alloc (.cells #[.slice A n c,.int .i64 re,.int .i64 lo] 24)).alloc (.cells #[.int .i64 K,.slice B m d] 55)):=((Below.refl _ _).alloc (Nat.le_refl _) _).alloc (by simp) _;have hk0:Blk ((w.alloc (.cells #[.slice A n c,.int .i64 re,.int .i64 lo] 24)).alloc (.cells #[.int .i64 K,.slice B m d] 55)) w.heap.size 24 #[.slice A n c,.int .i64 re,.int .i64 lo]:=(Blk.new w _ _).alloc _;have hk1:Blk ((w.alloc (.cells #[.slice A n c,.int .i64 re,.int .i64 lo] 24)).alloc (.cells #[.int .i64 K,.slice B m d] 55)) (w.heap.size+1) 55 #[.int .i64 K,.slice B m d]:=heap_alloc2_new w _ _;obtain ⟨v,hv⟩:∃v,frB F re lo=v:=⟨_,rfl⟩
 obtain ⟨E,hE⟩:∃E,zBk K L=E:=⟨_,rfl⟩
 obtain ⟨p,hp⟩:∃p,zCt F re lo K L=p:=⟨_,rfl⟩
 have HV:=qH (fun wx (hx:Fgs wx A n F)=>zEx hv A n c wx hx hc);have HC:=qH (fun wx (hx:Lets wx B m L)=>zMg (c:=d) hE wx hx);have HP:=qH (fun wx (hx:Fgs wx A n F) (hy:Lets wx B m L)=>zFR (d:=d) hp wx hx hc hy);have HR:=qH (show zCP F re lo K L=if v=false then 2 else if E≠0 then E else if p then 0 else 2 by unfold zCP;rw [hv,hE,hp]);clear hv hE hp;go_enter Tryz.func74,Tryz.ntmps74;go_wp2_with fail
 generalize ((w.alloc (.cells #[.slice A n c,.int .i64 re,.int .i64 lo] 24)).alloc (.cells #[.int .i64 K,.slice B m d] 55))=Y at hb0 hk0 hk1 ⊢;refine (HV.out _ (hA.below hb0)).mono ?_;rintro e Y2 ⟨rfl,hb2⟩;have hb3:=zAa hb0 hb2 hb0.size;have k2:=hk0.below hb2 hk0.lt;have k3:=hk1.below hb2 hk1.lt;clear hb2 hk0 hk1 hb0
 cases v with
 | false =>
  have HR2:=qH (HR.out.trans (if_pos rfl));clear HR;go_wp2_with fail
  go_ret;exact ⟨zIm HR2.out.symm,hb3⟩
 | true =>
  obtain ⟨c0,c1⟩:=cQ2 k3;go_wp2_with fail
  refine (HC.out _ (hB.below hb3)).mono ?_;rintro e Y3 ⟨rfl,hb4⟩;have hb5:=zAa hb3 hb4 hb3.size;have k4:=k2.below hb4 k2.lt;have k5:=k3.below hb4 k3.lt;clear hb4 k2 k3 c0 c1 hb3;by_cases h0:E=0
  ·subst h0;obtain ⟨c0,c1⟩:=cQ2 k5;obtain ⟨c2,c3,c4⟩:=cQ3 k4;go_wp2_with fail
   refine (HP.out _ (hA.below hb5) (hB.below hb5)).mono ?_;rintro e Y4 ⟨rfl,hb6⟩;have hb7:=zAa hb5 hb6 hb5.size;clear hb5 hb6 k4 k5 c0 c1 c2 c3 c4
   cases p with
   | false =>
    have HR2:=qH (show zCP F re lo K L=2 by rw [HR.out];simp);clear HR;go_wp2_with fail
    go_ret;exact ⟨zIm HR2.out.symm,hb7⟩
   | true =>
    have HR2:=qH (show zCP F re lo K L=0 by rw [HR.out];simp);clear HR;go_wp2_with fail
    go_ret;exact ⟨zIm HR2.out.symm,hb7⟩
  ·have q1:(E != 0)=true:=by simpa using h0
   have HR2:=qH (show zCP F re lo K L=E by rw [HR.out,if_neg (by simp),if_pos h0]);clear h0 HR;go_wp2_with fail
   go_ret;exact ⟨zIm HR2.out.symm,hb5⟩
theorem zHl {F:List Fg} {re lo K:Int} {L:List Lt} (h:zCP F re lo K L=0):zCt F re lo K L=true∧frOk F re lo∧zBk K L=0∧K=(F.length:Int)∧zDZ L=true:=by
 have hp:zCt F re lo K L=true:=by
  unfold zCP at h;split at h
  ·omega
  ·split at h
   ·rename_i h1 h2;exact absurd h h2
   ·split at h
    ·rename_i h3;exact h3
    ·omega
 have hq:=hp;unfold zCt at hq;simp only [Bool.and_eq_true,beq_iff_eq] at hq;exact ⟨hp,zCR.1 hq.1.1.1,hq.1.1.2,hq.1.2,hq.2⟩
end Go.Proofs.YtlmdfmnbcndhoaaGreatDoor
namespace Go.Proofs.YtlmdfmnbcndhoaaGreatDoor
open Go.RowKit
structure Bi where
 f:Int
 n:Int
 b:Bool
instance : DecidableEq Bi := fun x y =>
 if h:x.f=y.f∧x.n=y.n∧x.b=y.b then .isTrue (by cases x;cases y;simp at h;simp [h])
 else .isFalse (fun e=>h (by subst e;simp))
def bi0:Bi:=⟨0,0,false⟩
def ba (l:List Bi) (i:Nat):Bi:=(l[i]?).getD bi0
theorem zMh {l:List Bi} {i:Nat} (h:i < l.length):l[i]? = some (ba l i):=by unfold ba;rw [List.getElem?_eq_getElem h];rfl
theorem zWv {l:List Bi} {i:Nat} {x:Bi} (h:l[i]? = some x):ba l i=x:=by unfold ba;rw [h];rfl
def zGo (x:List UInt8):List UInt8×List UInt8×Bool:=Lib.cut x.dropLast [46]
def zBJ (x:List UInt8) (c:UInt8):Bool:=decide (x.getLast? = some c)
noncomputable def zMi (L:List Fg) (x:List UInt8):Bi :=
 if (zGo x).2.2 then ⟨if zDg L (zGo x).1=0 then -1 else (zDg L (zGo x).1:Int),(zAu (zGo x).2.1).1,zBJ x 62⟩
 else ⟨0,(zAu x.dropLast).1,zBJ x 111⟩
noncomputable def zNn (x:List UInt8):Bool :=
 if (zGo x).2.2 then (zJO (zGo x).1||!(zBJ x 62||zBJ x 60))||!(zAu (zGo x).2.1).2
 else !(zBJ x 111||zBJ x 117)||!(zAu x.dropLast).2
def zSu (x:List UInt8):Bool:=!(zGo x).2.2
noncomputable def zTU (L:List Fg) (x:List UInt8):Bool:=(zGo x).2.2&&zEh L (zGo x).1
def zRm (T:List (List UInt8)):Bool:=match T with
 | []=>false
 | x :: _=>zSu x
noncomputable def zEp (T:List (List UInt8)):Bool:=T.any zNn||zRm T
noncomputable def zFC (L:List Fg) (T:List (List UInt8)):Bool:=T.any (zTU L)
theorem zNo (T:List (List UInt8)) (x:List UInt8):zEp (T++[x])=(zEp T||(zNn x||(T.isEmpty&&zSu x))):=by
 unfold zEp
 cases T with
 | nil=>simp [zRm]
 | cons y T =>
  simp only [List.cons_append,List.any_cons,List.any_append,List.any_nil,zRm,List.isEmpty_cons,Bool.false_and,Bool.or_false]
  cases zNn y<;>cases T.any zNn<;>cases zNn x<;>cases zSu y<;>rfl
theorem zNp (L:List Fg) (T:List (List UInt8)) (x:List UInt8):zFC L (T++[x])=(zFC L T||zTU L x):=by simp [zFC]
def zFS (b:Bi):Bi:=if 0 < b.f then ⟨b.f,b.n,false⟩ else b
def zMj (l:List Bi) (f:Int):Nat:=l.countP fun b=>decide (0 < b.f)&&b.f==f
def zFD (l:List Bi):Nat:=l.countP fun b=>!decide (0 < b.f)
def zCu (k:Nat) (l:List Bi):List Int:=(List.range (k+2)).map fun f:Nat=>((zMj l (f:Int):Nat):Int)
def zIZ (l:List Bi) (b:Bi):Bool:=(decide (0 < b.f)&&decide ((zMj l b.f:Int) < b.n))||(b.f==0&&(decide (((zFD l / 2:Nat):Int) < b.n)||zFD l % 2 != 0))
def zFE (l:List Bi):Bool:=decide ((l.map zFS).Nodup)&&l.all fun b=>!zIZ l b
def ia (M:List Int) (i:Int):Int:=(M[i.toNat]?).getD 0
def zLn (M:List Int) (b:Bi):List Lt :=
 if b.f=0 then [⟨2,0,0,b.n,0,b.b⟩]
 else if b.b then [⟨1,b.f-1,ia M (b.f-1)+b.n,0,0,false⟩,⟨1,b.f,ia M b.f-b.n+1,0,0,false⟩]
 else [⟨1,b.f,ia M b.f-b.n+1,0,0,false⟩,⟨1,b.f-1,ia M (b.f-1)+b.n,0,0,false⟩]
def zAN (M:List Int) (l:List Bi):List Lt:=l.flatMap (zLn M)
theorem zPk (M:List Int) (b:Bi):(zLn M b).length≤2:=by
 unfold zLn;split
 ·simp
 ·split<;>simp
theorem zNq (M:List Int) (l:List Bi):(zAN M l).length≤2*l.length:=by
 unfold zAN
 induction l with
 | nil=>simp
 | cons b l ih=>rw [List.flatMap_cons,List.length_append,List.length_cons];have:=zPk M b;omega
theorem zLo (l:List Bi) (f:Int):zMj l f≤l.length:=List.countP_le_length
theorem zLp (l:List Bi):zFD l≤l.length:=List.countP_le_length
theorem zFF (k:Nat) (l:List Bi) {f:Nat} (h:f < k+2):(zCu k l)[f]? = some ((zMj l (f:Int):Nat):Int):=by
 unfold zCu;rw [List.getElem?_map,List.getElem?_range h];rfl
theorem zGp (k:Nat) (l:List Bi):(zCu k l).length=k+2:=by simp [zCu]
theorem zTV {l:List Bi} {b:Bi} {f:Int} (h:0 < b.f) (e:b.f=f):zMj (l++[b]) f=zMj l f+1:=by
 unfold zMj;rw [List.countP_append,List.countP_singleton,if_pos (by simp [e];omega)]
theorem zSv {l:List Bi} {b:Bi} {f:Int} (h:¬(0 < b.f∧b.f=f)):zMj (l++[b]) f=zMj l f:=by
 unfold zMj;rw [List.countP_append,List.countP_singleton,if_neg (by simpa using h),Nat.add_zero]
theorem zTW {l:List Bi} {b:Bi} (h:¬0 < b.f):zFD (l++[b])=zFD l+1:=by
 unfold zFD;rw [List.countP_append,List.countP_singleton,if_pos (by simpa using h)]
theorem zVt {l:List Bi} {b:Bi} (h:0 < b.f):zFD (l++[b])=zFD l:=by
 unfold zFD;rw [List.countP_append,List.countP_singleton,if_neg (by simp [h]),Nat.add_zero]
theorem zRn (k:Nat) (l:List Bi) {b:Bi} {f:Nat} (h0:0 < b.f) (e:b.f=(f:Int)):(zCu k l).set f ((zMj l (f:Int):Int)+1)=zCu k (l++[b]):=by
 apply List.ext_getElem?;intro i;rw [List.getElem?_set];by_cases hi:i < k+2
 ·rw [zFF k _ hi];by_cases hf:f=i
  ·subst hf;rw [if_pos rfl,zGp,if_pos hi,zFF k _ hi,zTV h0 e];rfl
  ·rw [if_neg hf,zFF k _ hi,zSv (fun h=>hf (by omega))]
 ·rw [List.getElem?_eq_none (by rw [zGp];omega),List.getElem?_eq_none (by rw [zGp];omega),zGp];split
  ·rename_i h1;rw [h1,if_neg hi]
  ·rfl
theorem zPl (k:Nat) (l:List Bi) {b:Bi} (h0:¬0 < b.f):zCu k (l++[b])=zCu k l:=by
 unfold zCu;exact List.map_congr_left fun f _=>by rw [zSv (fun h=>h0 h.1)]
def sgI (cr nu:Nat) (l:Lt):Int:=if (nu >>> (cr-l.id.toNat)) % 2=1 then 1 else -1
def sgL (cr nu:Nat) (l:Lt):Lt:=if isC l then { l with sign:=sgI cr nu l } else l
def zCB (cr nu:Nat) (L:List Lt):List Lt:=L.map (sgL cr nu)
def zVu (L:List Lt) (i:Nat):Int:=if (la L i).gate≤(la L (i+1)).gate then (la L (i+1)).gate else (la L i).gate
def lpC (L:List Lt) (g:Int) (m:Nat):Nat:=zAe (fun i=>(isP (la L i)&&dwn L i)&&zVu L i==g) m
def zBH (K:Nat) (L:List Lt) (m:Nat):List Int:=(List.range (K+2)).map fun g:Nat=>((lpC L (g:Int) m:Nat):Int)
theorem zFa (K:Nat) (L:List Lt) (m:Nat) {g:Nat} (h:g < K+2):(zBH K L m)[g]? = some ((lpC L (g:Int) m:Nat):Int):=by
 unfold zBH;rw [List.getElem?_map,List.getElem?_range h];rfl
theorem zFb (K:Nat) (L:List Lt) (m:Nat):(zBH K L m).length=K+2:=by simp [zBH]
theorem zPm (L:List Lt) (g:Int) (m:Nat):lpC L g m≤m:=zCC _ _
theorem zPn (K:Nat) (L:List Lt) {m g:Nat} (h:(isP (la L m)&&dwn L m)=true) (e:zVu L m=(g:Int)):(zBH K L m).set g ((lpC L (g:Int) m:Int)+1)=zBH K L (m+1):=by
 apply List.ext_getElem?;intro i;rw [List.getElem?_set];by_cases hi:i < K+2
 ·rw [zFa K L _ hi];by_cases hf:g=i
  ·subst hf;rw [if_pos rfl,zFb,if_pos hi,zFa K L _ hi,show lpC L (g:Int) (m+1)=lpC L (g:Int) m+1 from zAR (by rw [h,e];simp)];rfl
  ·rw [if_neg hf,zFa K L _ hi,show lpC L (i:Int) (m+1)=lpC L (i:Int) m from zAB (by rw [h,e];simp;omega)]
 ·rw [List.getElem?_eq_none (by rw [zFb];omega),List.getElem?_eq_none (by rw [zFb];omega),zFb];split
  ·rename_i h1;rw [h1,if_neg hi]
  ·rfl
theorem zIc (K:Nat) (L:List Lt) {m:Nat} (h:(isP (la L m)&&dwn L m)=false):zBH K L (m+1)=zBH K L m:=by
 unfold zBH;exact List.map_congr_left fun g _=>by rw [show lpC L (g:Int) (m+1)=lpC L (g:Int) m from zAB (by rw [h];rfl)]
theorem zNr (K:Nat) (L:List Lt):zBH K L 0=List.replicate (K+2) 0:=by
 unfold zBH;rw [List.eq_replicate_iff]
 exact ⟨by simp,fun b hb=>by
  obtain ⟨g,_,rfl⟩:=List.mem_map.1 hb
  simp [lpC,zAe]⟩
theorem zRo (k:Nat):zCu k []=List.replicate (k+2) 0:=by
 unfold zCu;rw [List.eq_replicate_iff]
 exact ⟨by simp,fun b hb=>by
  obtain ⟨g,_,rfl⟩:=List.mem_map.1 hb
  simp [zMj]⟩
def zBI (L:List Lt) (i:Nat):Lt:=if (la L (i+1)).gate < (la L i).gate then la L (i+1) else la L i
def zSw (L:List Lt) (i:Nat):UInt8:=if (la L (i+1)).gate < (la L i).gate then 60 else 62
def zWw (l:Lt):List UInt8:=Lib.itoa l.id++[if l.over then 111 else 117]
def zMk (F:List Fg) (L:List Lt) (i:Nat):List UInt8:=nmF F ((zBI L i).gate+1)++[46]++Lib.itoa ((zBI L i).rank-(lpC L (zBI L i).gate L.length:Int))++[zSw L i]
def zHy (F:List Fg) (L:List Lt) (i:Nat):List (List UInt8) :=
 if isC (la L i) then [zWw (la L i)] else if dwn L i then [zMk F L i] else []
def zFG (F:List Fg) (L:List Lt) (m:Nat):List (List UInt8):=(List.range m).flatMap (zHy F L)
theorem zDQ (F:List Fg) (L:List Lt) (m:Nat):zFG F L (m+1)=zFG F L m++zHy F L m:=by simp [zFG,List.range_succ]
def zJa:List UInt8:=[98,97,114,101]
def zSx (F:List Fg) (L:List Lt):List UInt8:=if L.length=0 then zJa else Lib.join (zFG F L L.length) [32]
end Go.Proofs.YtlmdfmnbcndhoaaGreatDoor
namespace Go.Proofs.YtlmdfmnbcndhoaaGreatDoor
def Arcs (L:List Lt):Prop:=∀i,i < L.length→isP (la L i)=true→dwn L i=true→i+1 < L.length∧isP (la L (i+1))=true
section
variable {K:Int} {L:List Lt} {a:Nat}
theorem zTX {v:Nat} (h:isP (la L v)=true) (hc:isC (la L v)=true):False:=by rw [zNP h] at hc;cases hc
theorem zTY {v:Nat} (h:isC (la L v)=true):isP (la L v)=false:=by
 cases hq:isP (la L v) with
 | false=>rfl
 | true=>exact (zTX hq h).elim
variable {X:Nat→Nat}
end
section
variable {K:Int} {L:List Lt}
end
end Go.Proofs.YtlmdfmnbcndhoaaGreatDoor
namespace Go.Proofs.YtlmdfmnbcndhoaaGreatDoor
open Go.RowKit
structure Lps (K:Nat) (L:List Lt):Prop where
 len:L.length≤400
 k40:K≤40
 gate:∀i,i < L.length→isP (la L i)=true→0≤(la L i).gate∧(la L i).gate≤K
 arcs:Arcs L
def zId (w:World) (K:Nat) (L:List Lt) (e:Ending) (w':World):Prop :=
 ∃g,e=.returned (.slice (some ⟨g,0,none⟩) (K+2) (K+2))∧OwnI w' w.heap.size g (K+2) (zBH K L L.length)∧Below w.heap.size w w'
theorem zLq {v:Nat} (h:v≤100000):IntKind.i64.wrap ((v:Int)+1)=(v:Int)+1:=IntWalk.i64_in _ (by omega)
set_option maxHeartbeats 6400000 in
set_option maxRecDepth 100000 in
theorem zLr (K:Nat) (A:Option Addr) (n c:Nat) (L:List Lt) (w:World) (hA:Lets w A n L) (hL:Lps K L) :
  Calls Tryz.prog 123 #[.agg #[.int .i64 (K:Int),.slice A n c]] w (zId w K L):=by
 have hLn:L.length=n:=hA.len;have hn:n≤400:=by have:=hL.len;omega
 have hK4:=hL.k40;have hb0:=(Below.refl w.heap.size w).alloc (Nat.le_refl _) (.cells #[.int .i64 (K:Int),.slice A n c] 55);have hk0:Blk (w.alloc (.cells #[.int .i64 (K:Int),.slice A n c] 55)) w.heap.size 55 #[.int .i64 (K:Int),.slice A n c]:=Blk.new _ _ _;have c0:(w.alloc (.cells #[.int .i64 (K:Int),.slice A n c] 55)).cell? ⟨w.heap.size,0,none⟩=some (.int .i64 (K:Int)):=(hk0.cell 0).trans rfl;have HN:=qH hLn;have HL:=qH hL;have HA:=qH hA;have hlw:w.heap.size < (w.alloc (.cells #[.int .i64 (K:Int),.slice A n c] 55)).heap.size:=hk0.lt;have w1:wrap64 ((K:Int)+2)=((K+2:Nat):Int):=by unfold wrap64;omega
 clear hLn hL hA;go_enter Tryz.func123,Tryz.ntmps123;go_upto_region 1 with fail
 generalize w.alloc (.cells #[.int .i64 (K:Int),.slice A n c] 55)=Y at hb0 hk0 c0 hlw ⊢;go_upto_region 2 with (refine zHK rfl _ _ rfl (K+2) _ rfl rfl (by first | rfl | exact w1 | (simp;done) | omega) (by omega) (base:=Y.heap.size) (Nat.le_refl _) ?_;intro Y2 hO2 hb2 hs2)
 have hO0:OwnI Y2 Y.heap.size Y.heap.size (K+2) (zBH K L 0):=by rw [zNr];exact hO2
 have hk2:=hk0.below hb2 hlw;have hby:=zAa hb0 hb2 hb0.size;have c1:Y2.cell? ⟨w.heap.size,1,none⟩=some (.slice A n c):=(hk2.cell 1).trans rfl;have hwy:w.heap.size < Y.heap.size:=hlw;clear hO2 hs2 c0 hk0 hlw hb2;generalize Y.heap.size=g at hO0 hwy ⊢;have hgl:g < Y2.heap.size:=hO0.lt;have hb2:Below g Y2 Y2:=Below.refl _ _;go_wp2_with fail
 clear c1;go_loopw [4,14] (fun v4 v14 wv=>∃(i:Nat) (X:World),X=wv∧i≤n∧v14=.int .i64 i∧v4=.bool (!dwn L i)∧OwnI X g g (K+2) (zBH K L i)∧Below g Y2 X) (fun _ v14 _=>n-(intOf v14).toNat)
 case atStart=>exact ⟨0,_,rfl,by omega,rfl,rfl,hO0,hb2⟩
 case round =>
  obtain ⟨i,X,hX,hi,rfl,rfl,hO,hb⟩:=hrel;subst hX;clear hO0;have hkx:=hk2.below hb hwy;have hAx:Lets X A n L:=HA.out.below ((hby.trans (hb.mono (by omega))));have hXg:g < X.heap.size:=hO.lt;by_cases hlt:i < n
  ·have j0:(0:Int)≤(i:Int):=by omega
   have j1:(i:Int) < (n:Int):=by omega
   obtain ⟨ga,o,rfl,hgl,hat,hok⟩:=hAx.at_ hlt;obtain ⟨x0,x1,x2,x3,x4,x5⟩:=hat;have hbl:=(Below.refl X.heap.size X).alloc (Nat.le_refl _) (.cells #[.int .i64 (la L i).kind,.int .i64 (la L i).gate,.int .i64 (la L i).rank,.int .i64 (la L i).id,.int .i64 (la L i).sign,.bool (la L i).over] 76);have hl6:Blk (X.alloc (.cells #[.int .i64 (la L i).kind,.int .i64 (la L i).gate,.int .i64 (la L i).rank,.int .i64 (la L i).id,.int .i64 (la L i).sign,.bool (la L i).over] 76)) X.heap.size 76 #[.int .i64 (la L i).kind,.int .i64 (la L i).gate,.int .i64 (la L i).rank,.int .i64 (la L i).id,.int .i64 (la L i).sign,.bool (la L i).over]:=Blk.new _ _ _;have hO1:=hO.below hbl hXg;have hk1:=hkx.below hbl hkx.lt;have hA1:=hAx.below hbl;have hb1:=hb.trans (hbl.mono (Nat.le_of_lt hXg));obtain ⟨d,hd⟩:∃d,dwn L i=d:=⟨_,rfl⟩
   rw [hd];by_cases hk:(la L i).kind=1
   ·have q1:((la L i).kind != 1)=false:=by simpa using hk
    have hp:=zJs hk;have hdn:dwn L (i+1) = !d:=by rw [zWb hp,hd]
    have HDN:=qH hdn
    cases d with
    | false =>
     have HS:=qH (show zBH K L (i+1)=zBH K L i from zIc K L (by rw [hd,Bool.and_false]));clear hO hkx hAx hk1 hA1 hl6 hbl hk hp hd hdn;go_wp2_with fail
     go_roundw
     case rel=>exact ⟨i+1,_,rfl,by omega,by go_num,by rw [HDN.out];rfl,by rw [HS.out];exact hO1,hb1⟩
     case measure=>simp [intOf];omega
    | true =>
     have hil:i < L.length:=by rw [HN.out];exact hlt
     obtain ⟨ha1,ha2⟩:=HL.out.arcs i hil hp hd;have hi1:i+1 < n:=by rw [←HN.out];exact ha1
     have hg0:=HL.out.gate i hil hp;have hg1:=HL.out.gate (i+1) ha1 ha2;obtain ⟨gx,hgx⟩:∃m:Nat,(la L i).gate=(m:Int):=⟨(la L i).gate.toNat,by omega⟩
     obtain ⟨gy,hgy⟩:∃m:Nat,(la L (i+1)).gate=(m:Int):=⟨(la L (i+1)).gate.toNat,by omega⟩
     obtain ⟨m,hm,hm2,hm3⟩:∃m:Nat,max (gx:Int) (gy:Int)=(m:Int)∧m < K+2∧zVu L i=(m:Int):=by
      by_cases h:gx≤gy
      ·exact ⟨gy,by omega,by omega,by unfold zVu;rw [hgx,hgy,if_pos (by omega)]⟩
      ·exact ⟨gx,by omega,by omega,by unfold zVu;rw [hgx,hgy,if_neg (by omega)]⟩
     have hPD:(isP (la L i)&&dwn L i)=true:=by rw [hp,hd];rfl
     have c6:(X.alloc (.cells #[.int .i64 (la L i).kind,.int .i64 (la L i).gate,.int .i64 (la L i).rank,.int .i64 (la L i).id,.int .i64 (la L i).sign,.bool (la L i).over] 76)).cell? ⟨X.heap.size,1,none⟩=some (.int .i64 (gx:Int)):=by rw [←hgx];exact (hl6.cell 1).trans rfl
     have c1:(X.alloc (.cells #[.int .i64 (la L i).kind,.int .i64 (la L i).gate,.int .i64 (la L i).rank,.int .i64 (la L i).id,.int .i64 (la L i).sign,.bool (la L i).over] 76)).cell? ⟨w.heap.size,1,none⟩=some (.slice (some ⟨ga,o,none⟩) n c):=(hk1.cell 1).trans rfl;have y1:(X.alloc (.cells #[.int .i64 (la L i).kind,.int .i64 (la L i).gate,.int .i64 (la L i).rank,.int .i64 (la L i).id,.int .i64 (la L i).sign,.bool (la L i).over] 76)).cell? ⟨ga,o+(i+1)*6+1,none⟩=some (.int .i64 (gy:Int)):=by rw [←hgy];exact (hA1.also hi1).1.gate
     have e1:=hO1.cell (zFa K L i hm2);have z1:=hO1.frozen m;have b1:=zPm L (m:Int) i;have r1:=hO1.stored m ((lpC L (m:Int) i:Int)+1);rw [zPn K L hPD hm3] at r1;obtain ⟨v1,hv1⟩:∃v,lpC L (m:Int) i=v:=⟨_,rfl⟩
     rw [hv1] at e1 b1 r1;have s1:=hb1.setCell (p:=⟨g,m,none⟩) (Nat.le_refl _) (.int .i64 ((v1:Int)+1));have p1:(0:Int)≤(i:Int)+1:=by omega
     have p2:(i:Int)+1 < (n:Int):=by omega
     have p3:IntKind.i64.wrap ((i:Int)+1)=(i:Int)+1:=zLq (by omega);have p4:(0:Int)≤(m:Int):=by omega
     have p7:(m:Int) < (K:Int)+2:=by omega
     have w7:IntKind.i64.wrap ((v1:Int)+1)=(v1:Int)+1:=zLq (by omega);have R1:=qH r1.drew;have S1:=qH s1.drew;clear hO hkx hAx hk1 hA1 hk hp hd hdn hgx hgy hv1 r1 s1 hg0 hg1 hl6 hbl hO1 hb1 ha2 hPD hm3;go_upto_region 9 with fail
     clear x0 x1 x2 x3 x4 x5;generalize X.alloc (.cells #[.int .i64 (la L i).kind,.int .i64 (la L i).gate,.int .i64 (la L i).rank,.int .i64 (la L i).id,.int .i64 (la L i).sign,.bool (la L i).over] 76)=X6 at c6 c1 y1 e1 z1 R1 S1 ⊢;generalize X.heap.size=b6 at c6 ⊢;go_region
     go_wp2_with fail
     go_roundw
     case rel=>exact ⟨i+1,_,rfl,by omega,by go_num,by rw [HDN.out];rfl,R1.out,S1.out⟩
     case measure=>simp [intOf];omega
   ·have q1:((la L i).kind != 1)=true:=by simpa using hk
    have hp:=zKA hk;have HS:=qH (show zBH K L (i+1)=zBH K L i from zIc K L (by rw [hp,Bool.false_and]));have HDN:=qH (show dwn L (i+1)=d by rw [zWu hp,hd]);clear hO hkx hAx hk1 hA1 hl6 hbl hk hp hd;go_wp2_with fail
    go_roundw
    case rel=>exact ⟨i+1,_,rfl,by omega,by go_num,by rw [HDN.out],by rw [HS.out];exact hO1,hb1⟩
    case measure=>simp [intOf];omega
  ·have j1:¬(i:Int) < (n:Int):=by omega
   have hin:i=n:=by omega
   have hOe:OwnI X w.heap.size g (K+2) (zBH K L L.length):=by rw [HN.out,←hin];exact ⟨hO.blk,by omega,hO.len⟩
   have hbw:=hby.trans (hb.mono (by omega));clear hin hlt hO hkx hAx hb;go_wp2_with fail
   go_ret;exact ⟨g,rfl,hOe,hbw⟩
end Go.Proofs.YtlmdfmnbcndhoaaGreatDoor
namespace Go.Proofs.YtlmdfmnbcndhoaaGreatDoor
open Go.RowKit
theorem zWx (S:ByteArray) (w:World):(Instr.buildSlice 112 1 #[(0,.string S)]).run Tryz.prog w=.ok (.slice (some ⟨w.heap.size,0,none⟩) 1 1) (w.alloc (.cells #[.string S] 9)):=by
 obtain ⟨i0,hi,hz0,hz1,hz2⟩:=info_parts zIt;refine run_buildSlice w _ _ 1 _ _ i0 _ Tryz.underlying112 hi hz0 (by rw [hz1];omega) (by rw [hz1];omega) ?_;rw [hz1]
 kernel_rfl
theorem zVv {w:World} {ops:Array Oper} {o:Oper} {a:Act} {K:Act→World→Prop} {Q':Exit→Act→World→Prop} {E:Prop} (hgd:o.guard=none) (s x:Operand)
  (ho:o.op=.call { callee:=.builtin .append,args:=#[s,x],argTypes:=#[112,112] })
  {base:Nat} {A:Option Addr} {n c:Nat} {Ss:List (List UInt8)} (S:List UInt8) (hs:a.eval s=.slice A n c) (hx:a.eval x=.slice (some ⟨w.heap.size,0,none⟩) 1 1)
  (hst:Row w base 1 A n c (Ss.map zKu)) (N:Nat) (hN:n+1=N) (hn:N≤1000000) (hbase:base≤w.heap.size)
  (h:∀A' c' w',Row w' base 1 A' N c' ((Ss++[S]).map zKu)→Below base w w'→w.grownBy w' (blk A)→K (a.put o.dst (.slice A' N c')) w') :
  if Region.wanted o (yielded ops a.tmps)=true then Oper.wp Tryz.prog o a (w.alloc (.cells #[.string (bA S)] 9)) K Q' else E:=by
 obtain ⟨i0,hi,hz0,hz1,hz2⟩:=info_parts zIt;have hbl:=(Below.refl w.heap.size w).alloc (Nat.le_refl _) (.cells #[.string (bA S)] 9);have hst1:=hst.below hbl
 refine zQw hgd s x 112 ho 9 i0 _ 1 16 Tryz.underlying112 hi hz0 hz1 hz2 rfl (by decide) hst1 (Src.new (m:=1) (cs:=[.string (bA S)]) rfl)
  (by intro u hu;simp at hu;subst hu;rfl) hs hx N hN (by unfold maxLen;omega) (by omega) (by simp;omega) ?_
 intro A' c' w' h1 h2 _ _;refine h A' c' w' (by rw [List.map_append];exact h1) ?_ (zAb (zCS hbl _) h2);exact ((Below.refl _ _).alloc hbase _).trans (hst1.belowOf h2 (by simp;omega))
theorem zPo {w:World} {g:Nat} {t:TypeId} {v0 v1 v2 v3 v4 v5:Value} (h:Blk w g t #[v0,v1,v2,v3,v4,v5]) (u0 u1 u2 u3 u4 u5:Value) :
  Blk ((((((w.setCell ⟨g,0,none⟩ u0).setCell ⟨g,1,none⟩ u1).setCell ⟨g,2,none⟩ u2).setCell ⟨g,3,none⟩ u3).setCell ⟨g,4,none⟩ u4).setCell ⟨g,5,none⟩ u5) g t #[u0,u1,u2,u3,u4,u5]:=by
 have h1:=(((((h.set_ 0 u0).set_ 1 u1).set_ 2 u2).set_ 3 u3).set_ 4 u4).set_ 5 u5;simpa using h1
theorem zPp {a w:World} {g B:Nat} (h:Below B a w) (hB:B≤g) (u0 u1 u2 u3 u4 u5:Value) :
  Below B a ((((((w.setCell ⟨g,0,none⟩ u0).setCell ⟨g,1,none⟩ u1).setCell ⟨g,2,none⟩ u2).setCell ⟨g,3,none⟩ u3).setCell ⟨g,4,none⟩ u4).setCell ⟨g,5,none⟩ u5) :=
 (((((h.setCell (p:=⟨g,0,none⟩) hB u0).setCell (p:=⟨g,1,none⟩) hB u1).setCell (p:=⟨g,2,none⟩) hB u2).setCell (p:=⟨g,3,none⟩) hB u3).setCell (p:=⟨g,4,none⟩) hB u4).setCell (p:=⟨g,5,none⟩) hB u5
structure Pos (F:List Fg) (re lo:Int) (L:List Lt):Prop where
 lps:Lps F.length L
 fr:frOk F re lo
 kinds:∀i,i < L.length→isP (la L i)=true∨isC (la L i)=true
 left:∀i,i < L.length→isP (la L i)=true→dwn L i=true→0≤(zBI L i).gate∧(zBI L i).gate < F.length
 rank:∀i,i < L.length→isP (la L i)=true→1≤(la L i).rank∧(la L i).rank≤400
 id:∀i,i < L.length→isC (la L i)=true→1≤(la L i).id∧(la L i).id≤400
theorem zFT {F:List Fg} {re lo K:Int} {L:List Lt} (h:zCt F re lo K L=true):Pos F re lo L∧K=(F.length:Int):=by
 unfold zCt at h;simp only [Bool.and_eq_true,beq_iff_eq] at h;obtain ⟨⟨⟨h1,h2⟩,h3⟩,h4⟩:=h;have ht:=zEZ h2;obtain ⟨c1,c2,c3,c4⟩:=zHk h2;subst h3;rcases Nat.eq_zero_or_pos L.length with h0 | h0
 ·exact ⟨⟨⟨ht.len,by omega,fun i hi=>by omega,fun i hi=>by omega⟩,zCR.1 h1,fun i hi=>by omega,fun i hi=>by omega,fun i hi=>by omega,fun i hi=>by omega⟩,rfl⟩
 have hv:zBa (F.length:Int) L=true:=by rcases c4 with h | h;· omega
                                       ·exact h
 have g:=zEA h0 hv;have hpo:∀i,i < L.length→poB L i=true:=zAE.1 h4
 have key:∀i,i < L.length→isP (la L i)=true→dwn L i=true→i+1 < L.length∧isP (la L (i+1))=true∧((la L (i+1)).gate-(la L i).gate=1∨(la L i).gate-(la L (i+1)).gate=1):=by
  intro i hi hp hd;have hlt:i+1 < L.length:=by
   rcases Nat.lt_or_ge (i+1) L.length with h | h
   ·exact h
   ·have e:i+1=L.length:=by omega
    have hd2:dwn L (i+1)=false:=by rw [zWb hp,hd];rfl
    rw [e] at hd2;unfold dwn at hd2;have:=g.even;simp [this] at hd2
  have:=hpo i hi;unfold poB neB nxL at this;rw [hp,hd,Nat.mod_eq_of_lt hlt] at this;simp only [Bool.and_self,Bool.not_true,Bool.false_or,Bool.and_eq_true,Bool.or_eq_true,beq_iff_eq] at this;exact ⟨hlt,this.1,this.2⟩
 refine ⟨⟨⟨ht.len,by omega,fun i hi hp=>⟨(ht.pass i hi hp).1,(ht.pass i hi hp).2.1⟩,fun i hi hp hd=>⟨(key i hi hp hd).1,(key i hi hp hd).2.1⟩⟩,zCR.1 h1,g.kinds,fun i hi hp hd=>?_,fun i hi hp=>⟨(ht.pass i hi hp).2.2.1,(ht.pass i hi hp).2.2.2⟩,fun i hi hc=>?_⟩,rfl⟩
 ·obtain ⟨k1,k2,k3⟩:=key i hi hp hd;have g1:=ht.pass i hi hp;have g2:=ht.pass (i+1) k1 k2;unfold zBI;split<;>omega
 ·have h5:=g.cross i hi;have:=(zBl.1 h5 hc).1;have:=zQt L L.length;have:=ht.len;omega
theorem zPq {F:List Fg} {re lo:Int} {L:List Lt} (h:Pos F re lo L) {i:Nat} (hi:i < L.length):∀x∈zHy F L i,x.length≤100:=by
 intro x hx;unfold zHy at hx;by_cases hc:isC (la L i)=true
 ·rw [if_pos hc] at hx;rw [List.mem_singleton.1 hx];have hid:=h.id i hi hc;have:=zAZ (x:=(la L i).id) ⟨by omega,by omega⟩;unfold zWw;simp only [List.length_append,List.length_singleton];omega
 ·rw [if_neg hc] at hx;by_cases hd:dwn L i=true
  ·rw [if_pos hd] at hx;rw [List.mem_singleton.1 hx];have hp:=(h.kinds i hi).resolve_right hc;have hg:=h.left i hi hp hd;have hn:=zBq h.fr (f:=(zBI L i).gate+1) (by omega) (by omega);have hr:1≤(zBI L i).rank∧(zBI L i).rank≤400:=by
    obtain ⟨k1,k2⟩:=h.lps.arcs i hi hp hd;unfold zBI;split
    ·exact h.rank (i+1) k1 k2
    ·exact h.rank i hi hp
   have hl:=zPm L (zBI L i).gate L.length;have hlen:=h.lps.len;have:=zAZ (x:=(zBI L i).rank-(lpC L (zBI L i).gate L.length:Int)) ⟨by omega,by omega⟩;unfold zMk;simp only [List.length_append,List.length_singleton];omega
  ·rw [if_neg hd] at hx;simp at hx
theorem zPr (F:List Fg) (L:List Lt) (i:Nat):(zHy F L i).length≤1:=by
 unfold zHy;split
 ·simp
 ·split<;>simp
theorem zPs (F:List Fg) (L:List Lt) (m:Nat):(zFG F L m).length≤m:=by
 induction m with
 | zero=>simp [zFG]
 | succ m ih=>rw [zDQ,List.length_append];have:=zPr F L m;omega
theorem zLs {F:List Fg} {re lo:Int} {L:List Lt} (h:Pos F re lo L) {m:Nat} (hm:m≤L.length):∀x∈zFG F L m,x.length≤100:=by
 intro x hx;unfold zFG at hx;obtain ⟨i,hi,hx⟩:=List.mem_flatMap.1 hx;exact zPq h (by have:=List.mem_range.1 hi;omega) x hx
theorem zRp {K:Nat} {A:Option Addr} {n c:Nat} {L:List Lt} (w:World) (hA:Lets w A n L) (hL:Lps K L):Calls Tryz.prog 123 #[.agg #[.int .i64 (K:Int),.slice A n c]] w (zId w K L):=zLr K A n c L w hA hL
theorem zPt {x:Int} {S:List UInt8} (h:Lib.itoa x=S) (hx:I64 x) (w:World) (ht:Tabs w):Calls Tryz.prog 124 #[.int .i64 x] w fun e w'=>e=.returned (.string (bA S))∧Below w.heap.size w w':=by
 subst h;exact zIp x hx w ht
end Go.Proofs.YtlmdfmnbcndhoaaGreatDoor
