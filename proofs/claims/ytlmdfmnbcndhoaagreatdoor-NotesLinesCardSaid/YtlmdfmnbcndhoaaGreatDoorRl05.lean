/-
  Lemmas, part 5. Conditions: each theorem's own.
-/
import Derived.Test.YtlmdfmnbcndhoaaGreatDoorRl04
namespace Go.Proofs.YtlmdfmnbcndhoaaGreatDoor
open Go.RowKit
theorem zMo (x:Int) (h0:0≤x) (h1:x < 100) (w:World):Calls Tryz.prog 124 #[.int .i64 x] w fun e w'=>e=.returned (.string (bA (Lib.itoa x)))∧w'=w:=by
 obtain ⟨k,rfl⟩:=Int.eq_ofNat_of_zero_le h0;have:=Tryz.strconv_Itoa_small k (by omega) w;have hi:Lib.itoa (k:Int)=Lib.decDigits k:=by unfold Lib.itoa;rw [if_neg (by omega)];simp
 rw [hi];exact this
theorem zAM {x:Int} (h:I64 x):(Lib.itoa x).length≤21:=Lib.itoa_length_le x h.1 h.2
theorem zJR {x:Fg} (h:FgOk x):(zAi x).length≤43:=by
 have h1:=zAM h.p;have h2:=zAM h.d;unfold zAi;by_cases hp:x.p=1
 ·rw [if_pos hp];simp;omega
 ·rw [if_neg hp];simp;omega
theorem zGr {x:Fg} (h:zAl x=true):FgOk x:=by
 have:=zAt.1 h;exact ⟨⟨by omega,by omega⟩,⟨by omega,by omega⟩⟩
set_option maxHeartbeats 1600000 in
theorem zJS (x:Fg) (hx:zAl x=true) (w:World) :
  Calls Tryz.prog 154 #[fgV x] w fun e w'=>e=.returned (.string (bA (zAi x)))∧Below w.heap.size w w':=by
 have hok:=zGr hx;obtain ⟨h1,h2,h3,h4⟩:=zAt.1 hx;have zP:=zAM hok.p;have zD:=zAM hok.d;have ah:Below w.heap.size w (w.alloc (.cells #[.int .i64 x.p,.bool x.r,.int .i64 x.d] 90)):=(Below.refl _ _).alloc (Nat.le_refl _) _;obtain ⟨p,r,d⟩:=x;simp only at h1 h2 h3 h4 zP zD ah ⊢;have HP:=qH (zMo p (by omega) (by omega) (w.alloc (.cells #[.int .i64 p,.bool r,.int .i64 d] 90)));have HD:=qH (zMo d (by omega) (by omega) (w.alloc (.cells #[.int .i64 p,.bool r,.int .i64 d] 90)));by_cases hp:p=1
 ·have s0:=zAA [] [82] (by simp) (by simp);have s1:=zAA [] [76] (by simp) (by simp);have s2:=zAA [82] (Lib.itoa d) (by simp) (by omega);have s3:=zAA [76] (Lib.itoa d) (by simp) (by omega);rw [show bA [82]=⟨#[82]⟩ from rfl] at s0 s2;rw [show bA [76]=⟨#[76]⟩ from rfl] at s1 s3;rw [show bA []=⟨#[]⟩ from rfl] at s0 s1;rw [show bA ([]++[82])=⟨#[82]⟩ from rfl] at s0;rw [show bA ([]++[76])=⟨#[76]⟩ from rfl] at s1;have q0:(p != 1)=false:=by simpa using hp
  have hf:=qH (show zAi ⟨p,r,d⟩=(if r then 82 else 76) :: Lib.itoa d by unfold zAi;rw [if_pos hp];rfl);clear hp h1 h2 h3 h4 hok hx HP zP zD
  cases r with
  | true =>
   go_enter Tryz.func154,Tryz.ntmps154;go_wp2_with fail
   refine HD.out.mono ?_;rintro e w2 ⟨rfl,rfl⟩;go_wp2_with fail
   go_ret;exact ⟨zDl (by rw [hf.out];first | rfl | simp),ah⟩
  | false =>
   go_enter Tryz.func154,Tryz.ntmps154;go_wp2_with fail
   refine HD.out.mono ?_;rintro e w2 ⟨rfl,rfl⟩;go_wp2_with fail
   go_ret;exact ⟨zDl (by rw [hf.out];first | rfl | simp),ah⟩
 ·have s0:=zAA (Lib.itoa p) [82] (by omega) (by simp);have s1:=zAA (Lib.itoa p) [76] (by omega) (by simp);have s2:=zAA (Lib.itoa p++[82]) (Lib.itoa d) (by simp;omega) (by omega);have s3:=zAA (Lib.itoa p++[76]) (Lib.itoa d) (by simp;omega) (by omega);rw [show bA [82]=⟨#[82]⟩ from rfl] at s0;rw [show bA [76]=⟨#[76]⟩ from rfl] at s1;have q0:(p != 1)=true:=by simpa using hp
  have hf:=qH (show zAi ⟨p,r,d⟩=Lib.itoa p++[if r then 82 else 76]++Lib.itoa d by unfold zAi;rw [if_neg hp];simp);clear hp h1 h2 h3 h4 hok hx zP zD
  cases r with
  | true =>
   go_enter Tryz.func154,Tryz.ntmps154;go_wp2_with fail
   refine HP.out.mono ?_;rintro e w2 ⟨rfl,rfl⟩;go_wp2_with fail
   refine HD.out.mono ?_;rintro e w2 ⟨rfl,rfl⟩;go_wp2_with fail
   go_ret;exact ⟨zDl (by rw [hf.out];first | rfl | simp),ah⟩
  | false =>
   go_enter Tryz.func154,Tryz.ntmps154;go_wp2_with fail
   refine HP.out.mono ?_;rintro e w2 ⟨rfl,rfl⟩;go_wp2_with fail
   refine HD.out.mono ?_;rintro e w2 ⟨rfl,rfl⟩;go_wp2_with fail
   go_ret;exact ⟨zDl (by rw [hf.out];first | rfl | simp),ah⟩
set_option maxHeartbeats 1600000 in
theorem zJT (x:Fg) (hx:zAl x=true) (w:World) :
  Calls Tryz.prog 111 #[fgV x] w fun e w'=>e=.returned (.string (bA (zAi x)))∧Below w.heap.size w w':=by
 have hok:=zGr hx;obtain ⟨h1,h2,h3,h4⟩:=zAt.1 hx;have zP:=zAM hok.p;have zD:=zAM hok.d;have ah:Below w.heap.size w (w.alloc (.cells #[.int .i64 x.p,.bool x.r,.int .i64 x.d] 90)):=(Below.refl _ _).alloc (Nat.le_refl _) _;have hk0:Blk (w.alloc (.cells #[.int .i64 x.p,.bool x.r,.int .i64 x.d] 90)) w.heap.size 90 #[.int .i64 x.p,.bool x.r,.int .i64 x.d]:=Blk.new _ _ _;obtain ⟨p,r,d⟩:=x;simp only at h1 h2 h3 h4 zP zD ah hk0 ⊢;have HP:=qH (fun w=>zBh p hok.p w);have HD:=qH (fun w=>zBh d hok.d w);by_cases hp:p=1
 ·have s0:=zAA [] [82] (by simp) (by simp);have s1:=zAA [] [76] (by simp) (by simp);have s2:=zAA [82] (Lib.itoa d) (by simp) (by omega);have s3:=zAA [76] (Lib.itoa d) (by simp) (by omega);rw [show bA [82]=⟨#[82]⟩ from rfl] at s0 s2;rw [show bA [76]=⟨#[76]⟩ from rfl] at s1 s3;rw [show bA []=⟨#[]⟩ from rfl] at s0 s1;rw [show bA ([]++[82])=⟨#[82]⟩ from rfl] at s0;rw [show bA ([]++[76])=⟨#[76]⟩ from rfl] at s1;have q0:(p != 1)=false:=by simpa using hp
  have hf:=qH (show zAi ⟨p,r,d⟩=(if r then 82 else 76) :: Lib.itoa d by unfold zAi;rw [if_pos hp];rfl);clear hp h1 h2 h3 h4 hok hx HP zP zD
  cases r with
  | true =>
   go_enter Tryz.func111,Tryz.ntmps111;go_wp2_with fail
   refine (HD.out _).mono ?_;rintro e w2 ⟨rfl,ai⟩;have al:=zAa ah ai ah.size;go_wp2_with fail
   go_ret;exact ⟨zDl (by rw [hf.out];first | rfl | simp),al⟩
  | false =>
   go_enter Tryz.func111,Tryz.ntmps111;go_wp2_with fail
   refine (HD.out _).mono ?_;rintro e w2 ⟨rfl,ai⟩;have al:=zAa ah ai ah.size;go_wp2_with fail
   go_ret;exact ⟨zDl (by rw [hf.out];first | rfl | simp),al⟩
 ·have s0:=zAA (Lib.itoa p) [82] (by omega) (by simp);have s1:=zAA (Lib.itoa p) [76] (by omega) (by simp);have s2:=zAA (Lib.itoa p++[82]) (Lib.itoa d) (by simp;omega) (by omega);have s3:=zAA (Lib.itoa p++[76]) (Lib.itoa d) (by simp;omega) (by omega);rw [show bA [82]=⟨#[82]⟩ from rfl] at s0;rw [show bA [76]=⟨#[76]⟩ from rfl] at s1;have q0:(p != 1)=true:=by simpa using hp
  have hf:=qH (show zAi ⟨p,r,d⟩=Lib.itoa p++[if r then 82 else 76]++Lib.itoa d by unfold zAi;rw [if_neg hp];simp);clear hp h1 h2 h3 h4 hok hx zP zD
  cases r with
  | true =>
   go_enter Tryz.func111,Tryz.ntmps111;go_wp2_with fail
   generalize w.alloc (.cells #[.int .i64 p,.bool true,.int .i64 d] 90)=X at ah hk0 ⊢;refine (HP.out _).mono ?_;rintro e w2 ⟨rfl,ai⟩;have hk2:=hk0.below ai hk0.lt;obtain ⟨-,c1,c2⟩:=cQ3 hk2;have al:=zAa ah ai ah.size;go_wp2_with fail
   refine (HD.out _).mono ?_;rintro e w3 ⟨rfl,aI⟩;have aw:=zAa al aI al.size;go_wp2_with fail
   go_ret;exact ⟨zDl (by rw [hf.out];first | rfl | simp),aw⟩
  | false =>
   go_enter Tryz.func111,Tryz.ntmps111;go_wp2_with fail
   generalize w.alloc (.cells #[.int .i64 p,.bool false,.int .i64 d] 90)=X at ah hk0 ⊢;refine (HP.out _).mono ?_;rintro e w2 ⟨rfl,ai⟩;have hk2:=hk0.below ai hk0.lt;obtain ⟨-,c1,c2⟩:=cQ3 hk2;have al:=zAa ah ai ah.size;go_wp2_with fail
   refine (HD.out _).mono ?_;rintro e w3 ⟨rfl,aI⟩;have aw:=zAa al aI al.size;go_wp2_with fail
   go_ret;exact ⟨zDl (by rw [hf.out];first | rfl | simp),aw⟩
structure Sg where
 f:Int
 l:Int
 far:Bool
 pc:Int
instance : DecidableEq Sg := fun a b =>
 if h:a.f=b.f∧a.l=b.l∧a.far=b.far∧a.pc=b.pc then .isTrue (by cases a;cases b;simp at h;simp [h])
 else .isFalse (fun e=>h (by subst e;simp))
structure Sp where
 s:Sg
 over:Bool
instance : DecidableEq Sp := fun a b =>
 if h:a.s=b.s∧a.over=b.over then .isTrue (by cases a;cases b;simp at h;simp [h])
 else .isFalse (fun e=>h (by subst e;simp))
structure Og where
 kind:Int
 f:Int
 fr:Sg
 path:List Sp
 over:Bool
instance : DecidableEq Og := fun a b =>
 if h:a.kind=b.kind∧a.f=b.f∧a.fr=b.fr∧a.path=b.path∧a.over=b.over then .isTrue (by cases a;cases b;simp at h;simp [h])
 else .isFalse (fun e=>h (by subst e;simp))
def sgB (x y:Sg):Bool:=x.f==y.f&&x.l==y.l&&x.far==y.far&&x.pc==y.pc
theorem zCC {x y:Sg}:sgB x y=true↔x=y:=by
 cases x;cases y
 simp [sgB,and_assoc]
def s0:Sg:=⟨0,0,false,0⟩
def zAm (k:Nat) (s:Sg):Bool:=decide (1≤s.f)&&decide (s.f≤(k:Int))&&decide (0≤s.l)&&decide (s.l≤999999999)&&decide (0≤s.pc)&&decide (s.pc≤999999999)
theorem zAj {k:Nat} {s:Sg}:zAm k s=true↔1≤s.f∧s.f≤(k:Int)∧0≤s.l∧s.l≤999999999∧0≤s.pc∧s.pc≤999999999:=by simp [zAm,and_assoc]
def zBi (k:Nat) (o:Og):Bool :=
 if o.kind=1∨o.kind=2∨o.kind=8 then !o.over&&sgB o.fr s0
 else if o.kind=4 then sgB o.fr s0
 else if o.kind=3 then !o.over&&zAm k o.fr
 else if o.kind=5 then zAm k o.fr
 else if o.kind=6∨o.kind=7 then zAm k o.fr&&sgB o.fr ⟨o.fr.f,0,false,0⟩
 else false
def zAg (k:Nat) (o:Og):Bool :=
 decide (1≤o.f)&&decide (o.f≤(k:Int))&&(decide (o.kind=3)||decide (o.path=[]))&&o.path.all (fun x=>zAm k x.s)&&zBi k o
structure SgOk (s:Sg):Prop where
 f:I64 s.f
 l:I64 s.l
 pc:I64 s.pc
def zWZ (s:Sg):List Value:=[.int .i64 s.f,.int .i64 s.l,.bool s.far,.int .i64 s.pc]
abbrev sgV (s:Sg):Value:=.agg #[.int .i64 s.f,.int .i64 s.l,.bool s.far,.int .i64 s.pc]
def zCa (x:Sp):List Value:=[.int .i64 x.s.f,.int .i64 x.s.l,.bool x.s.far,.int .i64 x.s.pc,.bool x.over]
abbrev spV (x:Sp):Value:=.agg #[.int .i64 x.s.f,.int .i64 x.s.l,.bool x.s.far,.int .i64 x.s.pc,.bool x.over]
def dp:Sp:=⟨s0,false⟩
def pa (L:List Sp) (i:Nat):Sp:=(L[i]?).getD dp
theorem zCG {L:List Sp} {i:Nat} (h:i < L.length):L[i]? = some (pa L i):=by unfold pa;rw [List.getElem?_eq_getElem h];rfl
structure SpAt (w:World) (g o:Nat) (x:Sp):Prop where
 f:w.cell? ⟨g,o,none⟩=some (.int .i64 x.s.f)
 l:w.cell? ⟨g,o+1,none⟩=some (.int .i64 x.s.l)
 far:w.cell? ⟨g,o+2,none⟩=some (.bool x.s.far)
 pc:w.cell? ⟨g,o+3,none⟩=some (.int .i64 x.s.pc)
 over:w.cell? ⟨g,o+4,none⟩=some (.bool x.over)
def Stps (w:World) (A:Option Addr) (n:Nat) (L:List Sp):Prop:=Els 5 zCa w A n L∧∀x∈L,SgOk x.s
section
variable {w w':World} {A:Option Addr} {n:Nat} {L:List Sp}
theorem Stps.len (h:Stps w A n L):L.length=n:=h.1.1
theorem Stps.le (h:Stps w A n L):n≤17592186043904:=h.1.2.1
theorem Stps.nil (w:World) (A:Option Addr):Stps w A 0 []:=⟨Els.nil _ _,by simp⟩
theorem Stps.below (h:Stps w A n L) (hb:Below w.heap.size w w'):Stps w' A n L:=⟨h.1.below hb,h.2⟩
theorem Stps.at_ {k:Nat} (h:Stps w A n L) (hk:k < n):∃g o,A=some ⟨g,o,none⟩∧g < w.heap.size∧SpAt w g (o+k*5) (pa L k)∧SgOk (pa L k).s:=by
 obtain ⟨g,o,e,hb,hc⟩:=h.1.2.2 (by omega);have hx:L[k]? = some (pa L k):=zCG (by rw [h.len];exact hk);exact ⟨g,o,e,hb,⟨hc k _ hx 0 _ rfl,hc k _ hx 1 _ rfl,hc k _ hx 2 _ rfl,hc k _ hx 3 _ rfl,hc k _ hx 4 _ rfl⟩,h.2 _ (List.mem_of_getElem? hx)⟩
end
structure OgOk (o:Og):Prop where
 kind:I64 o.kind
 f:I64 o.f
 fr:SgOk o.fr
abbrev opV (o:Og) (A:Option Addr) (n c:Nat):Value:=.agg #[.int .i64 o.kind,.int .i64 o.f,.int .i64 o.fr.f,.int .i64 o.fr.l,.bool o.fr.far,.int .i64 o.fr.pc,.slice A n c,.bool o.over]
structure OpIn (w:World) (o:Og) (A:Option Addr) (n c:Nat):Prop where
 ok:OgOk o
 path:Stps w A n o.path
 cap:n≤c
theorem OpIn.below {w w':World} {o:Og} {A:Option Addr} {n c:Nat} (h:OpIn w o A n c) (hb:Below w.heap.size w w'):OpIn w' o A n c:=⟨h.ok,h.path.below hb,h.cap⟩
structure Oe where
 o:Og
 A:Option Addr
 n:Nat
 c:Nat
def zSQ (e:Oe):List Value:=[.int .i64 e.o.kind,.int .i64 e.o.f,.int .i64 e.o.fr.f,.int .i64 e.o.fr.l,.bool e.o.fr.far,.int .i64 e.o.fr.pc,.slice e.A e.n e.c,.bool e.o.over]
def do_:Oe:=⟨⟨0,0,s0,[],false⟩,none,0,0⟩
def oa (L:List Oe) (i:Nat):Oe:=(L[i]?).getD do_
theorem zBn {L:List Oe} {i:Nat} (h:i < L.length):L[i]? = some (oa L i):=by unfold oa;rw [List.getElem?_eq_getElem h];rfl
structure OpAt (w:World) (g p:Nat) (e:Oe):Prop where
 kind:w.cell? ⟨g,p,none⟩=some (.int .i64 e.o.kind)
 f:w.cell? ⟨g,p+1,none⟩=some (.int .i64 e.o.f)
 ff:w.cell? ⟨g,p+2,none⟩=some (.int .i64 e.o.fr.f)
 fl:w.cell? ⟨g,p+3,none⟩=some (.int .i64 e.o.fr.l)
 far:w.cell? ⟨g,p+4,none⟩=some (.bool e.o.fr.far)
 pc:w.cell? ⟨g,p+5,none⟩=some (.int .i64 e.o.fr.pc)
 path:w.cell? ⟨g,p+6,none⟩=some (.slice e.A e.n e.c)
 over:w.cell? ⟨g,p+7,none⟩=some (.bool e.o.over)
def Oprs (w:World) (A:Option Addr) (n:Nat) (L:List Oe):Prop:=Els 8 zSQ w A n L∧∀e∈L,OpIn w e.o e.A e.n e.c
section
variable {w w':World} {A:Option Addr} {n:Nat} {L:List Oe}
theorem Oprs.len (h:Oprs w A n L):L.length=n:=h.1.1
theorem Oprs.le (h:Oprs w A n L):n≤17592186043904:=h.1.2.1
theorem Oprs.below (h:Oprs w A n L) (hb:Below w.heap.size w w'):Oprs w' A n L:=⟨h.1.below hb,fun e he=>(h.2 e he).below hb⟩
theorem Oprs.at_ {k:Nat} (h:Oprs w A n L) (hk:k < n):∃g o,A=some ⟨g,o,none⟩∧g < w.heap.size∧OpAt w g (o+k*8) (oa L k)∧OpIn w (oa L k).o (oa L k).A (oa L k).n (oa L k).c:=by
 obtain ⟨g,o,e,hb,hc⟩:=h.1.2.2 (by omega);have hx:L[k]? = some (oa L k):=zBn (by rw [h.len];exact hk);exact ⟨g,o,e,hb,⟨hc k _ hx 0 _ rfl,hc k _ hx 1 _ rfl,hc k _ hx 2 _ rfl,hc k _ hx 3 _ rfl,hc k _ hx 4 _ rfl,hc k _ hx 5 _ rfl,hc k _ hx 6 _ rfl,hc k _ hx 7 _ rfl⟩,h.2 _ (List.mem_of_getElem? hx)⟩
end
set_option maxRecDepth 100000 in
theorem zVz (x y:Sg) (w:World):(Op.equalIn 10000 29 (sgV x) (sgV y)).run Tryz.prog w=.ok (sgB x y) w:=by
 have u3:=Tryz.underlying3;have a3:=Tryz.isAgg3;have z3:=Tryz.sizeOf3;have u4:=Tryz.underlying4;have a4:=Tryz.isAgg4;have z4:=Tryz.sizeOf4;have hS:Tryz.prog.underlying 29=some (.struct (Tryz.prog.fieldsOf 29)):=by kernel_rfl
 have hp:Tryz.prog.stoodInHeld 29=false:=by kernel_rfl
 rw [show (10000:Nat)=9999+1 from rfl,run_equalIn_agg w 9999 29 _ _ hS hp];simp only [Program.fieldsOf,Tryz.underlying29];go_simp
 unfold sgB;by_cases h1:x.f=y.f<;>by_cases h2:x.l=y.l<;>by_cases h3:x.far=y.far<;>by_cases h4:x.pc=y.pc<;>simp [h1,h2,h3,h4]
theorem zEh (A:Option Addr) (n c:Nat) (re lo:Int) (s:Sg) (w:World) :
  Calls Tryz.prog 152 #[.agg #[.slice A n c,.int .i64 re,.int .i64 lo],sgV s] w fun e w'=>e=.returned (.bool (zAm n s))∧Below w.heap.size w w':=by
 have ah:Below w.heap.size w ((w.alloc (.cells #[.slice A n c,.int .i64 re,.int .i64 lo] 24)).alloc (.cells #[.int .i64 s.f,.int .i64 s.l,.bool s.far,.int .i64 s.pc] 29)):=((Below.refl _ _).alloc (Nat.le_refl _) _).alloc (by simp) _;have HB:=qH ah;have hr:=qH (show zAm n s=(decide (1≤s.f)&&decide (s.f≤(n:Int))&&decide (0≤s.l)&&decide (s.l≤999999999)&&decide (0≤s.pc)&&decide (s.pc≤999999999)) from rfl);clear ah;go_enter Tryz.func152,Tryz.ntmps152;go_wp2_with fail
 all_goals
  go_ret;refine ⟨zBU ?_,HB.out⟩;rw [hr.out];simp
  try omega
abbrev frV (A:Option Addr) (n c:Nat) (re lo:Int):Value:=.agg #[.slice A n c,.int .i64 re,.int .i64 lo]
theorem zMp {k:Nat} {s:Sg} {b:Bool} (h:zAm k s=b) (A:Option Addr) (c:Nat) (re lo:Int) (w:World) :
  Calls Tryz.prog 152 #[frV A k c re lo,sgV s] w fun e w'=>e=.returned (.bool b)∧Below w.heap.size w w':=by
 subst h;exact zEh A k c re lo s w
def zTE (k:Nat) (o:Og):Prop:=1≤o.f∧o.f≤(k:Int)∧(o.kind=3∨o.path=[])
theorem zGL {k:Nat} {o:Og} (h:¬zTE k o):zAg k o=false:=by
 cases e:zAg k o with
 | false=>rfl
 | true =>
  unfold zAg at e;simp only [Bool.and_eq_true,Bool.or_eq_true,decide_eq_true_eq] at e;exact absurd ⟨e.1.1.1.1,e.1.1.1.2,e.1.1.2⟩ h
theorem zGM {k:Nat} {o:Og} {i:Nat} (hi:i < o.path.length) (h:zAm k (pa o.path i).s=false):zAg k o=false:=by
 cases e:zAg k o with
 | false=>rfl
 | true =>
  unfold zAg at e;simp only [Bool.and_eq_true,List.all_eq_true] at e;have:=e.1.2 _ (List.mem_of_getElem? (zCG hi));rw [h] at this;cases this
theorem zEi {k:Nat} {o:Og} (h:zTE k o) (hp:∀i,i < o.path.length→zAm k (pa o.path i).s=true):zAg k o=zBi k o:=by
 have hall:o.path.all (fun x=>zAm k x.s)=true:=by
  rw [List.all_eq_true];intro x hx;obtain ⟨i,hi⟩:=List.getElem?_of_mem hx;have hlt:=(List.getElem?_eq_some_iff.1 hi).1;have:=hp i hlt;have he:=zCG hlt;rw [hi] at he;injection he with he
  rw [←he] at this;exact this
 unfold zAg;have h3:(decide (o.kind=3)||decide (o.path=[]))=true:=by simpa using h.2.2
 rw [hall,h3];simp [h.1,h.2.1]
set_option maxRecDepth 100000 in
set_option maxHeartbeats 6400000 in
theorem zLf (A:Option Addr) (n c:Nat) (re lo:Int) (o:Og) (B:Option Addr) (m d:Nat) (w:World) (hO:OpIn w o B m d) :
  Calls Tryz.prog 104 #[frV A n c re lo,opV o B m d] w fun e w'=>e=.returned (.bool (!zAg n o))∧Below w.heap.size w w':=by
 have hlen:=hO.path.len;have hle:=hO.path.le;obtain ⟨kind,f,fr,path,over⟩:=o;simp only at hlen hle ⊢;have hP:Stps w B m path:=hO.path;have ah:Below w.heap.size w ((w.alloc (.cells #[.slice A n c,.int .i64 re,.int .i64 lo] 24)).alloc (.cells #[.int .i64 kind,.int .i64 f,.int .i64 fr.f,.int .i64 fr.l,.bool fr.far,.int .i64 fr.pc,.slice B m d,.bool over] 32)):=((Below.refl _ _).alloc (Nat.le_refl _) _).alloc (by simp) _;by_cases hh:zTE n ⟨kind,f,fr,path,over⟩
 ·have HH:=qH hh;obtain ⟨h1,h2,h3⟩:=hh;simp only at h1 h2 h3;have i1:¬f < 1:=by omega
  have i2:¬(n:Int) < f:=by omega
  have hk0:=(Blk.new w 24 #[.slice A n c,.int .i64 re,.int .i64 lo]).alloc (.cells #[.int .i64 kind,.int .i64 f,.int .i64 fr.f,.int .i64 fr.l,.bool fr.far,.int .i64 fr.pc,.slice B m d,.bool over] 32);have aq:Blk ((w.alloc (.cells #[.slice A n c,.int .i64 re,.int .i64 lo] 24)).alloc (.cells #[.int .i64 kind,.int .i64 f,.int .i64 fr.f,.int .i64 fr.l,.bool fr.far,.int .i64 fr.pc,.slice B m d,.bool over] 32)) (w.heap.size+1) 32 #[.int .i64 kind,.int .i64 f,.int .i64 fr.f,.int .i64 fr.l,.bool fr.far,.int .i64 fr.pc,.slice B m d,.bool over]:=heap_alloc2_new w _ _;have aM:=qH hlen;have HM:Hid (kind=3∨m=0):=qH (h3.imp id fun e=>by rw [←hlen,e];rfl);clear h1 h2 h3 hlen hO;by_cases k3:kind=3
  ·subst k3;go_enter Tryz.func104,Tryz.ntmps104;go_wp2_with fail
   generalize (w.alloc (.cells #[.slice A n c,.int .i64 re,.int .i64 lo] 24)).alloc (.cells #[.int .i64 3,.int .i64 f,.int .i64 fr.f,.int .i64 fr.l,.bool fr.far,.int .i64 fr.pc,.slice B m d,.bool over] 32)=W at ah hk0 aq ⊢;go_loopw [32] (fun v wr=>∃i:Nat,i≤m∧v=.int .i64 i∧Below W.heap.size W wr∧Hid (∀j:Nat,j < i→zAm n (pa path j).s=true)) (fun v _=>m-(intOf v).toNat)
   case atStart=>exact ⟨0,Nat.zero_le _,rfl,Below.refl _ _,qH (fun j hj=>by omega)⟩
   case round =>
    obtain ⟨i,hi,rfl,hbr,HS⟩:=hrel;have hkr:=hk0.below hbr hk0.lt;have hor:=aq.below hbr aq.lt;have hbw:=zAa ah hbr ah.size;by_cases hlt:i < m
    ·obtain ⟨g,p,rfl,hg,⟨x0,x1,x2,x3,x4⟩,_⟩:=(hP.below hbw).at_ hlt;have j0:(0:Int)≤(i:Int):=by omega
     have j1:(i:Int) < (m:Int):=by omega
     obtain ⟨b,hb⟩:∃b,zAm n (pa path i).s=b:=⟨_,rfl⟩
     have HB:=qH hb;have eB:=qH hb;clear hb;generalize hx:pa path i=x at x0 x1 x2 x3 x4 HB;obtain ⟨xs,xo⟩:=x;clear hx;have io:=hkr.alloc (.cells #[.int .i64 xs.f,.int .i64 xs.l,.bool xs.far,.int .i64 xs.pc,.bool xo] 86);have eM:Blk (wr.alloc (.cells #[.int .i64 xs.f,.int .i64 xs.l,.bool xs.far,.int .i64 xs.pc,.bool xo] 86)) wr.heap.size 86 #[.int .i64 xs.f,.int .i64 xs.l,.bool xs.far,.int .i64 xs.pc,.bool xo]:=Blk.new _ _ _;have aI:Below W.heap.size W (wr.alloc (.cells #[.int .i64 xs.f,.int .i64 xs.l,.bool xs.far,.int .i64 xs.pc,.bool xo] 86)):=hbr.alloc hbr.size _;have y0:=(io.cell 0).trans rfl;have y1:=(io.cell 1).trans rfl;have y2:=(io.cell 2).trans rfl;have z0:=(eM.cell 0).trans rfl;have z1:=(eM.cell 1).trans rfl;have z2:=(eM.cell 2).trans rfl;have z3:=(eM.cell 3).trans rfl;have HN:=qH (zMp HB.out A c re lo (wr.alloc (.cells #[.int .i64 xs.f,.int .i64 xs.l,.bool xs.far,.int .i64 xs.pc,.bool xo] 86)))
     cases b with
     | true =>
      have cn:=qH (show ∀j:Nat,j < i+1→zAm n (pa path j).s=true from fun j hj=>by
       rcases Nat.decEq j i with e | e
       ·exact HS.out j (by omega)
       ·subst e;exact eB.out)
      clear HS HB eB;go_wp2_with fail
      refine HN.out.mono ?_;rintro e w5 ⟨rfl,aw⟩;have aH:=zAa aI aw aI.size;clear y0 y1 y2 z0 z1 z2 z3;go_wp2_with fail
      go_roundw
      case rel=>exact ⟨i+1,by omega,by go_num,aH,cn⟩
      case measure=>simp [intOf];omega
     | false =>
      have hr:=qH (zGM (k:=n) (o:=⟨3,f,fr,path,over⟩) (i:=i) (by rw [show (⟨3,f,fr,path,over⟩:Og).path=path from rfl,aM.out];exact hlt) eB.out);clear HS HB eB;go_wp2_with fail
      refine HN.out.mono ?_;rintro e w5 ⟨rfl,aw⟩;have aH:=zAa aI aw aI.size;clear y0 y1 y2 z0 z1 z2 z3;go_wp2_with fail
      go_ret;exact ⟨zBU (by rw [hr.out];rfl),zAa ah aH ah.size⟩
    ·have j1:¬(i:Int) < (m:Int):=by omega
     have hrest:=zEi HH.out (fun j hj=>HS.out j (by rw [show (⟨3,f,fr,path,over⟩:Og).path=path from rfl,aM.out] at hj;omega));have hre:zBi n ⟨3,f,fr,path,over⟩=(!over&&zAm n fr):=by simp [zBi]
     rw [hre] at hrest;have HR:=qH hrest;have HN:=qH (zEh A n c re lo fr wr);obtain ⟨a0,a1,a2⟩:=cQ3 hkr;obtain ⟨e0,-,e2,e3,e4,e5,-,e7⟩:=cQ8 hor;clear HS hrest hre
     cases over with
     | true =>
      go_wp2_with fail
      go_ret;exact ⟨zBU (by rw [HR.out];rfl),hbw⟩
     | false =>
      go_wp2_with fail
      refine HN.out.mono ?_;rintro e w5 ⟨rfl,aw⟩;have aH:=zAa hbw aw hbw.size;go_wp2_with fail
      go_ret;exact ⟨zBU (by rw [HR.out];simp),aH⟩
  ·have k4:(kind != 3)=true:=by simpa using k3
   have k5:¬0 < (m:Int):=by rcases HM.out with h | h;exact absurd h k3;omega
   have K3:=qH k3;clear k3;go_enter Tryz.func104,Tryz.ntmps104;go_wp2_with fail
   generalize (w.alloc (.cells #[.slice A n c,.int .i64 re,.int .i64 lo] 24)).alloc (.cells #[.int .i64 kind,.int .i64 f,.int .i64 fr.f,.int .i64 fr.l,.bool fr.far,.int .i64 fr.pc,.slice B m d,.bool over] 32)=W at ah hk0 aq ⊢;go_loopw [32] (fun v wr=>∃i:Nat,i≤m∧v=.int .i64 i∧Below W.heap.size W wr∧Hid (∀j:Nat,j < i→zAm n (pa path j).s=true)) (fun v _=>m-(intOf v).toNat)
   case atStart=>exact ⟨0,Nat.zero_le _,rfl,Below.refl _ _,qH (fun j hj=>by omega)⟩
   case round =>
    obtain ⟨i,hi,rfl,hbr,HS⟩:=hrel;have hkr:=hk0.below hbr hk0.lt;have hor:=aq.below hbr aq.lt;have hbw:=zAa ah hbr ah.size;by_cases hlt:i < m
    ·exfalso;omega
    ·have j1:¬(i:Int) < (m:Int):=by omega
     have hrest:=zEi HH.out (fun j hj=>HS.out j (by rw [show (⟨kind,f,fr,path,over⟩:Og).path=path from rfl,aM.out] at hj;omega));have HR:=qH hrest;have HN:=qH (zEh A n c re lo fr wr);obtain ⟨a0,a1,a2⟩:=cQ3 hkr;obtain ⟨e0,-,e2,e3,e4,e5,-,e7⟩:=cQ8 hor;have heq:=fun w=>zVz fr s0 w
     have heq2:=fun w=>zVz fr ⟨fr.f,0,false,0⟩ w
     simp only [s0] at heq;clear HS hrest;by_cases q1:kind=1∨kind=2∨kind=8
     ·rcases q1 with rfl | rfl | rfl
      all_goals
       cases over with
       | true =>
        go_wp2_with fail
        go_ret;exact ⟨zBU (by rw [HR.out];simp [zBi]),hbw⟩
       | false =>
        go_wp2_with fail
        go_ret;exact ⟨zBU (by rw [HR.out];simp [zBi,s0]),hbw⟩
     ·by_cases q2:kind=4
      ·subst q2;clear q1;go_wp2_with fail
       go_ret;exact ⟨zBU (by rw [HR.out];simp [zBi,s0]),hbw⟩
      ·by_cases q3:kind=5
       ·subst q3;clear q1 q2;go_wp2_with fail
        refine HN.out.mono ?_;rintro e w5 ⟨rfl,aw⟩;have aH:=zAa hbw aw hbw.size;go_wp2_with fail
        go_ret;exact ⟨zBU (by rw [HR.out];simp [zBi]),aH⟩
       ·by_cases q4:kind=6∨kind=7
        ·clear q1 q2 q3;have hkb:=fun (w5:World) (aw:Below wr.heap.size wr w5)=>hor.below aw hor.lt
         obtain ⟨b,hb⟩:∃b,zAm n fr=b:=⟨_,rfl⟩
         have GG:=qH (zMp hb A c re lo wr);have HB:=qH hb;have HKB:=qH hkb;clear HN hb hkb;rcases q4 with rfl | rfl
         all_goals
          cases b with
          | false =>
           go_wp2_with fail
           refine GG.out.mono ?_;rintro e w5 ⟨rfl,aw⟩;have aH:=zAa hbw aw hbw.size;clear e0 e2 e3 e4 e5 e7;go_wp2_with fail
           go_ret;exact ⟨zBU (by rw [HR.out];simp [zBi,HB.out]),aH⟩
          | true =>
           go_wp2_with fail
           refine GG.out.mono ?_;rintro e w5 ⟨rfl,aw⟩;have aH:=zAa hbw aw hbw.size;have xv:=HKB.out w5 aw;clear e0 e2 e3 e4 e5 e7;obtain ⟨-,-,g2,g3,g4,g5⟩:=cQ6 xv;go_wp2_with fail
           go_ret;exact ⟨zBU (by rw [HR.out];simp [zBi,HB.out]),aH⟩
        ·have t1:(kind==1)=false:=by simp;omega
         have t2:(kind==2)=false:=by simp;omega
         have t3:(kind==8)=false:=by simp;omega
         have t4:(kind==4)=false:=by simp;omega
         have t5:(kind==3)=false:=by simpa using k4
         have t6:(kind==5)=false:=by simp;omega
         have t7:(kind==6)=false:=by simp;omega
         have t8:(kind==7)=false:=by simp;omega
         have hz:zBi n ⟨kind,f,fr,path,over⟩=false:=by
          unfold zBi;simp only;rw [if_neg q1,if_neg q2,if_neg K3.out,if_neg q3,if_neg q4]
         have HZ:=qH hz;clear q1 q2 q3 q4 hz;go_wp2_with fail
         go_ret;exact ⟨zBU (by rw [HR.out,HZ.out];rfl),hbw⟩
 ·have hr:=qH (zGL hh);have vL:f < 1∨(¬f < 1∧(n:Int) < f)∨(¬f < 1∧¬(n:Int) < f∧(kind != 3)=true∧0 < (m:Int)):=by
   by_cases e1:f < 1
   ·exact .inl e1
   ·by_cases e2:(n:Int) < f
    ·exact .inr (.inl ⟨e1,e2⟩)
    ·have e3:¬(kind=3∨path=[]):=fun e=>hh ⟨by simp only;omega,by simp only;omega,e⟩
     have e4:kind≠3:=fun e=>e3 (.inl e)
     have e5:m≠0:=fun e=>e3 (.inr (List.length_eq_zero_iff.1 (by rw [hlen,e])))
     exact .inr (.inr ⟨e1,e2,by simpa using e4,by omega⟩)
  clear hh;rcases vL with i1 | ⟨i1,i2⟩ | ⟨i1,i2,i3,i4⟩
  all_goals
   go_enter Tryz.func104,Tryz.ntmps104;go_wp2_with fail
   go_ret;exact ⟨zBU (by rw [hr.out];rfl),ah⟩
end Go.Proofs.YtlmdfmnbcndhoaaGreatDoor
