/-
  Lemmas, part 6. Conditions: each theorem's own.
-/
import Derived.Test.YtlmdfmnbcndhoaaGreatDoorRc05
open Go.Value renaming bool→G,int→D,slice→H,string→W
open Go.IntKind renaming i64→J
open Bool renaming false→E,true→Q
open Option renaming none→U,some→Z
namespace Go.Proofs.YtlmdfmnbcndhoaaGreatDoor
open Go.RowKit
theorem zMv (x:Int) (h0:0≤x) (h1:x < 100) (w:World):Calls Tryz.prog 124 #[D J x] w fun e w'=>e=.returned (W (bA (Lib.itoa x)))∧w'=w:=by
 obtain ⟨k,rfl⟩:=Int.eq_ofNat_of_zero_le h0;have:=Tryz.strconv_Itoa_small k (by omega) w;have hi:Lib.itoa (k:Int)=Lib.decDigits k:=by unfold Lib.itoa;rw [if_neg (by omega)];simp
 rw [hi];exact this
theorem zBm {x:Int} (h:I64 x):(Lib.itoa x).length≤21:=Lib.itoa_length_le x h.1 h.2
theorem zOX {x:Fg} (h:FgOk x):(zAl x).length≤43:=by
 have h1:=zBm h.p;have h2:=zBm h.d;unfold zAl;by_cases hp:x.p=1
 ·rw [if_pos hp];simp;omega
 ·rw [if_neg hp];simp;omega
theorem zJa {x:Fg} (h:zAo x=Q):FgOk x:=by
 have:=zAs.1 h;exact ⟨⟨by omega,by omega⟩,⟨by omega,by omega⟩⟩
set_option maxHeartbeats 1600000 in
theorem zKk (x:Fg) (hx:zAo x=Q) (w:World) :
  Calls Tryz.prog 154 #[fgV x] w fun e w'=>e=.returned (W (bA (zAl x)))∧Below w.heap.size w w':=by
 have hok:=zJa hx;obtain ⟨h1,h2,h3,h4⟩:=zAs.1 hx;have zP:=zBm hok.p;have zD:=zBm hok.d;have aa:Below w.heap.size w (w.alloc (.cells #[D J x.p,G x.r,D J x.d] 90)):=(Below.refl _ _).alloc (Nat.le_refl _) _;obtain ⟨p,r,d⟩:=x;simp only at h1 h2 h3 h4 zP zD aa ⊢;have HP:=qH (zMv p (by omega) (by omega) (w.alloc (.cells #[D J p,G r,D J d] 90)));have HD:=qH (zMv d (by omega) (by omega) (w.alloc (.cells #[D J p,G r,D J d] 90)));by_cases hp:p=1
 ·have s0:=zAx [] [82] (by simp) (by simp);have s1:=zAx [] [76] (by simp) (by simp);have s2:=zAx [82] (Lib.itoa d) (by simp) (by omega);have s3:=zAx [76] (Lib.itoa d) (by simp) (by omega);rw [show bA [82]=⟨#[82]⟩ from rfl] at s0 s2;rw [show bA [76]=⟨#[76]⟩ from rfl] at s1 s3;rw [show bA []=⟨#[]⟩ from rfl] at s0 s1;rw [show bA ([]++[82])=⟨#[82]⟩ from rfl] at s0;rw [show bA ([]++[76])=⟨#[76]⟩ from rfl] at s1;have q0:(p != 1)=E:=by simpa using hp
  have hf:=qH (show zAl ⟨p,r,d⟩=(if r then 82 else 76) :: Lib.itoa d by unfold zAl;rw [if_pos hp];rfl);clear hp h1 h2 h3 h4 hok hx HP zP zD
  cases r with
  | true =>
   go_enter Tryz.func154,Tryz.ntmps154;go_wp2_with fail
   refine HD.out.mono ?_;rintro e w2 ⟨rfl,rfl⟩;go_wp2_with fail
   go_ret;exact ⟨zGD (by rw [hf.out];first | rfl | simp),aa⟩
  | false =>
   go_enter Tryz.func154,Tryz.ntmps154;go_wp2_with fail
   refine HD.out.mono ?_;rintro e w2 ⟨rfl,rfl⟩;go_wp2_with fail
   go_ret;exact ⟨zGD (by rw [hf.out];first | rfl | simp),aa⟩
 ·have s0:=zAx (Lib.itoa p) [82] (by omega) (by simp);have s1:=zAx (Lib.itoa p) [76] (by omega) (by simp);have s2:=zAx (Lib.itoa p++[82]) (Lib.itoa d) (by simp;omega) (by omega);have s3:=zAx (Lib.itoa p++[76]) (Lib.itoa d) (by simp;omega) (by omega);rw [show bA [82]=⟨#[82]⟩ from rfl] at s0;rw [show bA [76]=⟨#[76]⟩ from rfl] at s1;have q0:(p != 1)=Q:=by simpa using hp
  have hf:=qH (show zAl ⟨p,r,d⟩=Lib.itoa p++[if r then 82 else 76]++Lib.itoa d by unfold zAl;rw [if_neg hp];simp);clear hp h1 h2 h3 h4 hok hx zP zD
  cases r with
  | true =>
   go_enter Tryz.func154,Tryz.ntmps154;go_wp2_with fail
   refine HP.out.mono ?_;rintro e w2 ⟨rfl,rfl⟩;go_wp2_with fail
   refine HD.out.mono ?_;rintro e w2 ⟨rfl,rfl⟩;go_wp2_with fail
   go_ret;exact ⟨zGD (by rw [hf.out];first | rfl | simp),aa⟩
  | false =>
   go_enter Tryz.func154,Tryz.ntmps154;go_wp2_with fail
   refine HP.out.mono ?_;rintro e w2 ⟨rfl,rfl⟩;go_wp2_with fail
   refine HD.out.mono ?_;rintro e w2 ⟨rfl,rfl⟩;go_wp2_with fail
   go_ret;exact ⟨zGD (by rw [hf.out];first | rfl | simp),aa⟩
set_option maxHeartbeats 1600000 in
theorem zOY (x:Fg) (hx:zAo x=Q) (w:World) :
  Calls Tryz.prog 111 #[fgV x] w fun e w'=>e=.returned (W (bA (zAl x)))∧Below w.heap.size w w':=by
 have hok:=zJa hx;obtain ⟨h1,h2,h3,h4⟩:=zAs.1 hx;have zP:=zBm hok.p;have zD:=zBm hok.d;have aa:Below w.heap.size w (w.alloc (.cells #[D J x.p,G x.r,D J x.d] 90)):=(Below.refl _ _).alloc (Nat.le_refl _) _;have hk0:Blk (w.alloc (.cells #[D J x.p,G x.r,D J x.d] 90)) w.heap.size 90 #[D J x.p,G x.r,D J x.d]:=Blk.new _ _ _;obtain ⟨p,r,d⟩:=x;simp only at h1 h2 h3 h4 zP zD aa hk0 ⊢;have HP:=qH (fun w=>zBL p hok.p w);have HD:=qH (fun w=>zBL d hok.d w);by_cases hp:p=1
 ·have s0:=zAx [] [82] (by simp) (by simp);have s1:=zAx [] [76] (by simp) (by simp);have s2:=zAx [82] (Lib.itoa d) (by simp) (by omega);have s3:=zAx [76] (Lib.itoa d) (by simp) (by omega);rw [show bA [82]=⟨#[82]⟩ from rfl] at s0 s2;rw [show bA [76]=⟨#[76]⟩ from rfl] at s1 s3;rw [show bA []=⟨#[]⟩ from rfl] at s0 s1;rw [show bA ([]++[82])=⟨#[82]⟩ from rfl] at s0;rw [show bA ([]++[76])=⟨#[76]⟩ from rfl] at s1;have q0:(p != 1)=E:=by simpa using hp
  have hf:=qH (show zAl ⟨p,r,d⟩=(if r then 82 else 76) :: Lib.itoa d by unfold zAl;rw [if_pos hp];rfl);clear hp h1 h2 h3 h4 hok hx HP zP zD
  cases r with
  | true =>
   go_enter Tryz.func111,Tryz.ntmps111;go_wp2_with fail
   refine (HD.out _).mono ?_;rintro e w2 ⟨rfl,ab⟩;have ac:=zAa aa ab aa.size;go_wp2_with fail
   go_ret;exact ⟨zGD (by rw [hf.out];first | rfl | simp),ac⟩
  | false =>
   go_enter Tryz.func111,Tryz.ntmps111;go_wp2_with fail
   refine (HD.out _).mono ?_;rintro e w2 ⟨rfl,ab⟩;have ac:=zAa aa ab aa.size;go_wp2_with fail
   go_ret;exact ⟨zGD (by rw [hf.out];first | rfl | simp),ac⟩
 ·have s0:=zAx (Lib.itoa p) [82] (by omega) (by simp);have s1:=zAx (Lib.itoa p) [76] (by omega) (by simp);have s2:=zAx (Lib.itoa p++[82]) (Lib.itoa d) (by simp;omega) (by omega);have s3:=zAx (Lib.itoa p++[76]) (Lib.itoa d) (by simp;omega) (by omega);rw [show bA [82]=⟨#[82]⟩ from rfl] at s0;rw [show bA [76]=⟨#[76]⟩ from rfl] at s1;have q0:(p != 1)=Q:=by simpa using hp
  have hf:=qH (show zAl ⟨p,r,d⟩=Lib.itoa p++[if r then 82 else 76]++Lib.itoa d by unfold zAl;rw [if_neg hp];simp);clear hp h1 h2 h3 h4 hok hx zP zD
  cases r with
  | true =>
   go_enter Tryz.func111,Tryz.ntmps111;go_wp2_with fail
   generalize w.alloc (.cells #[D J p,G Q,D J d] 90)=X at aa hk0 ⊢;refine (HP.out _).mono ?_;rintro e w2 ⟨rfl,ab⟩;have hk2:=hk0.below ab hk0.lt;obtain ⟨-,c1,c2⟩:=cQ3 hk2;have ac:=zAa aa ab aa.size;go_wp2_with fail
   refine (HD.out _).mono ?_;rintro e w3 ⟨rfl,aj⟩;have ai:=zAa ac aj ac.size;go_wp2_with fail
   go_ret;exact ⟨zGD (by rw [hf.out];first | rfl | simp),ai⟩
  | false =>
   go_enter Tryz.func111,Tryz.ntmps111;go_wp2_with fail
   generalize w.alloc (.cells #[D J p,G E,D J d] 90)=X at aa hk0 ⊢;refine (HP.out _).mono ?_;rintro e w2 ⟨rfl,ab⟩;have hk2:=hk0.below ab hk0.lt;obtain ⟨-,c1,c2⟩:=cQ3 hk2;have ac:=zAa aa ab aa.size;go_wp2_with fail
   refine (HD.out _).mono ?_;rintro e w3 ⟨rfl,aj⟩;have ai:=zAa ac aj ac.size;go_wp2_with fail
   go_ret;exact ⟨zGD (by rw [hf.out];first | rfl | simp),ai⟩
structure Sg where
 f:Int
 l:Int
 far:Bool
 pc:Int
instance : DecidableEq Sg := fun a b =>
 if h:a.f=b.f∧a.l=b.l∧a.far=b.far∧a.pc=b.pc then .isTrue (by cases a;cases b;simp at h;simp [h])
 else .isFalse (fun e=>h (by subst e;simp))
structure Sp where
 s:Sg
 over:Bool
instance : DecidableEq Sp := fun a b =>
 if h:a.s=b.s∧a.over=b.over then .isTrue (by cases a;cases b;simp at h;simp [h])
 else .isFalse (fun e=>h (by subst e;simp))
structure Og where
 kind:Int
 f:Int
 fr:Sg
 path:List Sp
 over:Bool
instance : DecidableEq Og := fun a b =>
 if h:a.kind=b.kind∧a.f=b.f∧a.fr=b.fr∧a.path=b.path∧a.over=b.over then .isTrue (by cases a;cases b;simp at h;simp [h])
 else .isFalse (fun e=>h (by subst e;simp))
def sgB (x y:Sg):Bool:=x.f==y.f&&x.l==y.l&&x.far==y.far&&x.pc==y.pc
theorem zLx {x y:Sg}:sgB x y=Q↔x=y:=by
 cases x;cases y
 simp [sgB,and_assoc]
def s0:Sg:=⟨0,0,E,0⟩
def zAR (k:Nat) (s:Sg):Bool:=decide (1≤s.f)&&decide (s.f≤(k:Int))&&decide (0≤s.l)&&decide (s.l≤999999999)&&decide (0≤s.pc)&&decide (s.pc≤999999999)
theorem zAC {k:Nat} {s:Sg}:zAR k s=Q↔1≤s.f∧s.f≤(k:Int)∧0≤s.l∧s.l≤999999999∧0≤s.pc∧s.pc≤999999999:=by simp [zAR,and_assoc]
def zDN (k:Nat) (o:Og):Bool :=
 if o.kind=1∨o.kind=2∨o.kind=8 then !o.over&&sgB o.fr s0
 else if o.kind=4 then sgB o.fr s0
 else if o.kind=3 then !o.over&&zAR k o.fr
 else if o.kind=5 then zAR k o.fr
 else if o.kind=6∨o.kind=7 then zAR k o.fr&&sgB o.fr ⟨o.fr.f,0,E,0⟩
 else E
def zAq (k:Nat) (o:Og):Bool :=
 decide (1≤o.f)&&decide (o.f≤(k:Int))&&(decide (o.kind=3)||decide (o.path=[]))&&o.path.all (fun x=>zAR k x.s)&&zDN k o
structure SgOk (s:Sg):Prop where
 f:I64 s.f
 l:I64 s.l
 pc:I64 s.pc
abbrev sgV (s:Sg):Value:=.agg #[D J s.f,D J s.l,G s.far,D J s.pc]
def zIg (x:Sp):List Value:=[D J x.s.f,D J x.s.l,G x.s.far,D J x.s.pc,G x.over]
abbrev spV (x:Sp):Value:=.agg #[D J x.s.f,D J x.s.l,G x.s.far,D J x.s.pc,G x.over]
def dp:Sp:=⟨s0,E⟩
def pa (L:List Sp) (i:Nat):Sp:=(L[i]?).getD dp
theorem zEA {L:List Sp} {i:Nat} (h:i < L.length):L[i]? = Z (pa L i):=by unfold pa;rw [List.getElem?_eq_getElem h];rfl
structure SpAt (w:World) (g o:Nat) (x:Sp):Prop where
 f:w.cell? ⟨g,o,U⟩=Z (D J x.s.f)
 l:w.cell? ⟨g,o+1,U⟩=Z (D J x.s.l)
 far:w.cell? ⟨g,o+2,U⟩=Z (G x.s.far)
 pc:w.cell? ⟨g,o+3,U⟩=Z (D J x.s.pc)
 over:w.cell? ⟨g,o+4,U⟩=Z (G x.over)
def Stps (w:World) (A:Option Addr) (n:Nat) (L:List Sp):Prop:=Els 5 zIg w A n L∧∀x∈L,SgOk x.s
section
variable {w w':World} {A:Option Addr} {n:Nat} {L:List Sp}
theorem Stps.len (h:Stps w A n L):L.length=n:=h.1.1
theorem Stps.le (h:Stps w A n L):n≤17592186043904:=h.1.2.1
theorem Stps.nil (w:World) (A:Option Addr):Stps w A 0 []:=⟨Els.nil _ _,by simp⟩
theorem Stps.below (h:Stps w A n L) (hb:Below w.heap.size w w'):Stps w' A n L:=⟨h.1.below hb,h.2⟩
theorem Stps.at_ {k:Nat} (h:Stps w A n L) (hk:k < n):∃g o,A=Z ⟨g,o,U⟩∧g < w.heap.size∧SpAt w g (o+k*5) (pa L k)∧SgOk (pa L k).s:=by
 obtain ⟨g,o,e,hb,hc⟩:=h.1.2.2 (by omega);have hx:L[k]? = Z (pa L k):=zEA (by rw [h.len];exact hk);exact ⟨g,o,e,hb,⟨hc k _ hx 0 _ rfl,hc k _ hx 1 _ rfl,hc k _ hx 2 _ rfl,hc k _ hx 3 _ rfl,hc k _ hx 4 _ rfl⟩,h.2 _ (List.mem_of_getElem? hx)⟩
end
structure OgOk (o:Og):Prop where
 kind:I64 o.kind
 f:I64 o.f
 fr:SgOk o.fr
abbrev opV (o:Og) (A:Option Addr) (n c:Nat):Value:=.agg #[D J o.kind,D J o.f,D J o.fr.f,D J o.fr.l,G o.fr.far,D J o.fr.pc,H A n c,G o.over]
structure OpIn (w:World) (o:Og) (A:Option Addr) (n c:Nat):Prop where
 ok:OgOk o
 path:Stps w A n o.path
 cap:n≤c
theorem OpIn.below {w w':World} {o:Og} {A:Option Addr} {n c:Nat} (h:OpIn w o A n c) (hb:Below w.heap.size w w'):OpIn w' o A n c:=⟨h.ok,h.path.below hb,h.cap⟩
structure Oe where
 o:Og
 A:Option Addr
 n:Nat
 c:Nat
def zUb (e:Oe):List Value:=[D J e.o.kind,D J e.o.f,D J e.o.fr.f,D J e.o.fr.l,G e.o.fr.far,D J e.o.fr.pc,H e.A e.n e.c,G e.o.over]
def do_:Oe:=⟨⟨0,0,s0,[],E⟩,U,0,0⟩
def oa (L:List Oe) (i:Nat):Oe:=(L[i]?).getD do_
theorem zCZ {L:List Oe} {i:Nat} (h:i < L.length):L[i]? = Z (oa L i):=by unfold oa;rw [List.getElem?_eq_getElem h];rfl
structure OpAt (w:World) (g p:Nat) (e:Oe):Prop where
 kind:w.cell? ⟨g,p,U⟩=Z (D J e.o.kind)
 f:w.cell? ⟨g,p+1,U⟩=Z (D J e.o.f)
 ff:w.cell? ⟨g,p+2,U⟩=Z (D J e.o.fr.f)
 fl:w.cell? ⟨g,p+3,U⟩=Z (D J e.o.fr.l)
 far:w.cell? ⟨g,p+4,U⟩=Z (G e.o.fr.far)
 pc:w.cell? ⟨g,p+5,U⟩=Z (D J e.o.fr.pc)
 path:w.cell? ⟨g,p+6,U⟩=Z (H e.A e.n e.c)
 over:w.cell? ⟨g,p+7,U⟩=Z (G e.o.over)
def Oprs (w:World) (A:Option Addr) (n:Nat) (L:List Oe):Prop:=Els 8 zUb w A n L∧∀e∈L,OpIn w e.o e.A e.n e.c
section
variable {w w':World} {A:Option Addr} {n:Nat} {L:List Oe}
theorem Oprs.len (h:Oprs w A n L):L.length=n:=h.1.1
theorem Oprs.le (h:Oprs w A n L):n≤17592186043904:=h.1.2.1
theorem Oprs.below (h:Oprs w A n L) (hb:Below w.heap.size w w'):Oprs w' A n L:=⟨h.1.below hb,fun e he=>(h.2 e he).below hb⟩
theorem Oprs.at_ {k:Nat} (h:Oprs w A n L) (hk:k < n):∃g o,A=Z ⟨g,o,U⟩∧g < w.heap.size∧OpAt w g (o+k*8) (oa L k)∧OpIn w (oa L k).o (oa L k).A (oa L k).n (oa L k).c:=by
 obtain ⟨g,o,e,hb,hc⟩:=h.1.2.2 (by omega);have hx:L[k]? = Z (oa L k):=zCZ (by rw [h.len];exact hk);exact ⟨g,o,e,hb,⟨hc k _ hx 0 _ rfl,hc k _ hx 1 _ rfl,hc k _ hx 2 _ rfl,hc k _ hx 3 _ rfl,hc k _ hx 4 _ rfl,hc k _ hx 5 _ rfl,hc k _ hx 6 _ rfl,hc k _ hx 7 _ rfl⟩,h.2 _ (List.mem_of_getElem? hx)⟩
end
set_option maxRecDepth 100000 in
theorem eqSg (x y:Sg) (w:World):(Op.equalIn 10000 29 (sgV x) (sgV y)).run Tryz.prog w=.ok (sgB x y) w:=by
 have u3:=Tryz.underlying3;have a3:=Tryz.isAgg3;have z3:=Tryz.sizeOf3;have u4:=Tryz.underlying4;have a4:=Tryz.isAgg4;have z4:=Tryz.sizeOf4;have hS:Tryz.prog.underlying 29=Z (.struct (Tryz.prog.fieldsOf 29)):=by kernel_rfl
 have hp:Tryz.prog.stoodInHeld 29=E:=by kernel_rfl
 rw [show (10000:Nat)=9999+1 from rfl,run_equalIn_agg w 9999 29 _ _ hS hp];simp only [Program.fieldsOf,Tryz.underlying29];go_simp
 unfold sgB;by_cases h1:x.f=y.f<;>by_cases h2:x.l=y.l<;>by_cases h3:x.far=y.far<;>by_cases h4:x.pc=y.pc<;>simp [h1,h2,h3,h4]
theorem zEH (A:Option Addr) (n c:Nat) (re lo:Int) (s:Sg) (w:World) :
  Calls Tryz.prog 152 #[.agg #[H A n c,D J re,D J lo],sgV s] w fun e w'=>e=.returned (G (zAR n s))∧Below w.heap.size w w':=by
 have aa:Below w.heap.size w ((w.alloc (.cells #[H A n c,D J re,D J lo] 24)).alloc (.cells #[D J s.f,D J s.l,G s.far,D J s.pc] 29)):=((Below.refl _ _).alloc (Nat.le_refl _) _).alloc (by simp) _;have HB:=qH aa;have hr:=qH (show zAR n s=(decide (1≤s.f)&&decide (s.f≤(n:Int))&&decide (0≤s.l)&&decide (s.l≤999999999)&&decide (0≤s.pc)&&decide (s.pc≤999999999)) from rfl);clear aa;go_enter Tryz.func152,Tryz.ntmps152;go_wp2_with fail
 all_goals
  go_ret;refine ⟨zDL ?_,HB.out⟩;rw [hr.out];simp
  try omega
abbrev frV (A:Option Addr) (n c:Nat) (re lo:Int):Value:=.agg #[H A n c,D J re,D J lo]
theorem zMw {k:Nat} {s:Sg} {b:Bool} (h:zAR k s=b) (A:Option Addr) (c:Nat) (re lo:Int) (w:World) :
  Calls Tryz.prog 152 #[frV A k c re lo,sgV s] w fun e w'=>e=.returned (G b)∧Below w.heap.size w w':=by
 subst h;exact zEH A k c re lo s w
def zUc (k:Nat) (o:Og):Prop:=1≤o.f∧o.f≤(k:Int)∧(o.kind=3∨o.path=[])
theorem zOZ {k:Nat} {o:Og} (h:¬zUc k o):zAq k o=E:=by
 cases e:zAq k o with
 | false=>rfl
 | true =>
  unfold zAq at e;simp only [Bool.and_eq_true,Bool.or_eq_true,decide_eq_true_eq] at e;exact absurd ⟨e.1.1.1.1,e.1.1.1.2,e.1.1.2⟩ h
theorem zLy {k:Nat} {o:Og} {i:Nat} (hi:i < o.path.length) (h:zAR k (pa o.path i).s=E):zAq k o=E:=by
 cases e:zAq k o with
 | false=>rfl
 | true =>
  unfold zAq at e;simp only [Bool.and_eq_true,List.all_eq_true] at e;have:=e.1.2 _ (List.mem_of_getElem? (zEA hi));rw [h] at this;cases this
theorem zHk {k:Nat} {o:Og} (h:zUc k o) (hp:∀i,i < o.path.length→zAR k (pa o.path i).s=Q):zAq k o=zDN k o:=by
 have hall:o.path.all (fun x=>zAR k x.s)=Q:=by
  rw [List.all_eq_true];intro x hx;obtain ⟨i,hi⟩:=List.getElem?_of_mem hx;have hlt:=(List.getElem?_eq_some_iff.1 hi).1;have:=hp i hlt;have he:=zEA hlt;rw [hi] at he;injection he with he
  rw [←he] at this;exact this
 unfold zAq;have h3:(decide (o.kind=3)||decide (o.path=[]))=Q:=by simpa using h.2.2
 rw [hall,h3];simp [h.1,h.2.1]
set_option maxRecDepth 100000 in
set_option maxHeartbeats 6400000 in
theorem zLz (A:Option Addr) (n c:Nat) (re lo:Int) (o:Og) (B:Option Addr) (m d:Nat) (w:World) (hO:OpIn w o B m d) :
  Calls Tryz.prog 104 #[frV A n c re lo,opV o B m d] w fun e w'=>e=.returned (G (!zAq n o))∧Below w.heap.size w w':=by
 have hlen:=hO.path.len;have hle:=hO.path.le;obtain ⟨kind,f,fr,path,over⟩:=o;simp only at hlen hle ⊢;have hP:Stps w B m path:=hO.path;have aa:Below w.heap.size w ((w.alloc (.cells #[H A n c,D J re,D J lo] 24)).alloc (.cells #[D J kind,D J f,D J fr.f,D J fr.l,G fr.far,D J fr.pc,H B m d,G over] 32)):=((Below.refl _ _).alloc (Nat.le_refl _) _).alloc (by simp) _;by_cases hh:zUc n ⟨kind,f,fr,path,over⟩
 ·have HH:=qH hh;obtain ⟨h1,h2,h3⟩:=hh;simp only at h1 h2 h3;have i1:¬f < 1:=by omega
  have i2:¬(n:Int) < f:=by omega
  have hk0:=(Blk.new w 24 #[H A n c,D J re,D J lo]).alloc (.cells #[D J kind,D J f,D J fr.f,D J fr.l,G fr.far,D J fr.pc,H B m d,G over] 32);have ag:Blk ((w.alloc (.cells #[H A n c,D J re,D J lo] 24)).alloc (.cells #[D J kind,D J f,D J fr.f,D J fr.l,G fr.far,D J fr.pc,H B m d,G over] 32)) (w.heap.size+1) 32 #[D J kind,D J f,D J fr.f,D J fr.l,G fr.far,D J fr.pc,H B m d,G over]:=heap_alloc2_new w _ _;have aN:=qH hlen;have HM:Hid (kind=3∨m=0):=qH (h3.imp id fun e=>by rw [←hlen,e];rfl);clear h1 h2 h3 hlen hO;by_cases k3:kind=3
  ·subst k3;go_enter Tryz.func104,Tryz.ntmps104;go_wp2_with fail
   generalize (w.alloc (.cells #[H A n c,D J re,D J lo] 24)).alloc (.cells #[D J 3,D J f,D J fr.f,D J fr.l,G fr.far,D J fr.pc,H B m d,G over] 32)=ZR at aa hk0 ag ⊢;go_loopw [32] (fun v wr=>∃i:Nat,i≤m∧v=D J i∧Below ZR.heap.size ZR wr∧Hid (∀j:Nat,j < i→zAR n (pa path j).s=Q)) (fun v _=>m-(intOf v).toNat)
   case atStart=>exact ⟨0,Nat.zero_le _,rfl,Below.refl _ _,qH (fun j hj=>by omega)⟩
   case round =>
    obtain ⟨i,hi,rfl,hbr,HS⟩:=hrel;have hkr:=hk0.below hbr hk0.lt;have hor:=ag.below hbr ag.lt;have hbw:=zAa aa hbr aa.size;by_cases hlt:i < m
    ·obtain ⟨g,p,rfl,hg,⟨x0,x1,x2,x3,x4⟩,_⟩:=(hP.below hbw).at_ hlt;have j0:(0:Int)≤(i:Int):=by omega
     have j1:(i:Int) < (m:Int):=by omega
     obtain ⟨b,hb⟩:∃b,zAR n (pa path i).s=b:=⟨_,rfl⟩
     have HB:=qH hb;have jU:=qH hb;clear hb;generalize hx:pa path i=x at x0 x1 x2 x3 x4 HB;obtain ⟨xs,xo⟩:=x;clear hx;have fq:=hkr.alloc (.cells #[D J xs.f,D J xs.l,G xs.far,D J xs.pc,G xo] 86);have de:Blk (wr.alloc (.cells #[D J xs.f,D J xs.l,G xs.far,D J xs.pc,G xo] 86)) wr.heap.size 86 #[D J xs.f,D J xs.l,G xs.far,D J xs.pc,G xo]:=Blk.new _ _ _;have aj:Below ZR.heap.size ZR (wr.alloc (.cells #[D J xs.f,D J xs.l,G xs.far,D J xs.pc,G xo] 86)):=hbr.alloc hbr.size _;have y0:=(fq.cell 0).trans rfl;have y1:=(fq.cell 1).trans rfl;have y2:=(fq.cell 2).trans rfl;have z0:=(de.cell 0).trans rfl;have z1:=(de.cell 1).trans rfl;have z2:=(de.cell 2).trans rfl;have z3:=(de.cell 3).trans rfl;have HN:=qH (zMw HB.out A c re lo (wr.alloc (.cells #[D J xs.f,D J xs.l,G xs.far,D J xs.pc,G xo] 86)))
     cases b with
     | true =>
      have et:=qH (show ∀j:Nat,j < i+1→zAR n (pa path j).s=Q from fun j hj=>by
       rcases Nat.decEq j i with e | e
       ·exact HS.out j (by omega)
       ·subst e;exact jU.out)
      clear HS HB jU;go_wp2_with fail
      refine HN.out.mono ?_;rintro e w5 ⟨rfl,ai⟩;have ao:=zAa aj ai aj.size;clear y0 y1 y2 z0 z1 z2 z3;go_wp2_with fail
      go_roundw
      case rel=>exact ⟨i+1,by omega,by go_num,ao,et⟩
      case measure=>simp [intOf];omega
     | false =>
      have hr:=qH (zLy (k:=n) (o:=⟨3,f,fr,path,over⟩) (i:=i) (by rw [show (⟨3,f,fr,path,over⟩:Og).path=path from rfl,aN.out];exact hlt) jU.out);clear HS HB jU;go_wp2_with fail
      refine HN.out.mono ?_;rintro e w5 ⟨rfl,ai⟩;have ao:=zAa aj ai aj.size;clear y0 y1 y2 z0 z1 z2 z3;go_wp2_with fail
      go_ret;exact ⟨zDL (by rw [hr.out];rfl),zAa aa ao aa.size⟩
    ·have j1:¬(i:Int) < (m:Int):=by omega
     have hrest:=zHk HH.out (fun j hj=>HS.out j (by rw [show (⟨3,f,fr,path,over⟩:Og).path=path from rfl,aN.out] at hj;omega));have hre:zDN n ⟨3,f,fr,path,over⟩=(!over&&zAR n fr):=by simp [zDN]
     rw [hre] at hrest;have HR:=qH hrest;have HN:=qH (zEH A n c re lo fr wr);obtain ⟨a0,a1,a2⟩:=cQ3 hkr;obtain ⟨e0,-,e2,e3,e4,e5,-,e7⟩:=cQ8 hor;clear HS hrest hre
     cases over with
     | true =>
      go_wp2_with fail
      go_ret;exact ⟨zDL (by rw [HR.out];rfl),hbw⟩
     | false =>
      go_wp2_with fail
      refine HN.out.mono ?_;rintro e w5 ⟨rfl,ai⟩;have ao:=zAa hbw ai hbw.size;go_wp2_with fail
      go_ret;exact ⟨zDL (by rw [HR.out];simp),ao⟩
  ·have k4:(kind != 3)=Q:=by simpa using k3
   have k5:¬0 < (m:Int):=by rcases HM.out with h | h;exact absurd h k3;omega
   have K3:=qH k3;clear k3;go_enter Tryz.func104,Tryz.ntmps104;go_wp2_with fail
   generalize (w.alloc (.cells #[H A n c,D J re,D J lo] 24)).alloc (.cells #[D J kind,D J f,D J fr.f,D J fr.l,G fr.far,D J fr.pc,H B m d,G over] 32)=ZR at aa hk0 ag ⊢;go_loopw [32] (fun v wr=>∃i:Nat,i≤m∧v=D J i∧Below ZR.heap.size ZR wr∧Hid (∀j:Nat,j < i→zAR n (pa path j).s=Q)) (fun v _=>m-(intOf v).toNat)
   case atStart=>exact ⟨0,Nat.zero_le _,rfl,Below.refl _ _,qH (fun j hj=>by omega)⟩
   case round =>
    obtain ⟨i,hi,rfl,hbr,HS⟩:=hrel;have hkr:=hk0.below hbr hk0.lt;have hor:=ag.below hbr ag.lt;have hbw:=zAa aa hbr aa.size;by_cases hlt:i < m
    ·exfalso;omega
    ·have j1:¬(i:Int) < (m:Int):=by omega
     have hrest:=zHk HH.out (fun j hj=>HS.out j (by rw [show (⟨kind,f,fr,path,over⟩:Og).path=path from rfl,aN.out] at hj;omega));have HR:=qH hrest;have HN:=qH (zEH A n c re lo fr wr);obtain ⟨a0,a1,a2⟩:=cQ3 hkr;obtain ⟨e0,-,e2,e3,e4,e5,-,e7⟩:=cQ8 hor;have heq:=fun w=>eqSg fr s0 w
     have heq2:=fun w=>eqSg fr ⟨fr.f,0,E,0⟩ w
     simp only [s0] at heq;clear HS hrest;by_cases q1:kind=1∨kind=2∨kind=8
     ·rcases q1 with rfl | rfl | rfl
      all_goals
       cases over with
       | true =>
        go_wp2_with fail
        go_ret;exact ⟨zDL (by rw [HR.out];simp [zDN]),hbw⟩
       | false =>
        go_wp2_with fail
        go_ret;exact ⟨zDL (by rw [HR.out];simp [zDN,s0]),hbw⟩
     ·by_cases q2:kind=4
      ·subst q2;clear q1;go_wp2_with fail
       go_ret;exact ⟨zDL (by rw [HR.out];simp [zDN,s0]),hbw⟩
      ·by_cases q3:kind=5
       ·subst q3;clear q1 q2;go_wp2_with fail
        refine HN.out.mono ?_;rintro e w5 ⟨rfl,ai⟩;have ao:=zAa hbw ai hbw.size;go_wp2_with fail
        go_ret;exact ⟨zDL (by rw [HR.out];simp [zDN]),ao⟩
       ·by_cases q4:kind=6∨kind=7
        ·clear q1 q2 q3;have hkb:=fun (w5:World) (ai:Below wr.heap.size wr w5)=>hor.below ai hor.lt
         obtain ⟨b,hb⟩:∃b,zAR n fr=b:=⟨_,rfl⟩
         have Gq:=qH (zMw hb A c re lo wr);have HB:=qH hb;have HKB:=qH hkb;clear HN hb hkb;rcases q4 with rfl | rfl
         all_goals
          cases b with
          | false =>
           go_wp2_with fail
           refine Gq.out.mono ?_;rintro e w5 ⟨rfl,ai⟩;have ao:=zAa hbw ai hbw.size;clear e0 e2 e3 e4 e5 e7;go_wp2_with fail
           go_ret;exact ⟨zDL (by rw [HR.out];simp [zDN,HB.out]),ao⟩
          | true =>
           go_wp2_with fail
           refine Gq.out.mono ?_;rintro e w5 ⟨rfl,ai⟩;have ao:=zAa hbw ai hbw.size;have wh:=HKB.out w5 ai;clear e0 e2 e3 e4 e5 e7;obtain ⟨-,-,g2,g3,g4,g5⟩:=cQ6 wh;go_wp2_with fail
           go_ret;exact ⟨zDL (by rw [HR.out];simp [zDN,HB.out]),ao⟩
        ·have t1:(kind==1)=E:=by simp;omega
         have t2:(kind==2)=E:=by simp;omega
         have t3:(kind==8)=E:=by simp;omega
         have t4:(kind==4)=E:=by simp;omega
         have t5:(kind==3)=E:=by simpa using k4
         have t6:(kind==5)=E:=by simp;omega
         have t7:(kind==6)=E:=by simp;omega
         have t8:(kind==7)=E:=by simp;omega
         have hz:zDN n ⟨kind,f,fr,path,over⟩=E:=by
          unfold zDN;simp only;rw [if_neg q1,if_neg q2,if_neg K3.out,if_neg q3,if_neg q4]
         have HZ:=qH hz;clear q1 q2 q3 q4 hz;go_wp2_with fail
         go_ret;exact ⟨zDL (by rw [HR.out,HZ.out];rfl),hbw⟩
 ·have hr:=qH (zOZ hh);have uK:f < 1∨(¬f < 1∧(n:Int) < f)∨(¬f < 1∧¬(n:Int) < f∧(kind != 3)=Q∧0 < (m:Int)):=by
   by_cases e1:f < 1
   ·exact .inl e1
   ·by_cases e2:(n:Int) < f
    ·exact .inr (.inl ⟨e1,e2⟩)
    ·have e3:¬(kind=3∨path=[]):=fun e=>hh ⟨by simp only;omega,by simp only;omega,e⟩
     have e4:kind≠3:=fun e=>e3 (.inl e)
     have e5:m≠0:=fun e=>e3 (.inr (List.length_eq_zero_iff.1 (by rw [hlen,e])))
     exact .inr (.inr ⟨e1,e2,by simpa using e4,by omega⟩)
  clear hh;rcases uK with i1 | ⟨i1,i2⟩ | ⟨i1,i2,i3,i4⟩
  all_goals
   go_enter Tryz.func104,Tryz.ntmps104;go_wp2_with fail
   go_ret;exact ⟨zDL (by rw [hr.out];rfl),aa⟩
end Go.Proofs.YtlmdfmnbcndhoaaGreatDoor
