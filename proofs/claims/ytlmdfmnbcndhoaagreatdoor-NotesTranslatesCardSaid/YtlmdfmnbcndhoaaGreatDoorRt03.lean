/-
  Lemmas. Conditions: each one's own.
-/
import Derived.Test.YtlmdfmnbcndhoaaGreatDoorRt02
open Go.RowKit
set_option maxHeartbeats 6400000
set_option maxRecDepth 100000
open Go.Value renaming bool->G,int->D,slice->H,string->W
open Go.IntKind renaming i64->J
open Go renaming World->ZY
open Go.Proofs.Tryz renaming prog->ZX
open Bool renaming false->E,true->Q
open Go.RowKit renaming Below->ZZ
open Go.RowKit.Below renaming refl->M
open Nat renaming le_refl->O
open Option renaming none->U,some->Z
namespace Go.Proofs.YtlmdfmnbcndhoaaGreatDoor
theorem zMD (x:Int) (h0:0<=x) (h1:x < 100) (w:ZY):Calls ZX 124 #[D J x] w fun e w'=>e=.returned (W (bA (Lib.itoa x)))/\w'=w:=by
 obtain ⟨k,rfl⟩:=Int.eq_ofNat_of_zero_le h0;have:=Tryz.strconv_Itoa_small k (by omega) w;have hi:Lib.itoa (k:Int)=Lib.decDigits k:=by unfold Lib.itoa;rw [qN (by omega)];simp
 rw [hi];exact this
theorem zAP {x:Int} (h:I64 x):(Lib.itoa x).length<=21:=Lib.itoa_length_le x h.1 h.2
theorem zKm {x:Fg} (h:FgOk x):(zAj x).length<=43:=by
 have h1:=zAP h.p;have h2:=zAP h.d;unfold zAj;by_cases hp:x.p=1
 ·rw [qP hp];simp;omega
 ·rw [qN hp];simp;omega
theorem zGI {x:Fg} (h:zAn x=Q):FgOk x:=by
 have:=zAv.1 h;exact ⟨⟨by omega,by omega⟩,⟨by omega,by omega⟩⟩
theorem zKn (x:Fg) (hx:zAn x=Q) (w:ZY) :
  Calls ZX 154 #[fgV x] w fun e w'=>e=.returned (W (bA (zAj x)))/\ZZ w.heap.size w w':=by
 have hok:=zGI hx;obtain ⟨h1,h2,h3,h4⟩:=zAv.1 hx;have zP:=zAP hok.p;have zD:=zAP hok.d;have ah:ZZ w.heap.size w (w.alloc (.cells #[D J x.p,G x.r,D J x.d] 90)):=(M _ _).alloc (O _) _;obtain ⟨p,r,d⟩:=x;simp only at h1 h2 h3 h4 zP zD ah ⊢;have HP:=qH (zMD p (by omega) (by omega) (w.alloc (.cells #[D J p,G r,D J d] 90)));have HD:=qH (zMD d (by omega) (by omega) (w.alloc (.cells #[D J p,G r,D J d] 90)));by_cases hp:p=1
 ·have s0:=zAB [] [82] (by simp) (by simp);have s1:=zAB [] [76] (by simp) (by simp);have s2:=zAB [82] (Lib.itoa d) (by simp) (by omega);have s3:=zAB [76] (Lib.itoa d) (by simp) (by omega);rw [show bA [82]=⟨#[82]⟩ from rfl] at s0 s2;rw [show bA [76]=⟨#[76]⟩ from rfl] at s1 s3;rw [show bA []=⟨#[]⟩ from rfl] at s0 s1;rw [show bA ([]++[82])=⟨#[82]⟩ from rfl] at s0;rw [show bA ([]++[76])=⟨#[76]⟩ from rfl] at s1;have q0:(p != 1)=E:=by simpa using hp
  have hf:=qH (show zAj ⟨p,r,d⟩=(if r then 82 else 76) :: Lib.itoa d by unfold zAj;rw [qP hp];rfl);clear hp h1 h2 h3 h4 hok hx HP zP zD
  cases r with
  | true =>
   go_enter Tryz.func154,Tryz.ntmps154;go_wp2_with fail
   refine HD.out.mono ?_;rintro e w2 ⟨rfl,rfl⟩;go_wp2_with fail
   go_ret;exact ⟨zCp (by rw [hf.out];first | rfl | simp),ah⟩
  | false =>
   go_enter Tryz.func154,Tryz.ntmps154;go_wp2_with fail
   refine HD.out.mono ?_;rintro e w2 ⟨rfl,rfl⟩;go_wp2_with fail
   go_ret;exact ⟨zCp (by rw [hf.out];first | rfl | simp),ah⟩
 ·have s0:=zAB (Lib.itoa p) [82] (by omega) (by simp);have s1:=zAB (Lib.itoa p) [76] (by omega) (by simp);have s2:=zAB (Lib.itoa p++[82]) (Lib.itoa d) (by simp;omega) (by omega);have s3:=zAB (Lib.itoa p++[76]) (Lib.itoa d) (by simp;omega) (by omega);rw [show bA [82]=⟨#[82]⟩ from rfl] at s0;rw [show bA [76]=⟨#[76]⟩ from rfl] at s1;have q0:(p != 1)=Q:=by simpa using hp
  have hf:=qH (show zAj ⟨p,r,d⟩=Lib.itoa p++[if r then 82 else 76]++Lib.itoa d by unfold zAj;rw [qN hp];simp);clear hp h1 h2 h3 h4 hok hx zP zD
  cases r with
  | true =>
   go_enter Tryz.func154,Tryz.ntmps154;go_wp2_with fail
   refine HP.out.mono ?_;rintro e w2 ⟨rfl,rfl⟩;go_wp2_with fail
   refine HD.out.mono ?_;rintro e w2 ⟨rfl,rfl⟩;go_wp2_with fail
   go_ret;exact ⟨zCp (by rw [hf.out];first | rfl | simp),ah⟩
  | false =>
   go_enter Tryz.func154,Tryz.ntmps154;go_wp2_with fail
   refine HP.out.mono ?_;rintro e w2 ⟨rfl,rfl⟩;go_wp2_with fail
   refine HD.out.mono ?_;rintro e w2 ⟨rfl,rfl⟩;go_wp2_with fail
   go_ret;exact ⟨zCp (by rw [hf.out];first | rfl | simp),ah⟩
theorem zKo (x:Fg) (hx:zAn x=Q) (w:ZY) :
  Calls ZX 111 #[fgV x] w fun e w'=>e=.returned (W (bA (zAj x)))/\ZZ w.heap.size w w':=by
 have hok:=zGI hx;obtain ⟨h1,h2,h3,h4⟩:=zAv.1 hx;have zP:=zAP hok.p;have zD:=zAP hok.d;have ah:ZZ w.heap.size w (w.alloc (.cells #[D J x.p,G x.r,D J x.d] 90)):=(M _ _).alloc (O _) _;have hk0:Blk (w.alloc (.cells #[D J x.p,G x.r,D J x.d] 90)) w.heap.size 90 #[D J x.p,G x.r,D J x.d]:=Blk.new _ _ _;obtain ⟨p,r,d⟩:=x;simp only at h1 h2 h3 h4 zP zD ah hk0 ⊢;have HP:=qH (fun w=>zBm p hok.p w);have HD:=qH (fun w=>zBm d hok.d w);by_cases hp:p=1
 ·have s0:=zAB [] [82] (by simp) (by simp);have s1:=zAB [] [76] (by simp) (by simp);have s2:=zAB [82] (Lib.itoa d) (by simp) (by omega);have s3:=zAB [76] (Lib.itoa d) (by simp) (by omega);rw [show bA [82]=⟨#[82]⟩ from rfl] at s0 s2;rw [show bA [76]=⟨#[76]⟩ from rfl] at s1 s3;rw [show bA []=⟨#[]⟩ from rfl] at s0 s1;rw [show bA ([]++[82])=⟨#[82]⟩ from rfl] at s0;rw [show bA ([]++[76])=⟨#[76]⟩ from rfl] at s1;have q0:(p != 1)=E:=by simpa using hp
  have hf:=qH (show zAj ⟨p,r,d⟩=(if r then 82 else 76) :: Lib.itoa d by unfold zAj;rw [qP hp];rfl);clear hp h1 h2 h3 h4 hok hx HP zP zD
  cases r with
  | true =>
   go_enter Tryz.func111,Tryz.ntmps111;go_wp2_with fail
   refine (HD.out _).mono ?_;rintro e w2 ⟨rfl,ai⟩;have al:=zAa ah ai ah.size;go_wp2_with fail
   go_ret;exact ⟨zCp (by rw [hf.out];first | rfl | simp),al⟩
  | false =>
   go_enter Tryz.func111,Tryz.ntmps111;go_wp2_with fail
   refine (HD.out _).mono ?_;rintro e w2 ⟨rfl,ai⟩;have al:=zAa ah ai ah.size;go_wp2_with fail
   go_ret;exact ⟨zCp (by rw [hf.out];first | rfl | simp),al⟩
 ·have s0:=zAB (Lib.itoa p) [82] (by omega) (by simp);have s1:=zAB (Lib.itoa p) [76] (by omega) (by simp);have s2:=zAB (Lib.itoa p++[82]) (Lib.itoa d) (by simp;omega) (by omega);have s3:=zAB (Lib.itoa p++[76]) (Lib.itoa d) (by simp;omega) (by omega);rw [show bA [82]=⟨#[82]⟩ from rfl] at s0;rw [show bA [76]=⟨#[76]⟩ from rfl] at s1;have q0:(p != 1)=Q:=by simpa using hp
  have hf:=qH (show zAj ⟨p,r,d⟩=Lib.itoa p++[if r then 82 else 76]++Lib.itoa d by unfold zAj;rw [qN hp];simp);clear hp h1 h2 h3 h4 hok hx zP zD
  cases r with
  | true =>
   go_enter Tryz.func111,Tryz.ntmps111;go_wp2_with fail
   generalize w.alloc (.cells #[D J p,G Q,D J d] 90)=X at ah hk0 ⊢;refine (HP.out _).mono ?_;rintro e w2 ⟨rfl,ai⟩;have hk2:=hk0.below ai hk0.lt;obtain ⟨-,c1,c2⟩:=cQ3 hk2;have al:=zAa ah ai ah.size;go_wp2_with fail
   refine (HD.out _).mono ?_;rintro e w3 ⟨rfl,bh⟩;have az:=zAa al bh al.size;go_wp2_with fail
   go_ret;exact ⟨zCp (by rw [hf.out];first | rfl | simp),az⟩
  | false =>
   go_enter Tryz.func111,Tryz.ntmps111;go_wp2_with fail
   generalize w.alloc (.cells #[D J p,G E,D J d] 90)=X at ah hk0 ⊢;refine (HP.out _).mono ?_;rintro e w2 ⟨rfl,ai⟩;have hk2:=hk0.below ai hk0.lt;obtain ⟨-,c1,c2⟩:=cQ3 hk2;have al:=zAa ah ai ah.size;go_wp2_with fail
   refine (HD.out _).mono ?_;rintro e w3 ⟨rfl,bh⟩;have az:=zAa al bh al.size;go_wp2_with fail
   go_ret;exact ⟨zCp (by rw [hf.out];first | rfl | simp),az⟩
structure Sg where
 f:Int
 l:Int
 far:Bool
 pc:Int
instance : DecidableEq Sg := fun a b =>
 if h:a.f=b.f/\a.l=b.l/\a.far=b.far/\a.pc=b.pc then .isTrue (by cases a;cases b;simp at h;simp [h])
 else .isFalse (fun e=>h (by subst e;simp))
structure Sp where
 s:Sg
 over:Bool
instance : DecidableEq Sp := fun a b =>
 if h:a.s=b.s/\a.over=b.over then .isTrue (by cases a;cases b;simp at h;simp [h])
 else .isFalse (fun e=>h (by subst e;simp))
structure Og where
 kind:Int
 f:Int
 fr:Sg
 path:List Sp
 over:Bool
instance : DecidableEq Og := fun a b =>
 if h:a.kind=b.kind/\a.f=b.f/\a.fr=b.fr/\a.path=b.path/\a.over=b.over then .isTrue (by cases a;cases b;simp at h;simp [h])
 else .isFalse (fun e=>h (by subst e;simp))
def sgB (x y:Sg):Bool:=x.f==y.f&&x.l==y.l&&x.far==y.far&&x.pc==y.pc
theorem zED {x y:Sg}:sgB x y=Q↔x=y:=by
 cases x;cases y
 simp [sgB,and_assoc]
def s0:Sg:=⟨0,0,E,0⟩
def zAo (k:Nat) (s:Sg):Bool:=decide (1<=s.f)&&decide (s.f<=(k:Int))&&decide (0<=s.l)&&decide (s.l<=999999999)&&decide (0<=s.pc)&&decide (s.pc<=999999999)
theorem zAh {k:Nat} {s:Sg}:zAo k s=Q↔1<=s.f/\s.f<=(k:Int)/\0<=s.l/\s.l<=999999999/\0<=s.pc/\s.pc<=999999999:=by simp [zAo,and_assoc]
def zBn (k:Nat) (o:Og):Bool :=
 if o.kind=1∨o.kind=2∨o.kind=8 then !o.over&&sgB o.fr s0
 else if o.kind=4 then sgB o.fr s0
 else if o.kind=3 then !o.over&&zAo k o.fr
 else if o.kind=5 then zAo k o.fr
 else if o.kind=6∨o.kind=7 then zAo k o.fr&&sgB o.fr ⟨o.fr.f,0,E,0⟩
 else E
def zAf (k:Nat) (o:Og):Bool :=
 decide (1<=o.f)&&decide (o.f<=(k:Int))&&(decide (o.kind=3)||decide (o.path=[]))&&o.path.all (fun x=>zAo k x.s)&&zBn k o
structure SgOk (s:Sg):Prop where
 f:I64 s.f
 l:I64 s.l
 pc:I64 s.pc
abbrev sgV (s:Sg):Value:=.agg #[D J s.f,D J s.l,G s.far,D J s.pc]
def zCl (x:Sp):List Value:=[D J x.s.f,D J x.s.l,G x.s.far,D J x.s.pc,G x.over]
abbrev spV (x:Sp):Value:=.agg #[D J x.s.f,D J x.s.l,G x.s.far,D J x.s.pc,G x.over]
def dp:Sp:=⟨s0,E⟩
def pa (L:List Sp) (i:Nat):Sp:=(L[i]?).getD dp
theorem zCm {L:List Sp} {i:Nat} (h:i < L.length):L[i]? = Z (pa L i):=by unfold pa;rw [List.getElem?_eq_getElem h];rfl
structure SpAt (w:ZY) (g o:Nat) (x:Sp):Prop where
 f:w.cell? ⟨g,o,U⟩=Z (D J x.s.f)
 l:w.cell? ⟨g,o+1,U⟩=Z (D J x.s.l)
 far:w.cell? ⟨g,o+2,U⟩=Z (G x.s.far)
 pc:w.cell? ⟨g,o+3,U⟩=Z (D J x.s.pc)
 over:w.cell? ⟨g,o+4,U⟩=Z (G x.over)
def Stps (w:ZY) (A:Option Addr) (n:Nat) (L:List Sp):Prop:=Els 5 zCl w A n L/\∀x∈L,SgOk x.s
section
variable {w w':ZY} {A:Option Addr} {n:Nat} {L:List Sp}
theorem Stps.len (h:Stps w A n L):L.length=n:=h.1.1
theorem Stps.le (h:Stps w A n L):n<=17592186043904:=h.1.2.1
theorem Stps.nil (w:ZY) (A:Option Addr):Stps w A 0 []:=⟨Els.nil _ _,by simp⟩
theorem Stps.below (h:Stps w A n L) (hb:ZZ w.heap.size w w'):Stps w' A n L:=⟨h.1.below hb,h.2⟩
theorem Stps.at_ {k:Nat} (h:Stps w A n L) (hk:k < n):∃g o,A=Z ⟨g,o,U⟩/\g < w.heap.size/\SpAt w g (o+k*5) (pa L k)/\SgOk (pa L k).s:=by
 obtain ⟨g,o,e,hb,hc⟩:=h.1.2.2 (by omega);have hx:L[k]? = Z (pa L k):=zCm (by rw [h.len];exact hk);exact ⟨g,o,e,hb,⟨hc k _ hx 0 _ rfl,hc k _ hx 1 _ rfl,hc k _ hx 2 _ rfl,hc k _ hx 3 _ rfl,hc k _ hx 4 _ rfl⟩,h.2 _ (List.mem_of_getElem? hx)⟩
end
structure OgOk (o:Og):Prop where
 kind:I64 o.kind
 f:I64 o.f
 fr:SgOk o.fr
abbrev opV (o:Og) (A:Option Addr) (n c:Nat):Value:=.agg #[D J o.kind,D J o.f,D J o.fr.f,D J o.fr.l,G o.fr.far,D J o.fr.pc,H A n c,G o.over]
structure OpIn (w:ZY) (o:Og) (A:Option Addr) (n c:Nat):Prop where
 ok:OgOk o
 path:Stps w A n o.path
 cap:n<=c
theorem OpIn.below {w w':ZY} {o:Og} {A:Option Addr} {n c:Nat} (h:OpIn w o A n c) (hb:ZZ w.heap.size w w'):OpIn w' o A n c:=⟨h.ok,h.path.below hb,h.cap⟩
structure Oe where
 o:Og
 A:Option Addr
 n:Nat
 c:Nat
def zUv (e:Oe):List Value:=[D J e.o.kind,D J e.o.f,D J e.o.fr.f,D J e.o.fr.l,G e.o.fr.far,D J e.o.fr.pc,H e.A e.n e.c,G e.o.over]
def do_:Oe:=⟨⟨0,0,s0,[],E⟩,U,0,0⟩
def oa (L:List Oe) (i:Nat):Oe:=(L[i]?).getD do_
theorem zBC {L:List Oe} {i:Nat} (h:i < L.length):L[i]? = Z (oa L i):=by unfold oa;rw [List.getElem?_eq_getElem h];rfl
structure OpAt (w:ZY) (g p:Nat) (e:Oe):Prop where
 kind:w.cell? ⟨g,p,U⟩=Z (D J e.o.kind)
 f:w.cell? ⟨g,p+1,U⟩=Z (D J e.o.f)
 ff:w.cell? ⟨g,p+2,U⟩=Z (D J e.o.fr.f)
 fl:w.cell? ⟨g,p+3,U⟩=Z (D J e.o.fr.l)
 far:w.cell? ⟨g,p+4,U⟩=Z (G e.o.fr.far)
 pc:w.cell? ⟨g,p+5,U⟩=Z (D J e.o.fr.pc)
 path:w.cell? ⟨g,p+6,U⟩=Z (H e.A e.n e.c)
 over:w.cell? ⟨g,p+7,U⟩=Z (G e.o.over)
def Oprs (w:ZY) (A:Option Addr) (n:Nat) (L:List Oe):Prop:=Els 8 zUv w A n L/\∀e∈L,OpIn w e.o e.A e.n e.c
section
variable {w w':ZY} {A:Option Addr} {n:Nat} {L:List Oe}
theorem Oprs.len (h:Oprs w A n L):L.length=n:=h.1.1
theorem Oprs.le (h:Oprs w A n L):n<=17592186043904:=h.1.2.1
theorem Oprs.nil (w:ZY) (A:Option Addr):Oprs w A 0 []:=⟨Els.nil _ _,by simp⟩
theorem Oprs.below (h:Oprs w A n L) (hb:ZZ w.heap.size w w'):Oprs w' A n L:=⟨h.1.below hb,fun e he=>(h.2 e he).below hb⟩
theorem Oprs.at_ {k:Nat} (h:Oprs w A n L) (hk:k < n):∃g o,A=Z ⟨g,o,U⟩/\g < w.heap.size/\OpAt w g (o+k*8) (oa L k)/\OpIn w (oa L k).o (oa L k).A (oa L k).n (oa L k).c:=by
 obtain ⟨g,o,e,hb,hc⟩:=h.1.2.2 (by omega);have hx:L[k]? = Z (oa L k):=zBC (by rw [h.len];exact hk);exact ⟨g,o,e,hb,⟨hc k _ hx 0 _ rfl,hc k _ hx 1 _ rfl,hc k _ hx 2 _ rfl,hc k _ hx 3 _ rfl,hc k _ hx 4 _ rfl,hc k _ hx 5 _ rfl,hc k _ hx 6 _ rfl,hc k _ hx 7 _ rfl⟩,h.2 _ (List.mem_of_getElem? hx)⟩
end
theorem zXQ (x y:Sg) (w:ZY):(Op.equalIn 10000 29 (sgV x) (sgV y)).run ZX w=.ok (sgB x y) w:=by
 have u3:=Tryz.underlying3;have a3:=Tryz.isAgg3;have z3:=Tryz.sizeOf3;have u4:=Tryz.underlying4;have a4:=Tryz.isAgg4;have z4:=Tryz.sizeOf4;have hS:Tryz.prog.underlying 29=Z (.struct (Tryz.prog.fieldsOf 29)):=by kernel_rfl
 have hp:Tryz.prog.stoodInHeld 29=E:=by kernel_rfl
 rw [show (10000:Nat)=9999+1 from rfl,run_equalIn_agg w 9999 29 _ _ hS hp];simp only [Program.fieldsOf,Tryz.underlying29];go_simp
 unfold sgB;by_cases h1:x.f=y.f<;>by_cases h2:x.l=y.l<;>by_cases h3:x.far=y.far<;>by_cases h4:x.pc=y.pc<;>simp [h1,h2,h3,h4]
theorem zEE (A:Option Addr) (n c:Nat) (re lo:Int) (s:Sg) (w:ZY) :
  Calls ZX 152 #[.agg #[H A n c,D J re,D J lo],sgV s] w fun e w'=>e=.returned (G (zAo n s))/\ZZ w.heap.size w w':=by
 have ah:ZZ w.heap.size w ((w.alloc (.cells #[H A n c,D J re,D J lo] 24)).alloc (.cells #[D J s.f,D J s.l,G s.far,D J s.pc] 29)):=((M _ _).alloc (O _) _).alloc (by simp) _;have HB:=qH ah;have hr:=qH (show zAo n s=(decide (1<=s.f)&&decide (s.f<=(n:Int))&&decide (0<=s.l)&&decide (s.l<=999999999)&&decide (0<=s.pc)&&decide (s.pc<=999999999)) from rfl);clear ah;go_enter Tryz.func152,Tryz.ntmps152;go_wp2_with fail
 all_goals
  go_ret;refine ⟨zBJ ?_,HB.out⟩;rw [hr.out];simp
  try omega
abbrev frV (A:Option Addr) (n c:Nat) (re lo:Int):Value:=.agg #[H A n c,D J re,D J lo]
theorem zME {k:Nat} {s:Sg} {b:Bool} (h:zAo k s=b) (A:Option Addr) (c:Nat) (re lo:Int) (w:ZY) :
  Calls ZX 152 #[frV A k c re lo,sgV s] w fun e w'=>e=.returned (G b)/\ZZ w.heap.size w w':=by
 subst h;exact zEE A k c re lo s w
def zUw (k:Nat) (o:Og):Prop:=1<=o.f/\o.f<=(k:Int)/\(o.kind=3∨o.path=[])
theorem zHe {k:Nat} {o:Og} (h:¬zUw k o):zAf k o=E:=by
 cases e:zAf k o with
 | false=>rfl
 | true =>
  unfold zAf at e;simp only [Bool.and_eq_true,Bool.or_eq_true,decide_eq_true_eq] at e;exact absurd ⟨e.1.1.1.1,e.1.1.1.2,e.1.1.2⟩ h
theorem zHf {k:Nat} {o:Og} {i:Nat} (hi:i < o.path.length) (h:zAo k (pa o.path i).s=E):zAf k o=E:=by
 cases e:zAf k o with
 | false=>rfl
 | true =>
  unfold zAf at e;simp only [Bool.and_eq_true,List.all_eq_true] at e;have:=e.1.2 _ (List.mem_of_getElem? (zCm hi));rw [h] at this;cases this
theorem zEF {k:Nat} {o:Og} (h:zUw k o) (hp:∀i,i < o.path.length->zAo k (pa o.path i).s=Q):zAf k o=zBn k o:=by
 have hall:o.path.all (fun x=>zAo k x.s)=Q:=by
  rw [List.all_eq_true];intro x hx;obtain ⟨i,hi⟩:=List.getElem?_of_mem hx;have hlt:=(List.getElem?_eq_some_iff.1 hi).1;have:=hp i hlt;have he:=zCm hlt;rw [hi] at he;injection he with he
  rw [<-he] at this;exact this
 unfold zAf;have h3:(decide (o.kind=3)||decide (o.path=[]))=Q:=by simpa using h.2.2
 rw [hall,h3];simp [h.1,h.2.1]
theorem zLw (A:Option Addr) (n c:Nat) (re lo:Int) (o:Og) (B:Option Addr) (m d:Nat) (w:ZY) (hO:OpIn w o B m d) :
  Calls ZX 104 #[frV A n c re lo,opV o B m d] w fun e w'=>e=.returned (G (!zAf n o))/\ZZ w.heap.size w w':=by
 have hlen:=hO.path.len;have hle:=hO.path.le;obtain ⟨kind,f,fr,path,over⟩:=o;simp only at hlen hle ⊢;have hP:Stps w B m path:=hO.path;have ah:ZZ w.heap.size w ((w.alloc (.cells #[H A n c,D J re,D J lo] 24)).alloc (.cells #[D J kind,D J f,D J fr.f,D J fr.l,G fr.far,D J fr.pc,H B m d,G over] 32)):=((M _ _).alloc (O _) _).alloc (by simp) _;by_cases hh:zUw n ⟨kind,f,fr,path,over⟩
 ·have HH:=qH hh;obtain ⟨h1,h2,h3⟩:=hh;simp only at h1 h2 h3;have i1:¬f < 1:=by omega
  have i2:¬(n:Int) < f:=by omega
  have hk0:=(Blk.new w 24 #[H A n c,D J re,D J lo]).alloc (.cells #[D J kind,D J f,D J fr.f,D J fr.l,G fr.far,D J fr.pc,H B m d,G over] 32);have aq:Blk ((w.alloc (.cells #[H A n c,D J re,D J lo] 24)).alloc (.cells #[D J kind,D J f,D J fr.f,D J fr.l,G fr.far,D J fr.pc,H B m d,G over] 32)) (w.heap.size+1) 32 #[D J kind,D J f,D J fr.f,D J fr.l,G fr.far,D J fr.pc,H B m d,G over]:=heap_alloc2_new w _ _;have aL:=qH hlen;have HM:Hid (kind=3∨m=0):=qH (h3.imp id fun e=>by rw [<-hlen,e];rfl);clear h1 h2 h3 hlen hO;by_cases k3:kind=3
  ·subst k3;go_enter Tryz.func104,Tryz.ntmps104;go_wp2_with fail
   generalize (w.alloc (.cells #[H A n c,D J re,D J lo] 24)).alloc (.cells #[D J 3,D J f,D J fr.f,D J fr.l,G fr.far,D J fr.pc,H B m d,G over] 32)=ZO at ah hk0 aq ⊢;go_loopw [32] (fun v wr=>∃i:Nat,i<=m/\v=D J i/\ZZ ZO.heap.size ZO wr/\Hid (∀j:Nat,j < i->zAo n (pa path j).s=Q)) (fun v _=>m-(intOf v).toNat)
   case atStart=>exact ⟨0,Nat.zero_le _,rfl,M _ _,qH (fun j hj=>by omega)⟩
   case round =>
    obtain ⟨i,hi,rfl,hbr,HS⟩:=hrel;have hkr:=hk0.below hbr hk0.lt;have hor:=aq.below hbr aq.lt;have hbw:=zAa ah hbr ah.size;by_cases hlt:i < m
    ·obtain ⟨g,p,rfl,hg,⟨x0,x1,x2,x3,x4⟩,_⟩:=(hP.below hbw).at_ hlt;have j0:(0:Int)<=(i:Int):=by omega
     have j1:(i:Int) < (m:Int):=by omega
     obtain ⟨b,hb⟩:∃b,zAo n (pa path i).s=b:=⟨_,rfl⟩
     have HB:=qH hb;have dn:=qH hb;clear hb;generalize hx:pa path i=x at x0 x1 x2 x3 x4 HB;obtain ⟨xs,xo⟩:=x;clear hx;have iI:=hkr.alloc (.cells #[D J xs.f,D J xs.l,G xs.far,D J xs.pc,G xo] 86);have eP:Blk (wr.alloc (.cells #[D J xs.f,D J xs.l,G xs.far,D J xs.pc,G xo] 86)) wr.heap.size 86 #[D J xs.f,D J xs.l,G xs.far,D J xs.pc,G xo]:=Blk.new _ _ _;have bh:ZZ ZO.heap.size ZO (wr.alloc (.cells #[D J xs.f,D J xs.l,G xs.far,D J xs.pc,G xo] 86)):=hbr.alloc hbr.size _;have y0:=(iI.cell 0).trans rfl;have y1:=(iI.cell 1).trans rfl;have y2:=(iI.cell 2).trans rfl;have z0:=(eP.cell 0).trans rfl;have z1:=(eP.cell 1).trans rfl;have z2:=(eP.cell 2).trans rfl;have z3:=(eP.cell 3).trans rfl;have HN:=qH (zME HB.out A c re lo (wr.alloc (.cells #[D J xs.f,D J xs.l,G xs.far,D J xs.pc,G xo] 86)))
     cases b with
     | true =>
      have cR:=qH (show ∀j:Nat,j < i+1->zAo n (pa path j).s=Q from fun j hj=>by
       rcases Nat.decEq j i with e | e
       ·exact HS.out j (by omega)
       ·subst e;exact dn.out)
      clear HS HB dn;go_wp2_with fail
      refine HN.out.mono ?_;rintro e w5 ⟨rfl,az⟩;have aM:=zAa bh az bh.size;clear y0 y1 y2 z0 z1 z2 z3;go_wp2_with fail
      go_roundw
      case rel=>exact ⟨i+1,by omega,by go_num,aM,cR⟩
      case measure=>simp [intOf];omega
     | false =>
      have hr:=qH (zHf (k:=n) (o:=⟨3,f,fr,path,over⟩) (i:=i) (by rw [show (⟨3,f,fr,path,over⟩:Og).path=path from rfl,aL.out];exact hlt) dn.out);clear HS HB dn;go_wp2_with fail
      refine HN.out.mono ?_;rintro e w5 ⟨rfl,az⟩;have aM:=zAa bh az bh.size;clear y0 y1 y2 z0 z1 z2 z3;go_wp2_with fail
      go_ret;exact ⟨zBJ (by rw [hr.out];rfl),zAa ah aM ah.size⟩
    ·have j1:¬(i:Int) < (m:Int):=by omega
     have hrest:=zEF HH.out (fun j hj=>HS.out j (by rw [show (⟨3,f,fr,path,over⟩:Og).path=path from rfl,aL.out] at hj;omega));have hre:zBn n ⟨3,f,fr,path,over⟩=(!over&&zAo n fr):=by simp [zBn]
     rw [hre] at hrest;have HR:=qH hrest;have HN:=qH (zEE A n c re lo fr wr);obtain ⟨a0,a1,a2⟩:=cQ3 hkr;obtain ⟨e0,-,e2,e3,e4,e5,-,e7⟩:=cQ8 hor;clear HS hrest hre
     cases over with
     | true =>
      go_wp2_with fail
      go_ret;exact ⟨zBJ (by rw [HR.out];rfl),hbw⟩
     | false =>
      go_wp2_with fail
      refine HN.out.mono ?_;rintro e w5 ⟨rfl,az⟩;have aM:=zAa hbw az hbw.size;go_wp2_with fail
      go_ret;exact ⟨zBJ (by rw [HR.out];simp),aM⟩
  ·have k4:(kind != 3)=Q:=by simpa using k3
   have k5:¬0 < (m:Int):=by rcases HM.out with h | h;exact absurd h k3;omega
   have K3:=qH k3;clear k3;go_enter Tryz.func104,Tryz.ntmps104;go_wp2_with fail
   generalize (w.alloc (.cells #[H A n c,D J re,D J lo] 24)).alloc (.cells #[D J kind,D J f,D J fr.f,D J fr.l,G fr.far,D J fr.pc,H B m d,G over] 32)=ZO at ah hk0 aq ⊢;go_loopw [32] (fun v wr=>∃i:Nat,i<=m/\v=D J i/\ZZ ZO.heap.size ZO wr/\Hid (∀j:Nat,j < i->zAo n (pa path j).s=Q)) (fun v _=>m-(intOf v).toNat)
   case atStart=>exact ⟨0,Nat.zero_le _,rfl,M _ _,qH (fun j hj=>by omega)⟩
   case round =>
    obtain ⟨i,hi,rfl,hbr,HS⟩:=hrel;have hkr:=hk0.below hbr hk0.lt;have hor:=aq.below hbr aq.lt;have hbw:=zAa ah hbr ah.size;by_cases hlt:i < m
    ·exfalso;omega
    ·have j1:¬(i:Int) < (m:Int):=by omega
     have hrest:=zEF HH.out (fun j hj=>HS.out j (by rw [show (⟨kind,f,fr,path,over⟩:Og).path=path from rfl,aL.out] at hj;omega));have HR:=qH hrest;have HN:=qH (zEE A n c re lo fr wr);obtain ⟨a0,a1,a2⟩:=cQ3 hkr;obtain ⟨e0,-,e2,e3,e4,e5,-,e7⟩:=cQ8 hor;have heq:=fun w=>zXQ fr s0 w
     have heq2:=fun w=>zXQ fr ⟨fr.f,0,E,0⟩ w
     simp only [s0] at heq;clear HS hrest;by_cases q1:kind=1∨kind=2∨kind=8
     ·rcases q1 with rfl | rfl | rfl
      all_goals
       cases over with
       | true =>
        go_wp2_with fail
        go_ret;exact ⟨zBJ (by rw [HR.out];simp [zBn]),hbw⟩
       | false =>
        go_wp2_with fail
        go_ret;exact ⟨zBJ (by rw [HR.out];simp [zBn,s0]),hbw⟩
     ·by_cases q2:kind=4
      ·subst q2;clear q1;go_wp2_with fail
       go_ret;exact ⟨zBJ (by rw [HR.out];simp [zBn,s0]),hbw⟩
      ·by_cases q3:kind=5
       ·subst q3;clear q1 q2;go_wp2_with fail
        refine HN.out.mono ?_;rintro e w5 ⟨rfl,az⟩;have aM:=zAa hbw az hbw.size;go_wp2_with fail
        go_ret;exact ⟨zBJ (by rw [HR.out];simp [zBn]),aM⟩
       ·by_cases q4:kind=6∨kind=7
        ·clear q1 q2 q3;have hkb:=fun (w5:ZY) (az:ZZ wr.heap.size wr w5)=>hor.below az hor.lt
         obtain ⟨b,hb⟩:∃b,zAo n fr=b:=⟨_,rfl⟩
         have GO:=qH (zME hb A c re lo wr);have HB:=qH hb;have HKB:=qH hkb;clear HN hb hkb;rcases q4 with rfl | rfl
         all_goals
          cases b with
          | false =>
           go_wp2_with fail
           refine GO.out.mono ?_;rintro e w5 ⟨rfl,az⟩;have aM:=zAa hbw az hbw.size;clear e0 e2 e3 e4 e5 e7;go_wp2_with fail
           go_ret;exact ⟨zBJ (by rw [HR.out];simp [zBn,HB.out]),aM⟩
          | true =>
           go_wp2_with fail
           refine GO.out.mono ?_;rintro e w5 ⟨rfl,az⟩;have aM:=zAa hbw az hbw.size;have ya:=HKB.out w5 az;clear e0 e2 e3 e4 e5 e7;obtain ⟨-,-,g2,g3,g4,g5⟩:=cQ6 ya;go_wp2_with fail
           go_ret;exact ⟨zBJ (by rw [HR.out];simp [zBn,HB.out]),aM⟩
        ·have t1:(kind==1)=E:=by simp;omega
         have t2:(kind==2)=E:=by simp;omega
         have t3:(kind==8)=E:=by simp;omega
         have t4:(kind==4)=E:=by simp;omega
         have t5:(kind==3)=E:=by simpa using k4
         have t6:(kind==5)=E:=by simp;omega
         have t7:(kind==6)=E:=by simp;omega
         have t8:(kind==7)=E:=by simp;omega
         have hz:zBn n ⟨kind,f,fr,path,over⟩=E:=by
          unfold zBn;simp only;rw [qN q1,qN q2,qN K3.out,qN q3,qN q4]
         have HZ:=qH hz;clear q1 q2 q3 q4 hz;go_wp2_with fail
         go_ret;exact ⟨zBJ (by rw [HR.out,HZ.out];rfl),hbw⟩
 ·have hr:=qH (zHe hh);have wA:f < 1∨(¬f < 1/\(n:Int) < f)∨(¬f < 1/\¬(n:Int) < f/\(kind != 3)=Q/\0 < (m:Int)):=by
   by_cases e1:f < 1
   ·exact .inl e1
   ·by_cases e2:(n:Int) < f
    ·exact .inr (.inl ⟨e1,e2⟩)
    ·have e3:¬(kind=3∨path=[]):=fun e=>hh ⟨by simp only;omega,by simp only;omega,e⟩
     have e4:kind≠3:=fun e=>e3 (.inl e)
     have e5:m≠0:=fun e=>e3 (.inr (List.length_eq_zero_iff.1 (by rw [hlen,e])))
     exact .inr (.inr ⟨e1,e2,by simpa using e4,by omega⟩)
  clear hh;rcases wA with i1 | ⟨i1,i2⟩ | ⟨i1,i2,i3,i4⟩
  all_goals
   go_enter Tryz.func104,Tryz.ntmps104;go_wp2_with fail
   go_ret;exact ⟨zBJ (by rw [hr.out];rfl),ah⟩
theorem zAl {a b T:List UInt8} (h:a++b=T) (x y:ByteArray) (hx:x=bA a) (hy:y=bA b) (ha:a.length<=1000000000) (hb:b.length<=1000000000):∀w,(Op.stringOp .add x y).run ZX w=.ok (W (bA T)) w:=fun w=>by
 subst h;subst hx;subst hy
 rw [run_string_add_sum w (bA a) (bA b) (by rw [zAH,zAH];omega),zKl]
def nmF (L:List Fg) (f:Int):List UInt8:=zAj (fa L (f-1).toNat)
def zAx (b:Bool):List UInt8:=if b then [111,118,101,114] else [117,110,100,101,114]
def zBH (b:Bool):List UInt8:=if b then [102,97,114] else [110,101,97,114]
def zAM (L:List Fg) (s:Sg):List UInt8 :=
 nmF L s.f++[32]++zBH s.far++(if s.l=0 then [] else [32,108,111,111,112,32]++Lib.itoa s.l)++(if s.pc=0 then [] else [32,112,105,101,99,101,32]++Lib.itoa s.pc)
def zAu (k:Int):List UInt8 :=
 if k=1 then [114,101,108,101,97,115,101] else if k=2 then [110,97,118,97,104,111] else if k=3 then [112,105,99,107] else if k=4 then [116,119,105,115,116]
 else if k=5 then [116,97,107,101] else if k=6 then [116,114,97,110,115,102,101,114] else if k=7 then [101,120,99,104,97,110,103,101] else if k=8 then [100,114,111,112] else []
theorem zFb (b:Bool):(zAx b).length<=5:=by cases b<;>simp [zAx]
theorem zHg (b:Bool):(zBH b).length<=4:=by cases b<;>simp [zBH]
theorem zKp (k:Int):(zAu k).length<=8:=by
 unfold zAu
 repeat (split;· decide)
 decide
theorem zIw (b:Bool) (w:ZY):Calls ZX 108 #[G b] w fun e w'=>e=.returned (W (bA (zAx b)))/\w'=w:=by
 cases b <;>
 ·go_enter Tryz.func108,Tryz.ntmps108;go_wp2_with fail
  go_ret;exact ⟨rfl,rfl⟩
theorem zNM (b:Bool) (w:ZY):Calls ZX 155 #[G b] w fun e w'=>e=.returned (W (bA (zBH b)))/\w'=w:=by
 cases b <;>
 ·go_enter Tryz.func155,Tryz.ntmps155;go_wp2_with fail
  go_ret;exact ⟨rfl,rfl⟩
theorem zBV (k:Int) (h0:0<=k) (h8:k<=8) (w:ZY):Calls ZX 106 #[D J k] w fun e w'=>e=.returned (W (bA (zAu k)))/\w'=w:=by
 have hk:k=0∨k=1∨k=2∨k=3∨k=4∨k=5∨k=6∨k=7∨k=8:=by omega
 clear h0 h8;have x0:∀w:ZY,(Instr.index 197 (.agg #[W ⟨#[]⟩,W ⟨#[114,101,108,101,97,115,101]⟩,W ⟨#[110,97,118,97,104,111]⟩,W ⟨#[112,105,99,107]⟩,W ⟨#[116,119,105,115,116]⟩,W ⟨#[116,97,107,101]⟩,W ⟨#[116,114,97,110,115,102,101,114]⟩,W ⟨#[101,120,99,104,97,110,103,101]⟩,W ⟨#[100,114,111,112]⟩]) (D J 0)).run ZX w=.ok (W ⟨#[]⟩) w:=fun _=>by kernel_rfl
 have x1:∀w:ZY,(Instr.index 197 (.agg #[W ⟨#[]⟩,W ⟨#[114,101,108,101,97,115,101]⟩,W ⟨#[110,97,118,97,104,111]⟩,W ⟨#[112,105,99,107]⟩,W ⟨#[116,119,105,115,116]⟩,W ⟨#[116,97,107,101]⟩,W ⟨#[116,114,97,110,115,102,101,114]⟩,W ⟨#[101,120,99,104,97,110,103,101]⟩,W ⟨#[100,114,111,112]⟩]) (D J 1)).run ZX w=.ok (W ⟨#[114,101,108,101,97,115,101]⟩) w:=fun _=>by kernel_rfl
 have x2:∀w:ZY,(Instr.index 197 (.agg #[W ⟨#[]⟩,W ⟨#[114,101,108,101,97,115,101]⟩,W ⟨#[110,97,118,97,104,111]⟩,W ⟨#[112,105,99,107]⟩,W ⟨#[116,119,105,115,116]⟩,W ⟨#[116,97,107,101]⟩,W ⟨#[116,114,97,110,115,102,101,114]⟩,W ⟨#[101,120,99,104,97,110,103,101]⟩,W ⟨#[100,114,111,112]⟩]) (D J 2)).run ZX w=.ok (W ⟨#[110,97,118,97,104,111]⟩) w:=fun _=>by kernel_rfl
 have x3:∀w:ZY,(Instr.index 197 (.agg #[W ⟨#[]⟩,W ⟨#[114,101,108,101,97,115,101]⟩,W ⟨#[110,97,118,97,104,111]⟩,W ⟨#[112,105,99,107]⟩,W ⟨#[116,119,105,115,116]⟩,W ⟨#[116,97,107,101]⟩,W ⟨#[116,114,97,110,115,102,101,114]⟩,W ⟨#[101,120,99,104,97,110,103,101]⟩,W ⟨#[100,114,111,112]⟩]) (D J 3)).run ZX w=.ok (W ⟨#[112,105,99,107]⟩) w:=fun _=>by kernel_rfl
 have x4:∀w:ZY,(Instr.index 197 (.agg #[W ⟨#[]⟩,W ⟨#[114,101,108,101,97,115,101]⟩,W ⟨#[110,97,118,97,104,111]⟩,W ⟨#[112,105,99,107]⟩,W ⟨#[116,119,105,115,116]⟩,W ⟨#[116,97,107,101]⟩,W ⟨#[116,114,97,110,115,102,101,114]⟩,W ⟨#[101,120,99,104,97,110,103,101]⟩,W ⟨#[100,114,111,112]⟩]) (D J 4)).run ZX w=.ok (W ⟨#[116,119,105,115,116]⟩) w:=fun _=>by kernel_rfl
 have x5:∀w:ZY,(Instr.index 197 (.agg #[W ⟨#[]⟩,W ⟨#[114,101,108,101,97,115,101]⟩,W ⟨#[110,97,118,97,104,111]⟩,W ⟨#[112,105,99,107]⟩,W ⟨#[116,119,105,115,116]⟩,W ⟨#[116,97,107,101]⟩,W ⟨#[116,114,97,110,115,102,101,114]⟩,W ⟨#[101,120,99,104,97,110,103,101]⟩,W ⟨#[100,114,111,112]⟩]) (D J 5)).run ZX w=.ok (W ⟨#[116,97,107,101]⟩) w:=fun _=>by kernel_rfl
 have x6:∀w:ZY,(Instr.index 197 (.agg #[W ⟨#[]⟩,W ⟨#[114,101,108,101,97,115,101]⟩,W ⟨#[110,97,118,97,104,111]⟩,W ⟨#[112,105,99,107]⟩,W ⟨#[116,119,105,115,116]⟩,W ⟨#[116,97,107,101]⟩,W ⟨#[116,114,97,110,115,102,101,114]⟩,W ⟨#[101,120,99,104,97,110,103,101]⟩,W ⟨#[100,114,111,112]⟩]) (D J 6)).run ZX w=.ok (W ⟨#[116,114,97,110,115,102,101,114]⟩) w:=fun _=>by kernel_rfl
 have x7:∀w:ZY,(Instr.index 197 (.agg #[W ⟨#[]⟩,W ⟨#[114,101,108,101,97,115,101]⟩,W ⟨#[110,97,118,97,104,111]⟩,W ⟨#[112,105,99,107]⟩,W ⟨#[116,119,105,115,116]⟩,W ⟨#[116,97,107,101]⟩,W ⟨#[116,114,97,110,115,102,101,114]⟩,W ⟨#[101,120,99,104,97,110,103,101]⟩,W ⟨#[100,114,111,112]⟩]) (D J 7)).run ZX w=.ok (W ⟨#[101,120,99,104,97,110,103,101]⟩) w:=fun _=>by kernel_rfl
 have x8:∀w:ZY,(Instr.index 197 (.agg #[W ⟨#[]⟩,W ⟨#[114,101,108,101,97,115,101]⟩,W ⟨#[110,97,118,97,104,111]⟩,W ⟨#[112,105,99,107]⟩,W ⟨#[116,119,105,115,116]⟩,W ⟨#[116,97,107,101]⟩,W ⟨#[116,114,97,110,115,102,101,114]⟩,W ⟨#[101,120,99,104,97,110,103,101]⟩,W ⟨#[100,114,111,112]⟩]) (D J 8)).run ZX w=.ok (W ⟨#[100,114,111,112]⟩) w:=fun _=>by kernel_rfl
 rcases hk with rfl | rfl | rfl | rfl | rfl | rfl | rfl | rfl | rfl
 all_goals
  go_enter Tryz.func106,Tryz.ntmps106;go_wp2_with fail
  go_ret;exact ⟨rfl,rfl⟩
theorem zNN (A:Option Addr) (n c:Nat) (L:List Fg) (re lo:Int) (f:Int) (w:ZY) (hA:Fgs w A n L) (hv:frOk L re lo) (h1:1<=f) (h2:f<=(n:Int)) :
  Calls ZX 107 #[frV A n c re lo,D J f] w fun e w'=>e=.returned (W (bA (nmF L f)))/\ZZ w.heap.size w w':=by
 have hle:=hA.le;have ah:ZZ w.heap.size w (w.alloc (.cells #[H A n c,D J re,D J lo] 24)):=(M _ _).alloc (O _) _;have hA0:=hA.alloc (.cells #[H A n c,D J re,D J lo] 24);obtain ⟨i,hi⟩:∃i:Nat,f=(i:Int)+1:=⟨(f-1).toNat,by omega⟩
 have hin:i < n:=by omega
 obtain ⟨g,o,rfl,hg,⟨x0,x1,x2⟩,_⟩:=hA0.at_ hin;have hth:=hv.there (i:=i) (by rw [hA.len];exact hin);have hnm:nmF L f=zAj (fa L i):=by unfold nmF;rw [hi,show ((i:Int)+1-1).toNat=i by omega]
 rw [hnm];have q0:IntKind.i64.wrap (f-1)=(i:Int):=by rw [hi,show (i:Int)+1-1=(i:Int) by omega];exact IntWalk.i64_in _ (by omega)
 have q1:wrap64 (f-1)=(i:Int):=by unfold wrap64;omega
 have q2:f-1=(i:Int):=by omega
 have j0:(0:Int)<=(i:Int):=by omega
 have j1:(i:Int) < (n:Int):=by omega
 generalize fa L i=x at x0 x1 x2 hth ⊢;have HN:=qH (zKn x hth (w.alloc (.cells #[H (Z ⟨g,o,U⟩) n c,D J re,D J lo] 24)));clear hi hnm hth hA0 hA hin h1 h2;go_enter Tryz.func107,Tryz.ntmps107;go_wp2_with fail
 refine HN.out.mono ?_;rintro e w2 ⟨rfl,ai⟩;have al:=zAa ah ai ah.size;go_wp2_with fail
 go_ret;exact ⟨rfl,al⟩
theorem zBy {L:List Fg} {re lo:Int} (hv:frOk L re lo) {f:Int} (h1:1<=f) (h2:f<=(L.length:Int)):(nmF L f).length<=43 :=
 zKm (zGI (hv.there (i:=(f-1).toNat) (by omega)))
theorem zPj {b:Bool} {S:List UInt8} (h:zBH b=S) (w:ZY):Calls ZX 155 #[G b] w fun e w'=>e=.returned (W (bA S))/\w'=w:=by
 subst h;exact zNM b w
theorem zHh {b:Bool} {S:List UInt8} (h:zAx b=S) (w:ZY):Calls ZX 108 #[G b] w fun e w'=>e=.returned (W (bA S))/\w'=w:=by
 subst h;exact zIw b w
theorem zDm {A:Option Addr} {n c:Nat} {L:List Fg} {re lo:Int} {f:Int} {S:List UInt8} (h:nmF L f=S) (w:ZY) (hA:Fgs w A n L) (hv:frOk L re lo) (h1:1<=f) (h2:f<=(n:Int)) :
  Calls ZX 107 #[frV A n c re lo,D J f] w fun e w'=>e=.returned (W (bA S))/\ZZ w.heap.size w w':=by
 subst h;exact zNN A n c L re lo f w hA hv h1 h2
theorem zLx (A:Option Addr) (n c:Nat) (L:List Fg) (re lo:Int) (s:Sg) (w:ZY) (hA:Fgs w A n L) (hv:frOk L re lo) (hs:zAo n s=Q) (ht:Tabs w) :
  Calls ZX 109 #[frV A n c re lo,sgV s] w fun e w'=>e=.returned (W (bA (zAM L s)))/\ZZ w.heap.size w w':=by
 obtain ⟨h1,h2,h3,h4,h5,h6⟩:=zAh.1 hs;have eZ:=zBy hv h1 (by rw [hA.len];exact h2);have ti:=zHg s.far;have uG:=zAP (x:=s.l) ⟨by omega,by omega⟩;have uF:=zAP (x:=s.pc) ⟨by omega,by omega⟩;obtain ⟨f,l,far,pc⟩:=s;simp only at h1 h2 h3 h4 h5 h6 eZ ti uG uF ⊢;have hf:zAM L ⟨f,l,far,pc⟩=nmF L f++[32]++zBH far++(if l=0 then [] else [32,108,111,111,112,32]++Lib.itoa l)++(if pc=0 then [] else [32,112,105,101,99,101,32]++Lib.itoa pc):=rfl;obtain ⟨NM,db⟩:∃NM,nmF L f=NM:=⟨_,rfl⟩
 obtain ⟨SD,jc⟩:∃SD,zBH far=SD:=⟨_,rfl⟩
 obtain ⟨IL,qL⟩:∃IL,Lib.itoa l=IL:=⟨_,rfl⟩
 obtain ⟨IP,qK⟩:∃IP,Lib.itoa pc=IP:=⟨_,rfl⟩
 rw [db,jc,qL,qK] at hf;rw [db] at eZ;rw [jc] at ti;rw [qL] at uG;rw [qK] at uF;have HF:=qH hf;have ah:ZZ w.heap.size w ((w.alloc (.cells #[H A n c,D J re,D J lo] 24)).alloc (.cells #[D J f,D J l,G far,D J pc] 29)):=((M _ _).alloc (O _) _).alloc (by simp) _;have hk0:=(Blk.new w 24 #[H A n c,D J re,D J lo]).alloc (.cells #[D J f,D J l,G far,D J pc] 29);have aq:Blk ((w.alloc (.cells #[H A n c,D J re,D J lo] 24)).alloc (.cells #[D J f,D J l,G far,D J pc] 29)) (w.heap.size+1) 29 #[D J f,D J l,G far,D J pc]:=heap_alloc2_new w _ _;obtain ⟨T0,vh⟩:∃T,NM++[32]=T:=⟨_,rfl⟩
 obtain ⟨T1,cF⟩:∃T,T0++SD=T:=⟨_,rfl⟩
 obtain ⟨LP,AM⟩:∃T,[32,108,111,111,112,32]++IL=T:=⟨_,rfl⟩
 obtain ⟨PC,AK⟩:∃T,[32,112,105,101,99,101,32]++IP=T:=⟨_,rfl⟩
 obtain ⟨T2,et⟩:∃T,T1++LP=T:=⟨_,rfl⟩
 obtain ⟨T3,jb⟩:∃T,T1++PC=T:=⟨_,rfl⟩
 obtain ⟨T4,p8⟩:∃T,T2++PC=T:=⟨_,rfl⟩
 have l0:T0.length<=44:=by rw [<-vh];simp;omega
 have l1:T1.length<=48:=by rw [<-cF];simp;omega
 have lL:LP.length<=27:=by rw [<-AM];simp;omega
 have lP:PC.length<=28:=by rw [<-AK];simp;omega
 have l2:T2.length<=75:=by rw [<-et];simp;omega
 have s1:=zAl vh (bA NM) ⟨#[32]⟩ rfl rfl (by omega) (by simp);have s2:=zAl cF _ _ rfl rfl (by omega) (by omega);have t1:=zAl AM ⟨#[32,108,111,111,112,32]⟩ _ rfl rfl (by simp) (by omega);have t2:=zAl et _ _ rfl rfl (by omega) (by omega);have u1:=zAl AK ⟨#[32,112,105,101,99,101,32]⟩ _ rfl rfl (by simp) (by omega);have u2:=zAl jb _ _ rfl rfl (by omega) (by omega);have u3:=zAl p8 _ _ rfl rfl (by omega) (by omega);have HT:=qH (show T1=NM++[32]++SD/\T2=T1++LP/\T3=T1++PC/\T4=T2++PC/\LP=[32,108,111,111,112,32]++IL/\PC=[32,112,105,101,99,101,32]++IP from ⟨by rw [<-cF,<-vh],et.symm,jb.symm,p8.symm,AM.symm,AK.symm⟩);clear vh cF et jb p8 AM AK l0 l1 lL lP l2;have gR:=qH db;have DB:=qH jc;have lC:=qH (show ∀w,Tabs w->Calls ZX 124 #[D J l] w fun e w'=>e=.returned (W (bA IL))/\ZZ w.heap.size w w' from fun w ht=>by rw [<-qL];exact zIY l ⟨by omega,by omega⟩ w ht);have vT:=qH (show ∀w,Tabs w->Calls ZX 124 #[D J pc] w fun e w'=>e=.returned (W (bA IP))/\ZZ w.heap.size w w' from fun w ht=>by rw [<-qK];exact zIY pc ⟨by omega,by omega⟩ w ht);have pR:=qH (show 1<=f/\f<=(n:Int) from ⟨h1,h2⟩);clear hf db jc qL qK eZ ti uG uF h1 h2 h3 h4 h5 h6 hs;go_enter Tryz.func109,Tryz.ntmps109;go_wp2_with fail
 have hA0:=hA.below ah;have wm:=ht.below ah;generalize (w.alloc (.cells #[H A n c,D J re,D J lo] 24)).alloc (.cells #[D J f,D J l,G far,D J pc] 29)=ZO at ah hk0 aq hA0 wm ⊢
 have KP:=qH (show ∀wx,ZZ ZO.heap.size ZO wx->(ZZ ZO.heap.size ZO wx/\wx.cell? ⟨w.heap.size,0,U⟩=Z (H A n c)/\wx.cell? ⟨w.heap.size,1,U⟩=Z (D J re)/\wx.cell? ⟨w.heap.size,2,U⟩=Z (D J lo)/\wx.cell? ⟨w.heap.size+1,0,U⟩=Z (D J f)/\wx.cell? ⟨w.heap.size+1,1,U⟩=Z (D J l)/\wx.cell? ⟨w.heap.size+1,2,U⟩=Z (G far)/\wx.cell? ⟨w.heap.size+1,3,U⟩=Z (D J pc)) from
  fun wx h=>⟨h,((hk0.below h hk0.lt).cell 0).trans rfl,((hk0.below h hk0.lt).cell 1).trans rfl,((hk0.below h hk0.lt).cell 2).trans rfl,((aq.below h aq.lt).cell 0).trans rfl,((aq.below h aq.lt).cell 1).trans rfl,((aq.below h aq.lt).cell 2).trans rfl,((aq.below h aq.lt).cell 3).trans rfl⟩)
 first
  | go_region_held3 (fun wx=>ZZ ZO.heap.size ZO wx/\wx.cell? ⟨w.heap.size,0,U⟩=Z (H A n c)/\wx.cell? ⟨w.heap.size,1,U⟩=Z (D J re)/\wx.cell? ⟨w.heap.size,2,U⟩=Z (D J lo)/\wx.cell? ⟨w.heap.size+1,0,U⟩=Z (D J f)/\wx.cell? ⟨w.heap.size+1,1,U⟩=Z (D J l)/\wx.cell? ⟨w.heap.size+1,2,U⟩=Z (G far)/\wx.cell? ⟨w.heap.size+1,3,U⟩=Z (D J pc)) (first | assumption | exact KP.out _ (M _ _).drew | exact KP.out _ (zAa (And.left (by assumption)) (by assumption) (Below.size (And.left (by assumption)))))
    (first
     | (go_at_call 107;refine (zDm gR.out _ (hA0.below (And.left (by assumption))) hv pR.out.1 pR.out.2).mono ?_;rintro e wa ⟨rfl,hba⟩)
     | (go_at_call 155;refine (zPj DB.out _).mono ?_;rintro e wc ⟨rfl,rfl⟩))
  | fail
 all_goals
  obtain ⟨hbx,x0,x1,x2,y0,y1,y2,y3⟩:=(show ZZ ZO.heap.size ZO _/\_ from by assumption);have ai:=zAa ah hbx ah.size;have htx:=wm.below hbx;have hkx:=aq.below hbx aq.lt;clear x0 x1 x2 y0 y2;by_cases ql:l=0
  ·have q0:(l != 0)=E:=by simp [ql]
   by_cases qp:pc=0
   ·have q1:(pc != 0)=E:=by simp [qp]
    have HR:=qH (show bA T1=bA (zAM L ⟨f,l,far,pc⟩) by rw [HF.out,HT.out.1,qP ql,qP qp,List.append_nil,List.append_nil]);clear ql qp;go_wp2_with fail
    go_ret;exact ⟨zCp HR.out,ai⟩
   ·have q1:(pc != 0)=Q:=by simpa using qp
    have HR:=qH (show bA T3=bA (zAM L ⟨f,l,far,pc⟩) by rw [HF.out,HT.out.2.2.1,HT.out.1,HT.out.2.2.2.2.2,qP ql,qN qp,List.append_nil]);clear ql qp;go_wp2_with fail
    refine (vT.out _ htx).mono ?_;rintro e w5 ⟨rfl,az⟩;have aM:=zAa ai az ai.size;clear y1 y3;go_wp2_with fail
    go_ret;exact ⟨zCp HR.out,aM⟩
  ·have q0:(l != 0)=Q:=by simpa using ql
   by_cases qp:pc=0
   ·have q1:(pc != 0)=E:=by simp [qp]
    have HR:=qH (show bA T2=bA (zAM L ⟨f,l,far,pc⟩) by rw [HF.out,HT.out.2.1,HT.out.1,HT.out.2.2.2.2.1,qN ql,qP qp,List.append_nil]);clear ql qp;go_wp2_with fail
    refine (lC.out _ htx).mono ?_;rintro e w5 ⟨rfl,az⟩;have aM:=zAa ai az ai.size;have k3:w5.cell? ⟨w.heap.size+1,3,U⟩=Z (D J pc):=((hkx.below az hkx.lt).cell 3).trans rfl;clear y1 y3;go_wp2_with fail
    go_ret;exact ⟨zCp HR.out,aM⟩
   ·have q1:(pc != 0)=Q:=by simpa using qp
    have HR:=qH (show bA T4=bA (zAM L ⟨f,l,far,pc⟩) by rw [HF.out,HT.out.2.2.2.1,HT.out.2.1,HT.out.1,HT.out.2.2.2.2.1,HT.out.2.2.2.2.2,qN ql,qN qp]);clear ql qp;go_wp2_with fail
    refine (lC.out _ htx).mono ?_;rintro e w5 ⟨rfl,az⟩;have aM:=zAa ai az ai.size;have k3:w5.cell? ⟨w.heap.size+1,3,U⟩=Z (D J pc):=((hkx.below az hkx.lt).cell 3).trans rfl;have ht5:=htx.below az;clear y1 y3;go_wp2_with fail
    refine (vT.out _ ht5).mono ?_;rintro e w7 ⟨rfl,cV⟩;have cz:=zAa aM cV aM.size;clear k3;go_wp2_with fail
    go_ret;exact ⟨zCp HR.out,cz⟩
