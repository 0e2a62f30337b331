/-
  Lemmas. Conditions: each one's own.
-/
import Derived.Test.YtlmdfmnbcndhoaaGreatDoorRt06
import Derived.Lib.Join
import Derived.Lib.SplitLaws
open Go.RowKit
set_option maxHeartbeats 3200000
open Go renaming World->ZY
open Go.Value renaming bool->G,int->D,string->W
open Option renaming none->U,some->Z
open Go.Proofs.Tryz renaming prog->ZX
open Go.IntKind renaming i64->J
open Bool renaming false->E,true->Q
open Go.RowKit renaming Below->ZZ
open Go.RowKit.Below renaming refl->M
namespace Go.Proofs.YtlmdfmnbcndhoaaGreatDoor
def ovT (S:List UInt8):Bool:=S==[111,118,101,114]
def unT (S:List UInt8):Bool:=S==[117,110,100,101,114]
theorem zAp (S l:List UInt8):((bA S).toList==l)=(S==l):=by rw [zAr]
theorem zLJ (rb:Nat) (A:Option Addr) (n c:Nat) (re lo:Int) (T:List (List UInt8)) (bad lost:Bool) (w:ZY) (h:Rd w rb A n c re lo T bad lost) :
  Calls ZX 147 #[.pointer (Z ⟨rb,0,U⟩)] w fun e w'=>e=.returned (G (ovT (xa T 0)))/\Rd w' rb A n c re lo T.tail ((bad||T.isEmpty)||!(ovT (xa T 0)||unT (xa T 0))) lost/\w.grownBy w' (Z rb):=by
 have HN:=qH (zHj rb A n c re lo T bad lost w h);clear h;have n1:=zAp (xa T 0) [111,118,101,114];have n2:=zAp (xa T 0) [117,110,100,101,114];obtain ⟨b1,ay⟩:∃b,ovT (xa T 0)=b:=⟨_,rfl⟩
 obtain ⟨b2,ai⟩:∃b,unT (xa T 0)=b:=⟨_,rfl⟩
 obtain ⟨b0,ah⟩:∃b,(bad||T.isEmpty)=b:=⟨_,rfl⟩
 rw [show (xa T 0==[111,118,101,114])=b1 from ay] at n1;rw [show (xa T 0==[117,110,100,101,114])=b2 from ai] at n2;rw [ah] at HN;rw [ah,ay,ai];generalize xa T 0=S at n1 n2 HN;clear ah ay ai;have fin:∀(w2:ZY),Rd w2 rb A n c re lo T.tail b0 lost->w.grownBy w2 (Z rb)->∃B m d,Blk w2 rb 123 (rdC A n c re lo B m d b0 lost)/\∀b:Bool,b=(b0||!(b1||b2))->Rd (w2.setCell ⟨rb,4,U⟩ (G b)) rb A n c re lo T.tail (b0||!(b1||b2)) lost/\w.grownBy (w2.setCell ⟨rb,4,U⟩ (G b)) (Z rb):=fun w2 h2 dr=>by
  obtain ⟨B,m,d,hk,hT,hmd,hne⟩:=h2.ex;refine ⟨B,m,d,hk,fun b hb=>⟨⟨B,m,d,?_,Txts.keepAny hT (zBv _ _) hne,hmd,hne⟩,zAb dr (zBv _ _)⟩⟩;rw [<-hb];simpa using hk.set_ 4 (G b)
 have nw:=qH fin;clear fin;go_enter Tryz.func147,Tryz.ntmps147;go_wp2_with fail
 refine HN.out.mono ?_;rintro e w2 ⟨rfl,h2,dr⟩;obtain ⟨B,m,d,hk,hfin⟩:=nw.out w2 h2 dr;have lD:=qH hfin;have c4:w2.cell? ⟨rb,4,U⟩=Z (G b0):=(hk.cell 4).trans rfl;have z4:=hk.frozen 4;clear h2 dr hfin hk HN nw
 cases b0<;>cases b1<;>cases b2
 all_goals
  go_wp2_with fail
  go_ret;exact ⟨rfl,lD.out _ rfl⟩
theorem zBE (S:List UInt8) (i j:Nat):(bA S).extract i j=bA ((S.take j).drop i):=by
 apply ByteArray.ext;apply Array.ext';simp [bA,List.drop_take]
theorem zCX (x:UInt8) (S:List UInt8) (w:ZY):(Instr.index 9 (W (bA (x :: S))) (D J 0)).run ZX w=.ok (D .u8 x.toNat) w:=by
 rw [run_index_string w 9 (bA (x :: S)) J 0 Tryz.underlying9,dif_pos (by rw [zAH];simp)];rfl
theorem zGK (x:UInt8) (S:List UInt8) (w:ZY):(Instr.slice 9 (W (bA (x :: S))) (Z (D J 1)) U U).run ZX w=.ok (W (bA S)) w:=by
 rw [run_slice_string_l w 9 (bA (x :: S)) Tryz.underlying9 J 1 (by omega) (by rw [zAH];simp;omega),zBE,zAH];simp
theorem zUL (x y:UInt8) (S:List UInt8) (w:ZY):(Instr.slice 9 (W (bA (x :: y :: S))) U (Z (D J 2)) U).run ZX w=.ok (W (bA [x,y])) w:=by
 rw [run_slice_string_h w 9 (bA (x :: y :: S)) Tryz.underlying9 J 2 (by omega) (by rw [zAH];simp;omega),zBE];simp
theorem zLK (x y:UInt8) (S:List UInt8) (w:ZY):(Instr.slice 9 (W (bA (x :: y :: S))) (Z (D J 2)) U U).run ZX w=.ok (W (bA S)) w:=by
 rw [run_slice_string_l w 9 (bA (x :: y :: S)) Tryz.underlying9 J 2 (by omega) (by rw [zAH];simp;omega),zBE,zAH];simp
def zGF:List UInt8->Bool×List UInt8×Bool
 | []=>(E,[],E)
 | x :: r=>if x=111 then (Q,r,Q) else if x=117 then (E,r,Q) else (E,x :: r,E)
theorem zEj (S:List UInt8) (w:ZY) :
  Calls ZX 163 #[W (bA S)] w fun e w'=>e=.returned (.tuple #[G (zGF S).1,W (bA (zGF S).2.1),G (zGF S).2.2])/\ZZ w.heap.size w w':=by
 have n0:=zAp S []
 cases S with
 | nil =>
  have hr:=qH (show zGF []=(E,[],E) from rfl);rw [show (([]:List UInt8)==[])=Q from rfl] at n0;rw [hr.out];go_enter Tryz.func163,Tryz.ntmps163;go_wp2_with fail
  go_ret3
  exact ⟨rfl,M _ _⟩
 | cons x r =>
  have s1:=zCX x r;have s2:=zGK x r;rw [show (x :: r==([]:List UInt8))=E from rfl] at n0;by_cases h1:x=111
  ·subst h1;have hr:=qH (show zGF (111 :: r)=(Q,r,Q) from rfl);rw [hr.out];rw [show (((111:UInt8).toNat:Nat):Int)=111 from rfl] at s1;go_enter Tryz.func163,Tryz.ntmps163;go_wp2_with fail
   go_quiet (fail)
   go_wp2_with fail
   go_ret3
   exact ⟨rfl,zAg (M _ _) _⟩
  ·by_cases h2:x=117
   ·subst h2;have hr:=qH (show zGF (117 :: r)=(E,r,Q) from rfl);rw [hr.out];rw [show (((117:UInt8).toNat:Nat):Int)=117 from rfl] at s1;go_enter Tryz.func163,Tryz.ntmps163;go_wp2_with fail
    go_quiet (fail)
    go_wp2_with fail
    go_ret3
    exact ⟨rfl,zAg (M _ _) _⟩
   ·have hr:=qH (show zGF (x :: r)=(E,x :: r,E) by simp only [zGF];rw [qN h1,qN h2]);have k1:((x.toNat:Int) != 111)=Q:=by
     simp only [bne_iff_ne,ne_eq];intro e;exact h1 (UInt8.toNat.inj (show x.toNat=111 by omega))
    have k2:((x.toNat:Int) != 117)=Q:=by
     simp only [bne_iff_ne,ne_eq];intro e;exact h2 (UInt8.toNat.inj (show x.toNat=117 by omega))
    rw [hr.out];clear h1 h2;go_enter Tryz.func163,Tryz.ntmps163;go_wp2_with fail
    go_ret3
    exact ⟨rfl,M _ _⟩
noncomputable def zFL (S:List UInt8):Option (Fg×List UInt8) :=
 match S with
 | x :: y :: r=>match zGs [x,y] with
  | some f=>if f.p=1 then Z (f,r) else U
  | none=>U
 | _=>U
theorem zBz (S:List UInt8):(bA S).size=S.length:=zAH S
theorem Rd.below {w w':ZY} {rb:Nat} {A:Option Addr} {n c:Nat} {re lo:Int} {T:List (List UInt8)} {bad lost:Bool} (h:Rd w rb A n c re lo T bad lost) (hb:ZZ w.heap.size w w'):Rd w' rb A n c re lo T bad lost:=by
 obtain ⟨B,m,d,hk,hT,hmd,hne⟩:=h.ex;exact ⟨B,m,d,hk.below hb hk.lt,Els.below hT hb,hmd,hne⟩
theorem zAA {w w':ZY} {row:Option Nat} (h:ZZ w.heap.size w w'):w.grownBy w' row:=zCW h (zBo _ _)
theorem Fgs.keepBlk {w w':ZY} {A:Option Addr} {n:Nat} {L:List Fg} {rb:Nat} (h:Fgs w A n L) (hg:w.grownBy w' (Z rb)) (hne:∀k,blk A=Z k->k≠rb):Fgs w' A n L:=by
 refine ⟨⟨h.len,h.le,fun h0=>?_⟩,h.2⟩;obtain ⟨g,o,e,hb,hc⟩:=h.1.2.2 h0;subst e;refine ⟨g,o,rfl,Nat.lt_of_lt_of_le hb hg.size,fun j x hx q v hv=>?_⟩;rw [World.cell?_of_block (w:=w) (w':=w') (hg.block g hb (fun e=>hne g rfl (by injection e)))];exact hc j x hx q v hv
theorem Fgs.keepR {w w':ZY} {A:Option Addr} {n:Nat} {L:List Fg} {rb:Nat} (h:Fgs w A n L) (hg:w.grownBy w' (Z rb)) (hne:0 < n->∀k,blk A=Z k->k < rb):Fgs w' A n L:=by
 by_cases h0:0 < n
 ·exact h.keepBlk hg (fun k hk=>Nat.ne_of_lt (hne h0 k hk))
 ·exact ⟨⟨h.1.1,h.1.2.1,fun h1=>absurd h1 h0⟩,h.2⟩
def RdS (Y:ZY) (rb:Nat) (A:Option Addr) (n c:Nat) (L:List Fg) (re lo:Int) (T:List (List UInt8)) (bad lost q:Bool) (wx:ZY):Prop :=
 Y.grownBy wx (Z rb)/\Fgs wx A n L/\∃l,Rd wx rb A n c re lo T bad l/\(l=lost∨l=(lost||q))
theorem zNT (rb:Nat) (A:Option Addr) (n c:Nat) (L:List Fg) (re lo:Int) (T:List (List UInt8)) (bad lost:Bool) (S:List UInt8) (w:ZY) (h:Rd w rb A n c re lo T bad lost) (hA:Fgs w A n L) (ft:0 < n->∀k,blk A=Z k->k < rb) :
  Calls ZX 160 #[.pointer (Z ⟨rb,0,U⟩),W (bA S)] w fun e w' =>
   (match zFL S with
    | some (f,r)=>e=.returned (.tuple #[D J (zAN L f:Int),W (bA r),G Q])/\Rd w' rb A n c re lo T bad (lost||decide (zAN L f=0))
    | none=>e=.returned (.tuple #[D J 0,W (bA S),G E])/\Rd w' rb A n c re lo T bad lost)/\w.grownBy w' (Z rb):=by
 by_cases h2:S.length < 2
 ·have hr:zFL S=U:=by
   match S,h2 with
   | [],_=>rfl
   | [x],_=>rfl
  rw [hr];have hs:=zBz S;have i0:(S.length:Int) < 2:=by omega
  go_enter Tryz.func160,Tryz.ntmps160;go_wp2_with fail
  go_ret3
  exact ⟨⟨rfl,h⟩,zBo _ _⟩
 ·obtain ⟨x,y,r,rfl⟩:∃x y r,S=x :: y :: r:=by
   match S,h2 with
   | [],h=>exact absurd (by simp) h
   | [x],h=>exact absurd (by simp) h
   | x :: y :: r,_=>exact ⟨x,y,r,rfl⟩
  have hs:=zBz (x :: y :: r);have i0:¬((x :: y :: r).length:Int) < 2:=by omega
  have t1:=zUL x y r;have t2:=zLK x y r;have j7:=zEz [x,y] w;clear h2
  cases hp:zGs [x,y] with
  | none =>
   have hr:zFL (x :: y :: r)=U:=by simp [zFL,hp]
   rw [hr];rw [hp] at j7;have fY:Hid (Calls ZX 166 #[W (bA [x,y])] w fun e w'=>e=.returned (.tuple #[.agg #[D J 0,G E,D J 0],D J 6])/\ZZ w.heap.size w w'):=qH j7;clear j7;go_enter Tryz.func160,Tryz.ntmps160;go_wp2_with fail
   refine fY.out.mono ?_;rintro e w2 ⟨rfl,ai⟩;go_wp2_with fail
   have al:ZZ w.heap.size w (w2.alloc (.cells #[D J 0,G E,D J 0] 90)):=ai.alloc ai.size _;go_ret3
   exact ⟨⟨rfl,h.below al⟩,zAA al⟩
  | some f =>
   rw [hp] at j7;have fY:Hid (Calls ZX 166 #[W (bA [x,y])] w fun e w'=>e=.returned (.tuple #[fgV f,D J 0])/\ZZ w.heap.size w w'):=qH j7;clear j7;by_cases h1:f.p=1
   ·have hr:zFL (x :: y :: r)=Z (f,r):=by simp [zFL,hp,h1]
    have HF:=qH (show zDA L [x,y]=zAN L f/\zKE [x,y]=E/\zEH L [x,y]=decide (zAN L f=0) by unfold zDA zKE zEH;rw [hp];exact ⟨rfl,rfl,rfl⟩);rw [hr];have k0:(f.p != 1)=E:=by simpa using h1
    clear hp hr h1;go_enter Tryz.func160,Tryz.ntmps160;go_wp2_with fail
    refine fY.out.mono ?_;rintro e w2 ⟨rfl,ai⟩;have al:ZZ w.heap.size w (w2.alloc (.cells #[D J f.p,G f.r,D J f.d] 90)):=ai.alloc ai.size _;go_wp2_with fail
    generalize w2.alloc (.cells #[D J f.p,G f.r,D J f.d] 90)=Y at al ⊢;have hY:RdS Y rb A n c L re lo T bad lost (decide (zAN L f=0)) Y:=⟨zBo _ _,hA.below al,lost,h.below al,.inl rfl⟩;have HY:=qH (show RdS Y rb A n c L re lo T bad lost (decide (zAN L f=0)) Y.drew from ⟨zAA (M _ _).drew,(hA.below al).below (M _ _).drew,lost,(h.below al).below (M _ _).drew,.inl rfl⟩)
    have HC:=qH (show ∀wx,RdS Y rb A n c L re lo T bad lost (decide (zAN L f=0)) wx->Calls ZX 128 #[.pointer (Z ⟨rb,0,U⟩),W (bA [x,y])] wx fun e w'=>e=.returned (D J (zAN L f:Int))/\Hid (Rd w' rb A n c re lo T bad (lost||decide (zAN L f=0)))/\RdS Y rb A n c L re lo T bad lost (decide (zAN L f=0)) w' from fun wx ⟨g1,g2,l,g3,g4⟩=>by
     refine (zFh rb A n c L re lo T bad l [x,y] wx g3 g2).mono ?_
     rintro e w' ⟨rfl,k1,k2⟩
     rw [HF.out.2.1,HF.out.2.2,Bool.or_false] at k1
     have hl2:(l||decide (zAN L f=0))=(lost||decide (zAN L f=0)):=by
      rcases g4 with rfl | rfl
      ·rfl
      ·cases lost<;>simp
     rw [hl2] at k1
     exact ⟨zGD (by rw [HF.out.1]),qH k1,zAb g1 k2,g2.keepR k2 ft,_,k1,.inr rfl⟩)
    first
     | go_region_held3 (fun wx=>RdS Y rb A n c L re lo T bad lost (decide (zAN L f=0)) wx) (first | assumption | exact HY.out)
       (first
        | (go_at_call 128;refine (HC.out _ (by assumption)).mono ?_;rintro e wa ⟨rfl,eH,hSa⟩))
     | fail
    all_goals
     have hgf:=And.left (show RdS Y rb A n c L re lo T bad lost (decide (zAN L f=0)) _ from by assumption);go_wp2_with fail
     go_ret3
     exact ⟨⟨rfl,eH.out⟩,zCW al hgf⟩
   ·have hr:zFL (x :: y :: r)=U:=by simp [zFL,hp,h1]
    rw [hr];have k0:(f.p != 1)=Q:=by simpa using h1
    clear hp hr h1;go_enter Tryz.func160,Tryz.ntmps160;go_wp2_with fail
    refine fY.out.mono ?_;rintro e w2 ⟨rfl,ai⟩;have al:ZZ w.heap.size w (w2.alloc (.cells #[D J f.p,G f.r,D J f.d] 90)):=ai.alloc ai.size _;go_wp2_with fail
    go_ret3
    exact ⟨⟨rfl,h.below al⟩,zAA al⟩
open Go
def zAI (c:UInt8):List UInt8->List (List UInt8)
 | []=>[[]]
 | b :: l=>if b=c then [] :: zAI c l else match zAI c l with
  | []=>[[b]]
  | p :: ps=>(b :: p) :: ps
theorem zFS (c:UInt8):∀l,zAI c l≠[]
 | []=>by simp [zAI]
 | b :: l=>by
  unfold zAI;split
  ·simp
  ·split<;>simp
theorem zFi (c:UInt8) (l:List UInt8):zAI c (c :: l)=[] :: zAI c l:=by rw [zAI,qP rfl]
theorem zCY {b c:UInt8} (h:b≠c) {l p:List UInt8} {ps:List (List UInt8)} (hl:zAI c l=p :: ps):zAI c (b :: l)=(b :: p) :: ps:=by
 rw [zAI,qN h,hl]
theorem zCt {c:UInt8} {r:List UInt8}:∀{h:List UInt8},c ∉ h->zAI c (h++c :: r)=h :: zAI c r
 | [],_=>zFi c r
 | b :: h,hc=>by
  have h1:c ∉ h:=fun e=>hc (List.mem_cons_of_mem _ e)
  have h2:b≠c:=fun e=>hc (by rw [e];exact List.mem_cons_self ..)
  rw [List.cons_append];exact zCY h2 (zCt h1)
theorem zDp {c:UInt8}:∀{h:List UInt8},c ∉ h->zAI c h=[h]
 | [],_=>rfl
 | b :: h,hc=>by
  have h1:c ∉ h:=fun e=>hc (List.mem_cons_of_mem _ e)
  have h2:b≠c:=fun e=>hc (by rw [e];exact List.mem_cons_self ..)
  exact zCY h2 (zDp h1)
theorem zGL (x y:List UInt8) (r:List (List UInt8)) (sep:List UInt8):Lib.join (x :: y :: r) sep=x++sep++Lib.join (y :: r) sep:=by
 rw [Lib.join_cons,Lib.join_cons];simp [Lib.joinTail]
theorem zDK {c:UInt8}:∀{ps:List (List UInt8)},ps≠[]->(∀p∈ps,c ∉ p)->zAI c (Lib.join ps [c])=ps
 | [],h,_=>absurd rfl h
 | [p],_,h=>by rw [Lib.join_one];exact zDp (h p (List.mem_cons_self ..))
 | p :: q :: r,_,h=>by
  rw [zGL,List.append_assoc,List.singleton_append,zCt (h p (List.mem_cons_self ..))];rw [zDK (by simp) (fun x hx=>h x (List.mem_cons_of_mem _ hx))]
theorem zKF (c:UInt8):∀l:List UInt8,Lib.join (zAI c l) [c]=l
 | []=>by rw [zAI,Lib.join_one]
 | b :: l=>by
  have ih:=zKF c l
  cases hs:zAI c l with
  | nil=>exact absurd hs (zFS c l)
  | cons p ps =>
   by_cases h:b=c
   ·subst h;rw [zFi,hs,zGL,<-hs,ih];rfl
   ·rw [zCY h hs];rw [hs] at ih;rw [Lib.join_cons] at ih ⊢;rw [List.cons_append,ih]
theorem zRR (c:UInt8):∀l:List UInt8,∀p∈zAI c l,c ∉ p
 | [],p,hp=>by simp [zAI] at hp;subst hp;simp
 | b :: l,p,hp=>by
  have ih:=zRR c l
  cases hs:zAI c l with
  | nil=>exact absurd hs (zFS c l)
  | cons q ps =>
   rw [hs] at ih;by_cases h:b=c
   ·subst h;rw [zFi,hs] at hp;rcases List.mem_cons.1 hp with rfl | hp
    ·simp
    ·exact ih p hp
   ·rw [zCY h hs] at hp;rcases List.mem_cons.1 hp with rfl | hp
    ·intro hm;rcases List.mem_cons.1 hm with rfl | hm
     ·exact h rfl
     ·exact ih q (List.mem_cons_self ..) hm
    ·exact ih p (List.mem_cons_of_mem _ hp)
theorem zEk (c:UInt8):∀l:List UInt8,(zAI c l).length=l.count c+1
 | []=>rfl
 | b :: l=>by
  have ih:=zEk c l
  cases hs:zAI c l with
  | nil=>exact absurd hs (zFS c l)
  | cons p ps =>
   by_cases h:b=c
   ·subst h;rw [zFi,List.length_cons,ih,List.count_cons_self]
   ·rw [zCY h hs,List.count_cons_of_ne (by simpa using h),<-ih,hs];rfl
theorem zAJ (c:UInt8):∀l:List UInt8,∀p∈zAI c l,p.length<=l.length
 | [],p,hp=>by simp [zAI] at hp;subst hp;simp
 | b :: l,p,hp=>by
  have ih:=zAJ c l
  cases hs:zAI c l with
  | nil=>exact absurd hs (zFS c l)
  | cons q ps =>
   rw [hs] at ih;by_cases h:b=c
   ·subst h;rw [zFi,hs] at hp;rcases List.mem_cons.1 hp with rfl | hp
    ·simp
    ·have:=ih p hp;simp only [List.length_cons];omega
   ·rw [zCY h hs] at hp;rcases List.mem_cons.1 hp with rfl | hp
    ·have:=ih q (List.mem_cons_self ..);simp only [List.length_cons];omega
    ·have:=ih p (List.mem_cons_of_mem _ hp);simp only [List.length_cons];omega
theorem zHk (c:UInt8):∀(k:Nat) (l:List UInt8),l.count c=k->Lib.splitK [c] 0 k l=zAI c l
 | 0,l,h=>by
  have hc:c ∉ l:=by rw [<-List.count_eq_zero];exact h
  rw [zDp hc];rfl
 | k+1,l,h=>by
  have hm:c∈l:=by rw [<-List.count_pos_iff];omega
  obtain ⟨a,b,rfl,hn⟩:∃a b,l=a++c :: b/\c ∉ a:=by
   clear h
   induction l with
   | nil=>cases hm
   | cons x l ih =>
    by_cases hx:x=c
    ·subst hx;exact ⟨[],l,rfl,by simp⟩
    ·have:c∈l:=by
      rcases List.mem_cons.1 hm with e | e
      ·exact absurd e.symm hx
      ·exact e
     obtain ⟨a,b,rfl,hn⟩:=ih this;exact ⟨x :: a,b,rfl,fun e=>by rcases List.mem_cons.1 e with e | e;exact hx e.symm;exact hn e⟩
  unfold Lib.splitK;rw [Lib.index_one,zPc hn];have hne:¬((a.length:Int)==-1)=Q:=fun e=>by have:=beq_iff_eq.1 e;omega
  rw [qN hne,zCt hn];have hk:b.count c=k:=by
   rw [List.count_append,List.count_cons_self,List.count_eq_zero.2 hn] at h;omega
  have e1:(a++c :: b).take ((a.length:Int).toNat+0)=a:=by simp
  have e2:(a++c :: b).drop ((a.length:Int).toNat + [c].length)=b:=by simp
  rw [e1,e2,zHk c k b hk]
theorem zLL (c:UInt8) (l:List UInt8):(Lib.splitB ⟨#[c]⟩ 0 (Lib.countB ⟨l.toArray⟩ ⟨#[c]⟩) ⟨l.toArray⟩)=(zAI c l).map (fun p=>(⟨p.toArray⟩:ByteArray)):=by
 have h:=Lib.splitB_data ⟨#[c]⟩ 0 (Lib.countB ⟨l.toArray⟩ ⟨#[c]⟩) ⟨l.toArray⟩;have hc:Lib.countB ⟨l.toArray⟩ ⟨#[c]⟩=l.count c:=by
  unfold Lib.countB;exact Lib.count_one c l
 rw [hc] at h ⊢;have h2:Lib.splitK [c] 0 (l.count c) l=zAI c l:=zHk c _ l rfl;have h3:(Lib.splitB ⟨#[c]⟩ 0 (l.count c) ⟨l.toArray⟩).map (·.data.toList)=zAI c l:=h.trans h2;rw [<-h3,List.map_map]
 conv=>lhs;rw [<-List.map_id (Lib.splitB ⟨#[c]⟩ 0 (l.count c) ⟨l.toArray⟩)]
 apply List.map_congr_left;intro x _
 cases x
 simp
def zAR (S:List UInt8):List (List UInt8):=if S.getLast? = Z 44 then [S.dropLast,[44]] else [S]
def zBw (S:List UInt8):List (List UInt8):=(zAI 32 S).flatMap zAR
theorem zCZ {S:List UInt8} (h:(44:UInt8) ∉ S):zAR S=[S]:=by
 unfold zAR;rw [qN (fun e=>h (List.mem_of_getLast? e))]
theorem zIB (S:List UInt8):zAR (S++[44])=[S,[44]]:=by simp [zAR]
theorem zBi (S:List UInt8):(zAR S=[S]/\S.getLast?≠Z 44)∨∃C,S=C++[44]/\zAR S=[C,[44]]:=by
 by_cases h:S.getLast? = Z 44
 ·obtain ⟨C,rfl⟩:=List.getLast?_eq_some_iff.1 h;exact .inr ⟨C,rfl,zIB C⟩
 ·exact .inl ⟨by simp [zAR,h],h⟩
def zCM:Bool->List (List UInt8)->Bool
 | _,[]=>Q
 | b,x :: r=>if x=[44] then b&&zCM E r else zCM Q r
theorem zPw (b:Bool) (x:List UInt8) (R:List (List UInt8)):zCM b (x :: [44] :: [44] :: R)=E:=by
 by_cases h:x=[44]
 ·simp [zCM,h]
 ·simp [zCM,h]
theorem zPx:∀{ws R:List (List UInt8)},ws.flatMap zAR=[44] :: R->∃ZP,R=[44] :: ZP
 | [],R,h=>by simp at h
 | w :: ws,R,h=>by
  rw [List.flatMap_cons] at h;rcases zBi w with ⟨e,hl⟩ | ⟨C,rfl,e⟩
  ·rw [e] at h;simp only [List.cons_append,List.nil_append,List.cons.injEq] at h;exact absurd (by rw [h.1];rfl) hl
  ·rw [e] at h;simp only [List.cons_append,List.nil_append,List.cons.injEq] at h;exact ⟨_,h.2.symm⟩
theorem zPy {w:List UInt8} (h:w.getLast?≠Z 44):w≠[44]:=fun e=>h (by rw [e];rfl)
theorem zPz:∀{us:List (List UInt8)},zCM Q (us.flatMap zAR)=Q->zCM E (us.flatMap zAR)=Q
 | [],_=>rfl
 | u :: us,h=>by
  rw [List.flatMap_cons] at h ⊢;rcases zBi u with ⟨e,hl⟩ | ⟨C,rfl,e⟩
  ·rw [e] at h ⊢;simp only [List.cons_append,List.nil_append,zCM,qN (zPy hl)] at h ⊢;exact h
  ·rw [e] at h ⊢;simp only [List.cons_append,List.nil_append] at h ⊢;by_cases hC:C=[44]
   ·subst hC;simp [zCM] at h
   ·simp only [zCM,qN hC] at h ⊢;exact h
theorem zHl:∀{ws us:List (List UInt8)},ws.flatMap zAR=us.flatMap zAR->zCM E (us.flatMap zAR)=Q->ws=us
 | [],[],_,_=>rfl
 | [],u :: us,h,_=>by
  rw [List.flatMap_cons] at h;rcases zBi u with ⟨e,_⟩ | ⟨C,_,e⟩<;>rw [e] at h<;>simp at h
 | w :: ws,[],h,_=>by
  rw [List.flatMap_cons] at h;rcases zBi w with ⟨e,_⟩ | ⟨C,_,e⟩<;>rw [e] at h<;>simp at h
 | w :: ws,u :: us,h,hc=>by
  rw [List.flatMap_cons,List.flatMap_cons] at h;rw [List.flatMap_cons] at hc;rcases zBi w with ⟨e1,l1⟩ | ⟨C,rfl,e1⟩<;>rcases zBi u with ⟨e2,l2⟩ | ⟨ZW,rfl,e2⟩<;>rw [e2] at hc<;>rw [e1,e2] at h<;>simp only [List.cons_append,List.nil_append,List.cons.injEq] at h hc
  ·obtain ⟨rfl,h⟩:=h;simp only [zCM,qN (zPy l1)] at hc;rw [zHl h (zPz hc)]
  ·obtain ⟨_,h⟩:=h;obtain ⟨ZP,hQ⟩:=zPx h;rw [hQ,zPw] at hc
   cases hc
  ·obtain ⟨_,h⟩:=h;obtain ⟨ZP,hQ⟩:=zPx h.symm;rw [<-h,hQ,zPw] at hc
   cases hc
  ·obtain ⟨rfl,_,h⟩:=h;by_cases hC:C=[44]
   ·subst hC;simp [zCM] at hc
   ·simp only [zCM,qN hC] at hc;rw [zHl h (by simpa using hc)]
def fineW (S:List UInt8):Prop:=∀b∈S,b≠32/\b≠44/\b≠10
def fineT (T:List (List UInt8)):Prop:=∀S∈T,fineW S
theorem fineW.no44 {S:List UInt8} (h:fineW S):(44:UInt8) ∉ S:=fun e=>(h _ e).2.1 rfl
theorem fineW.no32 {S:List UInt8} (h:fineW S):(32:UInt8) ∉ S:=fun e=>(h _ e).1 rfl
theorem fineW.ne {S:List UInt8} (h:fineW S):S≠[44]:=fun e=>h.no44 (by rw [e];simp)
theorem fineT.app {A B:List (List UInt8)} (h:fineT A) (k:fineT B):fineT (A++B):=fun S hS=>by
 rcases List.mem_append.1 hS with e | e
 ·exact h S e
 ·exact k S e
theorem fineT.cons {S:List UInt8} {B:List (List UInt8)} (h:fineW S) (k:fineT B):fineT (S :: B):=fun x hx=>by
 rcases List.mem_cons.1 hx with rfl | e
 ·exact h
 ·exact k x e
theorem fineT.nil:fineT []:=fun S h=>by simp at h
theorem zHm {A:List (List UInt8)} (R:List (List UInt8)) (h:fineT A) (hA:A≠[]) (b:Bool):zCM b (A++R)=zCM Q R:=by
 induction A generalizing b with
 | nil=>exact absurd rfl hA
 | cons x A ih =>
  have hx:=(h x (List.mem_cons_self ..)).ne;rw [List.cons_append,zCM,qN hx]
  cases A with
  | nil=>rfl
  | cons y A=>exact ih (fun S hS=>h S (List.mem_cons_of_mem _ hS)) (by simp) Q
def tag:List (List UInt8)->List (List UInt8)
 | []=>[]
 | [x]=>[x++[44]]
 | x :: y :: r=>x :: tag (y :: r)
theorem zMK:∀{A:List (List UInt8)},fineT A->A≠[]->(tag A).flatMap zAR=A++[[44]]
 | [],_,h=>absurd rfl h
 | [x],_,_=>by simp [tag,zIB]
 | x :: y :: r,h,_=>by
  have h2:fineT (y :: r):=fun S hS=>h S (List.mem_cons_of_mem _ hS)
  rw [tag,List.flatMap_cons,zMK h2 (by simp),zCZ (h x (List.mem_cons_self ..)).no44];rfl
def jt (A:List (List UInt8)):List UInt8:=A.flatMap (fun w=>32 :: w)
theorem zPA (A B:List (List UInt8)):jt (A++B)=jt A++jt B:=by simp [jt]
theorem zFT (x:List UInt8) (B:List (List UInt8)):jt (x :: B)=32 :: x++jt B:=by simp [jt]
theorem zTH:∀{A:List (List UInt8)},A≠[]->jt (tag A)=jt A++[44]
 | [],h=>absurd rfl h
 | [x],_=>by simp [tag,jt]
 | x :: y :: r,_=>by
  rw [tag,zFT,zTH (by simp),zFT x];simp
theorem zML:∀{A:List (List UInt8)},fineT A->∀p∈tag A,(32:UInt8) ∉ p
 | [],_,p,hp=>by simp [tag] at hp
 | [x],h,p,hp=>by
  simp only [tag,List.mem_singleton] at hp;subst hp;intro e;rcases List.mem_append.1 e with e | e
  ·exact (h x (List.mem_cons_self ..)).no32 e
  ·simp at e
 | x :: y :: r,h,p,hp=>by
  rw [tag] at hp;rcases List.mem_cons.1 hp with rfl | e
  ·exact (h p (List.mem_cons_self ..)).no32
  ·exact zML (A:=y :: r) (fun S hS=>h S (List.mem_cons_of_mem _ hS)) p e
theorem zUM (x:List UInt8) (r:List (List UInt8)):Lib.join (x :: r) [32]=x++jt r:=by
 rw [Lib.join_cons];unfold Lib.joinTail jt;rw [List.flatMap_def];rfl
structure Nst where
 f:Fg
 l:Int
 far:Bool
 pc:Int
structure Nop where
 kind:Int
 f:Fg
 fr:Option Nst
 path:List (Nst×Bool)
 over:Bool
def zCh (x:Nst):Prop:=zAn x.f=Q/\0<=x.l/\x.l<=999999999/\0<=x.pc/\x.pc<=999999999
def zGt (n:Nop):Prop :=
 (n.kind=1∨n.kind=2∨n.kind=8)/\n.fr=U/\n.path=[]/\n.over=E
 ∨ n.kind=4/\n.fr=U/\n.path=[]
 ∨ n.kind=3/\(∃x,n.fr=Z x/\zCh x)/\(∀y∈n.path,zCh y.1)/\n.over=E
 ∨ n.kind=5/\(∃x,n.fr=Z x/\zCh x)/\n.path=[]
 ∨ (n.kind=6∨n.kind=7)/\(∃f,n.fr=Z ⟨f,0,E,0⟩/\zAn f=Q)/\n.path=[]
def okN (n:Nop):Prop:=zAn n.f=Q/\zGt n
def sOf (L:List Fg) (x:Nst):Sg:=⟨zAN L x.f,x.l,x.far,x.pc⟩
def pOf (L:List Fg) (x:Nst×Bool):Sp:=⟨sOf L x.1,x.2⟩
def oOf (L:List Fg) (n:Nop):Og:=⟨n.kind,zAN L n.f,(n.fr.map (sOf L)).getD s0,n.path.map (pOf L),n.over⟩
def zBc (L:List Fg) (f:Fg):Bool:=decide (zAN L f=0)
def zAV (L:List Fg) (P:List (Nst×Bool)):Bool:=P.any fun x=>zBc L x.1.f
def zAy (L:List Fg) (n:Nop):Bool:=zBc L n.f||zAV L n.path||(match n.fr with | some x=>zBc L x.f | none=>E)
abbrev zAz:List UInt8:=[102,114,111,109]
abbrev zDD:List UInt8:=[119,105,116,104]
abbrev zBX:List UInt8:=[108,111,111,112]
abbrev zBd:List UInt8:=[112,105,101,99,101]
abbrev zRS:List UInt8:=[110,101,97,114]
abbrev zXS:List UInt8:=[102,97,114]
def zFj (ZO:List UInt8) (n:Int):List (List UInt8):=if n=0 then [] else [ZO,Lib.itoa n]
def plT (x:Nst):List (List UInt8):=[zAj x.f,zBH x.far]++zFj zBX x.l++zFj zBd x.pc
def stT (x:Nst×Bool):List (List UInt8):=zAx x.2 :: (plT x.1++[[44]])
def stW (x:Nst×Bool):List (List UInt8):=zAx x.2 :: tag (plT x.1)
def frT (n:Nop):List (List UInt8):=match n.fr with | some x=>plT x | none=>[]
def frN (n:Nop):List UInt8:=match n.fr with | some x=>zAj x.f | none=>[]
def tlT (n:Nop):List (List UInt8) :=
 if n.kind=4 then [zAx n.over]
 else if n.kind=3 then n.path.flatMap stT++zAz :: frT n
 else if n.kind=5 then zAz :: (frT n++[zAx n.over])
 else if n.kind=6 then [zAz,frN n,zAx n.over]
 else if n.kind=7 then [zDD,frN n,zAx n.over]
 else []
def tlW (n:Nop):List (List UInt8) :=
 if n.kind=4 then [zAx n.over]
 else if n.kind=3 then n.path.flatMap stW++zAz :: frT n
 else if n.kind=5 then zAz :: (frT n++[zAx n.over])
 else if n.kind=6 then [zAz,frN n,zAx n.over]
 else if n.kind=7 then [zDD,frN n,zAx n.over]
 else []
def zJm (n:Nop):List (List UInt8):=zAu n.kind :: zAj n.f :: tlT n
def zRT (n:Nop):List (List UInt8):=zAu n.kind :: zAj n.f :: tlW n
def zBY (n:Nop):List UInt8:=Lib.join (zRT n) [32]
theorem zCo {S:List UInt8} (h:(S.all fun b=>b != 32&&b != 44&&b != 10)=Q):fineW S:=fun b hb=>by
 have:=(List.all_eq_true.1 h) b hb;simpa [and_assoc] using this
theorem zDa (b:Bool):fineW (zAx b):=by cases b<;>exact zCo (by decide)
theorem zPB (b:Bool):fineW (zBH b):=by cases b<;>exact zCo (by decide)
theorem zFk (n:Int):fineW (Lib.itoa n):=fun b hb=>by
 have:=zMB b hb;refine ⟨?_,?_,?_⟩<;>(rintro rfl;simp at this)
theorem zDb (f:Fg):fineW (zAj f):=fun b hb=>by
 unfold zAj at hb;rcases List.mem_append.1 hb with h | h
 ·split at h
  ·simp at h
  ·exact zFk _ b h
 ·rcases List.mem_cons.1 h with h | h
  ·subst h;split<;>decide
  ·exact zFk _ b h
theorem zHn (k:Int):fineW (zAu k):=by
 unfold zAu
 repeat (split;· exact zCo (by decide))
 exact zCo (by decide)
theorem zMM {ZO:List UInt8} (h:fineW ZO) (n:Int):fineT (zFj ZO n):=by
 unfold zFj;split
 ·exact .nil
 ·exact .cons h (.cons (zFk n) .nil)
theorem zHo (x:Nst):fineT (plT x) :=
 ((fineT.cons (zDb _) (.cons (zPB _) .nil)).app (zMM (zCo (by decide)) _)).app (zMM (zCo (by decide)) _)
theorem zUN (x:Nst):plT x≠[]:=by simp [plT]
theorem zLM (n:Nop):fineT (frT n):=by
 unfold frT;split
 ·exact zHo _
 ·exact .nil
theorem zJn (n:Nop):fineW (frN n):=by
 unfold frN;split
 ·exact zDb _
 ·exact zCo (by decide)
theorem zRU (x:Nst×Bool):(stW x).flatMap zAR=stT x:=by
 rw [stW,List.flatMap_cons,zMK (zHo _) (zUN _),zCZ (zDa _).no44];rfl
theorem zDL {A:List (List UInt8)} (h:fineT A):A.flatMap zAR=A:=by
 induction A with
 | nil=>rfl
 | cons x A ih =>
  rw [List.flatMap_cons,ih (fun S hS=>h S (List.mem_cons_of_mem _ hS)),zCZ (h x (List.mem_cons_self ..)).no44];rfl
theorem zPC (P:List (Nst×Bool)):(P.flatMap stW).flatMap zAR=P.flatMap stT:=by
 induction P with
 | nil=>rfl
 | cons x P ih=>rw [List.flatMap_cons,List.flatMap_append,ih,zRU,List.flatMap_cons]
theorem zBO:fineW zAz:=zCo (by decide)
theorem zHp:fineW zDD:=zCo (by decide)
theorem zUO (n:Nop):(tlW n).flatMap zAR=tlT n:=by
 have hf:=zLM n;have hn:=zJn n;have ho:=zDa n.over;unfold tlW tlT;split
 ·exact zDL (.cons ho .nil)
 split
 ·rw [List.flatMap_append,zPC,zDL (.cons zBO hf)]
 split
 ·exact zDL (.cons zBO (hf.app (.cons ho .nil)))
 split
 ·exact zDL (.cons zBO (.cons hn (.cons ho .nil)))
 split
 ·exact zDL (.cons zHp (.cons hn (.cons ho .nil)))
 ·rfl
theorem zJo (n:Nop):(zRT n).flatMap zAR=zJm n:=by
 rw [zRT,List.flatMap_cons,List.flatMap_cons,zUO,zCZ (zHn _).no44,zCZ (zDb _).no44];rfl
theorem zPD (P:List (Nst×Bool)) (b:Bool) (R:List (List UInt8)) (h:∀b,zCM b R=Q):zCM b (P.flatMap stT++R)=Q:=by
 induction P generalizing b with
 | nil=>exact h b
 | cons x P ih =>
  have e:(x :: P).flatMap stT++R=(zAx x.2 :: plT x.1)++([44] :: (P.flatMap stT++R)):=by simp [stT]
  rw [e,zHm _ (.cons (zDa _) (zHo _)) (by simp),zCM,qP rfl,ih];rfl
theorem zFl {A:List (List UInt8)} (h:fineT A) (hA:A≠[]) (b:Bool):zCM b A=Q:=by
 have:=zHm [] h hA b;rw [List.append_nil] at this;rw [this];rfl
theorem zRV (n:Nop):zCM E (zJm n)=Q:=by
 have hf:=zLM n;have hn:=zJn n;have ho:=zDa n.over;have h2:fineT [zAu n.kind,zAj n.f]:=.cons (zHn _) (.cons (zDb _) .nil);rw [zJm,show zAu n.kind :: zAj n.f :: tlT n=[zAu n.kind,zAj n.f]++tlT n from rfl,zHm _ h2 (by simp)];unfold tlT;split
 ·exact zFl (.cons ho .nil) (by simp) _
 split
 ·exact zPD _ _ _ fun b=>zFl (.cons zBO hf) (by simp) b
 split
 ·exact zFl (.cons zBO (hf.app (.cons ho .nil))) (by simp) _
 split
 ·exact zFl (.cons zBO (.cons hn (.cons ho .nil))) (by simp) _
 split
 ·exact zFl (.cons zHp (.cons hn (.cons ho .nil))) (by simp) _
 ·rfl
theorem zPE (P:List (Nst×Bool)):∀p∈P.flatMap stW,(32:UInt8) ∉ p:=fun p hp=>by
 obtain ⟨x,_,h⟩:=List.mem_flatMap.1 hp;rcases List.mem_cons.1 h with rfl | h
 ·exact (zDa _).no32
 ·exact zML (zHo _) p h
theorem zDM {A:List (List UInt8)} (h:fineT A):∀p∈A,(32:UInt8) ∉ p:=fun p hp=>(h p hp).no32
theorem zMN (n:Nop):∀p∈zRT n,(32:UInt8) ∉ p:=by
 have hf:=zLM n;have hn:=zJn n;have ho:=zDa n.over;have ht:∀p∈tlW n,(32:UInt8) ∉ p:=by
  unfold tlW;split
  ·exact zDM (.cons ho .nil)
  split
  ·intro p hp;rcases List.mem_append.1 hp with h | h
   ·exact zPE _ p h
   ·exact zDM (.cons zBO hf) p h
  split
  ·exact zDM (.cons zBO (hf.app (.cons ho .nil)))
  split
  ·exact zDM (.cons zBO (.cons hn (.cons ho .nil)))
  split
  ·exact zDM (.cons zHp (.cons hn (.cons ho .nil)))
  ·intro p hp;simp at hp
 intro p hp;rcases List.mem_cons.1 hp with rfl | hp
 ·exact (zHn _).no32
 ·rcases List.mem_cons.1 hp with rfl | hp
  ·exact (zDb _).no32
  ·exact ht p hp
theorem zDc (n:Nop):zBw (zBY n)=zJm n:=by
 unfold zBw zBY;rw [zDK (by simp [zRT]) (zMN n),zJo]
theorem zJp {S:List UInt8} {n:Nop} (h:zBw S=zJm n):S=zBY n:=by
 unfold zBw at h;rw [<-zJo] at h;have:=zHl h (by rw [zJo];exact zRV n);unfold zBY;rw [<-this,zKF]
def zHZ (b:UInt8):Bool:=decide (48<=b.toNat)&&decide (b.toNat<=57)
def zGG (a:Nat) (S:List UInt8):Nat:=S.foldl (fun a b=>10*a+(b.toNat-48)) a
def zAs (S:List UInt8):Int×Bool:=if S≠[]/\S.length<=9/\S.head?≠Z 48/\S.all zHZ=Q then ((zGG 0 S:Nat),Q) else (0,E)
theorem zGM (a:Nat) (S:List UInt8) (b:UInt8):zGG a (S++[b])=10*zGG a S+(b.toNat-48):=by simp [zGG,List.foldl_append]
theorem zFm {b:UInt8} (h:zHZ b=Q):48<=b.toNat/\b.toNat<=57:=by simpa [zHZ] using h
theorem zPF {b:UInt8} {d:Nat} (h:b.toNat=48+d):UInt8.ofNat (48+d)=b:=by rw [<-h];exact UInt8.ofNat_toNat
theorem zPG:∀(n:Nat) {S:List UInt8},S.length=n->S≠[]->S.head?≠Z 48->S.all zHZ=Q->Lib.decDigits (zGG 0 S)=S/\1<=zGG 0 S/\zGG 0 S < 10 ^ n
 | 0,S,hn,h0,_,_=>absurd (List.length_eq_zero_iff.1 hn) h0
 | n+1,S,hn,h0,h1,h2=>by
  obtain ⟨I,b,rfl⟩:∃I b,S=I++[b]:=⟨S.dropLast,S.getLast h0,(List.dropLast_concat_getLast h0).symm⟩
  rw [List.all_append,Bool.and_eq_true] at h2;have hb:=zFm (by simpa using h2.2);rw [zGM];by_cases hI:I=[]
  ·subst hI
   have ah:b.toNat≠48:=fun e=>h1 (by
    have:b=48:=UInt8.toNat.inj e
    rw [this];rfl)
   have qr:n=0:=by simpa using hn.symm
   subst qr;refine ⟨?_,?_,?_⟩
   ·rw [show 10*zGG 0 []+(b.toNat-48)=b.toNat-48 from by simp [zGG],Lib.decDigits_one (by omega),zPF (b:=b) (by omega)];rfl
   ·simp [zGG];omega
   ·simp [zGG];omega
  ·have hnI:I.length=n:=by simpa using hn
   obtain ⟨k1,k2,k3⟩:=zPG n hnI hI (by cases I with | nil=>exact absurd rfl hI | cons x I=>simpa using h1) h2.1;refine ⟨?_,by omega,?_⟩
   ·rw [Lib.decDigits,dif_neg (by omega),show (10*zGG 0 I+(b.toNat-48)) / 10=zGG 0 I by omega,k1,show (10*zGG 0 I+(b.toNat-48)) % 10=b.toNat-48 by omega,zPF (b:=b) (by omega)]
   ·rw [Nat.pow_succ];omega
theorem zCB {S:List UInt8} {n:Int} (h:zAs S=(n,Q)):S=Lib.itoa n/\1<=n/\n<=999999999:=by
 unfold zAs at h;split at h
 ·rename_i hc;obtain ⟨h1,h2,h3,h4⟩:=hc;obtain ⟨k1,k2,k3⟩:=zPG S.length rfl h1 h3 h4;have hn:((zGG 0 S:Nat):Int)=n:=congrArg Prod.fst h;have hp:10 ^ S.length<=10 ^ 9:=Nat.pow_le_pow_right (by omega) h2;refine ⟨?_,by omega,by omega⟩;rw [<-hn];unfold Lib.itoa;rw [qN (by omega),Int.toNat_natCast,k1]
 ·have:=congrArg Prod.snd h;simp at this
theorem zPH:∀(k:Nat) {u:Nat},u < 10 ^ (k+1)->(Lib.decDigits u).length<=k+1
 | 0,u,h=>by rw [Lib.decDigits_one (by omega)];simp
 | k+1,u,h=>by
  rw [Lib.decDigits];split
  ·simp
  ·have:=zPH k (u:=u / 10) (by rw [Nat.pow_succ] at h;omega);simp;omega
theorem zRW {u:Nat} (h:1<=u):(Lib.decDigits u).head?≠Z 48:=by
 induction u using Nat.strongRecOn with
 | _ u ih =>
  rw [Lib.decDigits];split
  ·rename_i h1;intro e;have:=zJk (a:=48+u) (b:=48) (by omega) (by omega) (by simpa using e);omega
  ·rename_i h1;have:=ih (u / 10) (by omega) (by omega);rw [List.head?_append]
   cases hd:(Lib.decDigits (u / 10)).head? with
   | none=>exact absurd (List.head?_eq_none_iff.1 hd) (zGp _)
   | some x=>rw [hd] at this;simpa using this
theorem zUP (u:Nat):zGG 0 (Lib.decDigits u)=u:=by
 induction u using Nat.strongRecOn with
 | _ u ih =>
  rw [Lib.decDigits];split
  ·rename_i h;simp only [zGG,List.foldl];rw [zFa h];omega
  ·rename_i h;rw [zGM,ih (u / 10) (by omega),zFa (by omega)];omega
theorem zFU {n:Int} (h1:1<=n) (h2:n<=999999999):zAs (Lib.itoa n)=(n,Q):=by
 obtain ⟨u,rfl⟩:=Int.eq_ofNat_of_zero_le (by omega:0<=n);have hi:Lib.itoa (u:Int)=Lib.decDigits u:=by unfold Lib.itoa;rw [qN (by omega)];simp
 have ha:(Lib.decDigits u).all zHZ=Q:=by
  rw [List.all_eq_true];intro b hb;have:=zDl u b hb;simp [zHZ,this]
 unfold zAs;rw [hi,qP ⟨zGp u,zPH 8 (by omega),zRW (by omega),ha⟩,zUP]
structure RS where
 T:List (List UInt8)
 bad:Bool
 lost:Bool
def RS.next (s:RS):RS:=⟨s.T.tail,s.bad||s.T.isEmpty,s.lost⟩
def RS.is (s:RS) (ZO:List UInt8):RS:=⟨isT s.T ZO,s.bad,s.lost⟩
noncomputable def RS.fing (s:RS) (L:List Fg) (S:List UInt8):RS:=⟨s.T,s.bad||zKE S,s.lost||zEH L S⟩
def RS.mark (s:RS) (b:Bool):RS:=⟨s.T,s.bad||b,s.lost⟩
def RS.over (s:RS):RS:=s.next.mark (!(ovT (xa s.T 0)||unT (xa s.T 0)))
def RS.must (s:RS) (ZO:List UInt8):RS:=if s.bad then s else (s.is ZO).mark (!isB s.T ZO)
def zEU (ZO:List UInt8) (s:RS):Int×RS :=
 if isB s.T ZO then ((zAs (xa (isT s.T ZO) 0)).1,(s.is ZO).next.mark (!(zAs (xa (isT s.T ZO) 0)).2)) else (0,s)
def neT (S:List UInt8):Bool:=S==zRS
def faT (S:List UInt8):Bool:=S==zXS
noncomputable def zDB (L:List Fg) (s:RS):RS:=((s.next.fing L (xa s.T 0)).next).mark (!(neT (xa s.T.tail 0)||faT (xa s.T.tail 0)))
noncomputable def zAQ (L:List Fg) (s:RS):Sg×RS :=
 (⟨zDA L (xa s.T 0),(zEU zBX (zDB L s)).1,faT (xa s.T.tail 0),(zEU zBd (zEU zBX (zDB L s)).2).1⟩,(zEU zBd (zEU zBX (zDB L s)).2).2)
noncomputable def zLk (L:List Fg) (s:RS):Sp×RS:=(⟨(zAQ L s.over).1,ovT (xa s.T 0)⟩,(zAQ L s.over).2.must [44])
noncomputable def zDN (L:List Fg):Nat->RS->List Sp->(List Sp×Sg)×RS
 | 0,s,P=>((P,s0),s)
 | n+1,s,P =>
  if isB s.T zAz then ((P,(zAQ L (s.is zAz)).1),(zAQ L (s.is zAz)).2)
  else if (zLk L s).2.bad then ((P++[(zLk L s).1],s0),(zLk L s).2) else zDN L n (zLk L s).2 (P++[(zLk L s).1])
def zBI (v:List UInt8):Int :=
 if v=zAu 1 then 1 else if v=zAu 2 then 2 else if v=zAu 3 then 3 else if v=zAu 4 then 4 else if v=zAu 5 then 5 else if v=zAu 6 then 6 else if v=zAu 7 then 7 else if v=zAu 8 then 8 else 0
noncomputable def zFn (L:List Fg) (s:RS):RS:=((s.next.mark (decide (zBI (xa s.T 0)=0))).next).fing L (xa s.T.tail 0)
noncomputable def zBP (L:List Fg) (k f:Int) (s:RS):Og×RS :=
 if k=4 then (⟨k,f,s0,[],ovT (xa s.T 0)⟩,s.over)
 else if k=3 then (⟨k,f,(zDN L (s.T.length+1) s []).1.2,(zDN L (s.T.length+1) s []).1.1,E⟩,(zDN L (s.T.length+1) s []).2)
 else if k=5 then (⟨k,f,(zAQ L (s.must zAz)).1,[],ovT (xa (zAQ L (s.must zAz)).2.T 0)⟩,(zAQ L (s.must zAz)).2.over)
 else if k=6 then (⟨k,f,⟨zDA L (xa (s.must zAz).T 0),0,E,0⟩,[],ovT (xa (s.must zAz).T.tail 0)⟩,((s.must zAz).next.fing L (xa (s.must zAz).T 0)).over)
 else if k=7 then (⟨k,f,⟨zDA L (xa (s.must zDD).T 0),0,E,0⟩,[],ovT (xa (s.must zDD).T.tail 0)⟩,((s.must zDD).next.fing L (xa (s.must zDD).T 0)).over)
 else (⟨k,f,s0,[],E⟩,s)
noncomputable def opR (L:List Fg) (s:RS):Og×RS:=zBP L (zBI (xa s.T 0)) (zDA L (xa s.T.tail 0)) (zFn L s)
theorem zDO {s:RS} (h:s.next.bad=E):s.bad=E/\∃x T,s.T=x :: T/\xa s.T 0=x/\s.next=⟨T,E,s.lost⟩:=by
 obtain ⟨T,bad,lost⟩:=s
 cases T with
 | nil=>simp [RS.next] at h
 | cons x T =>
  have hb:bad=E:=by simpa [RS.next] using h
  exact ⟨hb,x,T,rfl,rfl,by simp [RS.next,hb]⟩
theorem zJq {s:RS} {L:List Fg} {S:List UInt8} (h:(s.fing L S).bad=E) :
  s.bad=E/\∃f,zAn f=Q/\zAj f=S/\zDA L S=zAN L f/\s.fing L S=⟨s.T,E,s.lost||zBc L f⟩:=by
 unfold RS.fing zKE zEH at h ⊢;simp only [Bool.or_eq_false_iff] at h
 cases hp:zGs S with
 | none=>rw [hp] at h;simp at h
 | some f =>
  rw [hp] at h;obtain ⟨k1,k2⟩:=zLI hp;refine ⟨h.1,f,k1,k2,by unfold zDA;rw [hp],?_⟩;simp only [h.1];rfl
theorem zEI (L:List Fg) {f:Fg} (hf:zAn f=Q) (T:List (List UInt8)) (lost:Bool):(RS.mk T E lost).fing L (zAj f)=⟨T,E,lost||zBc L f⟩/\zDA L (zAj f)=zAN L f:=by
 have hp:=zCA hf rfl;unfold RS.fing zKE zEH zDA;rw [hp];exact ⟨rfl,rfl⟩
theorem zHq {s:RS} {b:Bool} (h:(s.mark b).bad=E):s.bad=E/\b=E/\s.mark b=s:=by
 obtain ⟨T,bad,lost⟩:=s;unfold RS.mark at h ⊢;simp only [Bool.or_eq_false_iff] at h;obtain ⟨rfl,rfl⟩:=h;exact ⟨rfl,rfl,rfl⟩
theorem zYg (S:List UInt8) (h:(!(ovT S||unT S))=E):S=zAx (ovT S):=by
 simp only [Bool.not_eq_false',Bool.or_eq_true] at h;rcases h with h | h
 ·rw [h];exact (show S=[111,118,101,114] by simpa [ovT] using h)
 ·have h2:S=[117,110,100,101,114]:=by simpa [unT] using h
  subst h2;rfl
theorem zLN (b:Bool):ovT (zAx b)=b/\(!(ovT (zAx b)||unT (zAx b)))=E:=by cases b<;>decide
theorem zUQ (S:List UInt8) (h:(!(neT S||faT S))=E):S=zBH (faT S):=by
 simp only [Bool.not_eq_false',Bool.or_eq_true] at h;rcases h with h | h
 ·have h2:S=zRS:=by simpa [neT] using h
  subst h2;rfl
 ·rw [h];exact (show S=zXS by simpa [faT] using h)
theorem zHr (b:Bool):faT (zBH b)=b/\(!(neT (zBH b)||faT (zBH b)))=E:=by cases b<;>decide
theorem zHs {s:RS} (h:s.over.bad=E):s.bad=E/\∃T,s.T=zAx (ovT (xa s.T 0)) :: T/\s.over=⟨T,E,s.lost⟩:=by
 unfold RS.over at h ⊢;obtain ⟨h1,h2,h3⟩:=zHq h;obtain ⟨k1,x,T,k2,k3,k4⟩:=zDO h1;rw [h3,k4];exact ⟨k1,T,by rw [<-zYg _ h2,k3,k2],rfl⟩
theorem zDq (b:Bool) (T:List (List UInt8)) (lost:Bool):(RS.mk (zAx b :: T) E lost).over=⟨T,E,lost⟩/\ovT (xa (zAx b :: T) 0)=b:=by
 have:=zLN b;unfold RS.over RS.next RS.mark;simp only [show xa (zAx b :: T) 0=zAx b from rfl,this.2,List.tail_cons,List.isEmpty_cons,Bool.or_false];exact ⟨trivial,this.1⟩
theorem zUR {T:List (List UInt8)} {ZO:List UInt8} (h:isB T ZO=Q):T=ZO :: isT T ZO:=by
 cases T with
 | nil=>simp [isB] at h
 | cons x T =>
  have:x=ZO:=by simpa [isB] using h
  subst this;rw [zFR]
theorem zJr {s:RS} {ZO:List UInt8} (h:(s.must ZO).bad=E):s.bad=E/\∃T,s.T=ZO :: T/\s.must ZO=⟨T,E,s.lost⟩:=by
 unfold RS.must at h ⊢
 cases hb:s.bad with
 | true=>rw [qP hb,hb] at h;cases h
 | false =>
  rw [qN (by rw [hb];simp)] at h;obtain ⟨_,h2,h3⟩:=zHq h;have hi:isB s.T ZO=Q:=by simpa using h2
  refine ⟨rfl,isT s.T ZO,zUR hi,?_⟩;rw [qN (by simp),h3];unfold RS.is;rw [hb]
theorem zJs (ZO:List UInt8) (T:List (List UInt8)) (lost:Bool):(RS.mk (ZO :: T) E lost).must ZO=⟨T,E,lost⟩:=by
 unfold RS.must RS.mark RS.is;simp only [zJl,zFR];rfl
theorem zTI {ZO:List UInt8} {s:RS} (h:(zEU ZO s).2.bad=E):s.bad=E/\(zEU ZO s).2.lost=s.lost/\0<=(zEU ZO s).1/\(zEU ZO s).1<=999999999/\s.T=zFj ZO (zEU ZO s).1++(zEU ZO s).2.T:=by
 unfold zEU at h ⊢
 cases hb:isB s.T ZO with
 | false =>
  rw [hb] at h;simp only [Bool.false_eq_true,if_false] at h ⊢;exact ⟨h,trivial,by omega,by omega,by simp [zFj]⟩
 | true =>
  rw [hb] at h;simp only [if_true] at h ⊢;obtain ⟨h1,h2,h3⟩:=zHq h;obtain ⟨k1,x,T,k2,k3,k4⟩:=zDO h1;rw [h3,k4];have hT:isT s.T ZO=x :: T:=k2;have hxa:xa (isT s.T ZO) 0=x:=by rw [hT];rfl
  rw [hxa] at h2 ⊢
  obtain ⟨c1,c2,c3⟩:=zCB (S:=x) (n:=(zAs x).1) (by
   have:(zAs x).2=Q:=by simpa using h2
   rw [<-this])
  refine ⟨k1,rfl,by omega,by omega,?_⟩;have:=zUR hb;rw [hT] at this;rw [this,zFj,qN (by omega),<-c1];rfl
theorem zTJ (ZO:List UInt8) {n:Int} (h0:0<=n) (h1:n<=999999999) (T:List (List UInt8)) (lost:Bool) (hT:T.head?≠Z ZO):zEU ZO (RS.mk (zFj ZO n++T) E lost)=(n,⟨T,E,lost⟩):=by
 unfold zEU zFj;by_cases e:n=0
 ·subst e;have:isB T ZO=E:=by simp [isB,hT]
  simp [this]
 ·rw [qN e];have hc:=zFU (n:=n) (by omega) h1;simp only [List.cons_append,List.nil_append,zJl,zFR,if_true];rw [show xa (Lib.itoa n :: T) 0=Lib.itoa n from rfl,hc];unfold RS.mark RS.next RS.is;simp [zFR]
theorem zJt {L:List Fg} {s:RS} (h:(zAQ L s).2.bad=E) :
  s.bad=E/\∃x:Nst,zCh x/\s.T=plT x++(zAQ L s).2.T/\(zAQ L s).1=sOf L x/\(zAQ L s).2.lost=(s.lost||zBc L x.f):=by
 unfold zAQ at h ⊢;simp only at h ⊢;obtain ⟨a1,a2,a3,a4,a5⟩:=zTI h;obtain ⟨b1,b2,b3,b4,b5⟩:=zTI a1;generalize (zEU zBd (zEU zBX (zDB L s)).2).1=pc at a3 a4 a5 ⊢;generalize (zEU zBd (zEU zBX (zDB L s)).2).2=s6 at a2 a5 ⊢;generalize (zEU zBX (zDB L s)).1=lo at b3 b4 b5 ⊢;generalize (zEU zBX (zDB L s)).2=s5 at a2 a5 b2 b5;unfold zDB at b1 b2 b5;obtain ⟨c1,c2,c3⟩:=zHq b1;rw [c3] at b2 b5;obtain ⟨d1,y,T2,d2,d3,d4⟩:=zDO c1;rw [d4] at b2 b5;obtain ⟨e1,f,e2,e3,e4,e5⟩:=zJq d1;rw [e5] at d2 b2;simp only at d2 b2 b5;obtain ⟨f1,x,T1,f2,f3,f4⟩:=zDO e1;rw [f4] at d2 b2;simp only at d2 b2;have hx:xa s.T.tail 0=y:=by rw [f2,List.tail_cons,d2];rfl
 have hs:=zUQ _ c2;refine ⟨f1,⟨f,lo,faT (xa s.T.tail 0),pc⟩,⟨e2,b3,b4,a3,a4⟩,?_,?_,?_⟩
 ·have hside:zBH (faT (xa s.T.tail 0))=y:=by rw [<-hs,hx]
  unfold plT;simp only;rw [hside,e3,f3,f2,d2,b5,a5];simp
 ·unfold sOf;simp only [e4]
 ·rw [a2,b2]
theorem zJu (L:List Fg) {x:Nst} (h:zCh x) (T:List (List UInt8)) (lost:Bool) (h1:T.head?≠Z zBX) (h2:T.head?≠Z zBd) :
  zAQ L (RS.mk (plT x++T) E lost)=(sOf L x,⟨T,E,lost||zBc L x.f⟩):=by
 obtain ⟨k1,k2,k3,k4,k5⟩:=h;obtain ⟨p1,p2⟩:=zEI L k1 (zBH x.far :: (zFj zBX x.l++(zFj zBd x.pc++T))) lost;have hS:zDB L (RS.mk (plT x++T) E lost)=⟨zFj zBX x.l++(zFj zBd x.pc++T),E,lost||zBc L x.f⟩:=by
  unfold zDB plT;simp only [List.cons_append,List.nil_append,List.append_assoc,RS.next,List.tail_cons,List.isEmpty_cons,Bool.or_false];rw [show xa (zAj x.f :: zBH x.far :: (zFj zBX x.l++(zFj zBd x.pc++T))) 0=zAj x.f from rfl,p1];rw [show xa (zBH x.far :: (zFj zBX x.l++(zFj zBd x.pc++T))) 0=zBH x.far from rfl,(zHr x.far).2];simp [RS.mark]
 have hh:(zFj zBd x.pc++T).head?≠Z zBX:=by
  unfold zFj;split
  ·exact h1
  ·simp
 have n1:=zTJ zBX k2 k3 (zFj zBd x.pc++T) (lost||zBc L x.f) hh;have n2:=zTJ zBd k4 k5 T (lost||zBc L x.f) h2;unfold zAQ;rw [hS,n1];simp only;rw [n2];simp only [plT,List.cons_append,List.nil_append,List.append_assoc,List.tail_cons];rw [show xa (zAj x.f :: zBH x.far :: (zFj zBX x.l++(zFj zBd x.pc++T))) 0=zAj x.f from rfl,p2];rw [show xa (zBH x.far :: (zFj zBX x.l++(zFj zBd x.pc++T))) 0=zBH x.far from rfl,(zHr x.far).1];rfl
theorem zTK {L:List Fg} {s:RS} (h:(zLk L s).2.bad=E) :
  s.bad=E/\∃x:Nst×Bool,zCh x.1/\s.T=stT x++(zLk L s).2.T/\(zLk L s).1=pOf L x/\(zLk L s).2.lost=(s.lost||zBc L x.1.f):=by
 unfold zLk at h ⊢;simp only at h ⊢;obtain ⟨a1,T,a2,a3⟩:=zJr h;obtain ⟨b1,x,b2,b3,b4,b5⟩:=zJt a1;obtain ⟨c1,T1,c2,c3⟩:=zHs b1;have b3':T1=plT x++(zAQ L s.over).2.T:=by rw [<-b3,c3]
 have b5':(zAQ L s.over).2.lost=(s.lost||zBc L x.f):=by rw [b5,c3]
 refine ⟨c1,(x,ovT (xa s.T 0)),b2,?_,?_,?_⟩
 ·rw [a3,stT,List.cons_append,List.append_assoc,List.singleton_append,<-a2,<-b3'];exact c2
 ·rw [b4];rfl
 ·rw [a3,b5']
theorem zWD (L:List Fg) {x:Nst×Bool} (h:zCh x.1) (T:List (List UInt8)) (lost:Bool) :
  zLk L (RS.mk (stT x++T) E lost)=(pOf L x,⟨T,E,lost||zBc L x.1.f⟩):=by
 obtain ⟨p1,p2⟩:=zDq x.2 (plT x.1++([44] :: T)) lost;have hT:stT x++T=zAx x.2 :: (plT x.1++([44] :: T)):=by simp [stT]
 have q:=zJu L h ([44] :: T) lost (by simp) (by simp);unfold zLk;rw [hT,p1,q];simp only;rw [zJs,p2];rfl
theorem zPI (L:List Fg):∀(n:Nat) {s:RS} {P:List Sp},s.T.length < n->(zDN L n s P).2.bad=E ->
  s.bad=E/\∃(ZP:List (Nst×Bool)) (x:Nst),(∀y∈ZP,zCh y.1)/\zCh x/\s.T=ZP.flatMap stT++zAz :: plT x++(zDN L n s P).2.T /\
   (zDN L n s P).1=(P++ZP.map (pOf L),sOf L x)/\(zDN L n s P).2.lost=(s.lost||zAV L ZP||zBc L x.f)
 | 0,s,P,hn,_=>absurd hn (by omega)
 | n+1,s,P,hn,h=>by
  rw [zDN] at h ⊢
  cases hb:isB s.T zAz with
  | true =>
   rw [hb] at h;simp only [if_true] at h ⊢;obtain ⟨a1,x,a2,a3,a4,a5⟩:=zJt h;refine ⟨a1,[],x,by simp,a2,?_,by rw [a4];simp,by rw [a5];simp [zAV,RS.is]⟩;have h1:=zUR hb;rw [h1,show isT s.T zAz=plT x++(zAQ L (s.is zAz)).2.T from a3];simp
  | false =>
   rw [hb] at h;simp only [Bool.false_eq_true,if_false] at h ⊢
   cases hs:(zLk L s).2.bad with
   | true =>
    rw [hs] at h;simp only [if_true] at h;rw [hs] at h;cases h
   | false =>
    rw [hs] at h;simp only [Bool.false_eq_true,if_false] at h ⊢;obtain ⟨a1,x,a2,a3,a4,a5⟩:=zTK hs;have hl:(zLk L s).2.T.length < n:=by
     have:=congrArg List.length a3;simp [stT] at this;omega
    obtain ⟨b1,ZP,y,b2,b3,b4,b5,b6⟩:=zPI L n hl h;refine ⟨a1,x :: ZP,y,fun z hz=>?_,b3,?_,?_,?_⟩
    ·rcases List.mem_cons.1 hz with rfl | hz
     ·exact a2
     ·exact b2 z hz
    ·rw [a3,b4];simp
    ·rw [b5,a4];simp
    ·rw [b6,a5];simp only [zAV,List.any_cons,Bool.or_assoc]
theorem zPJ (L:List Fg) {x:Nst} (hx:zCh x):∀(n:Nat) (ZP:List (Nst×Bool)) (P:List Sp) (lost:Bool),(∀y∈ZP,zCh y.1)->ZP.length < n ->
  zDN L n (RS.mk (ZP.flatMap stT++zAz :: plT x) E lost) P=((P++ZP.map (pOf L),sOf L x),⟨[],E,lost||zAV L ZP||zBc L x.f⟩)
 | 0,ZP,P,lost,_,hn=>absurd hn (by omega)
 | n+1,[],P,lost,_,_=>by
  rw [zDN];have q:=zJu L hx [] lost (by simp) (by simp);rw [List.append_nil] at q;simp only [List.flatMap_nil,List.nil_append,zJl,if_true,RS.is,zFR];rw [q];simp [zAV]
 | n+1,y :: ZP,P,lost,h,hn=>by
  rw [zDN,List.flatMap_cons,List.append_assoc];have hy:=h y (List.mem_cons_self ..);have q:=zWD L hy (ZP.flatMap stT++zAz :: plT x) lost;have hb:isB (stT y++(ZP.flatMap stT++zAz :: plT x)) zAz=E:=by
   rw [stT,List.cons_append];exact zTG _ (by cases y.2<;>decide)
  simp only [hb,Bool.false_eq_true,if_false];rw [q];simp only [Bool.false_eq_true,if_false];rw [zPJ L hx n ZP _ _ (fun z hz=>h z (List.mem_cons_of_mem _ hz)) (by simpa using hn)];simp [zAV,Bool.or_assoc]
theorem zCC {k:Int} (h1:1<=k) (h8:k<=8):zBI (zAu k)=k:=by
 have hk:k=1∨k=2∨k=3∨k=4∨k=5∨k=6∨k=7∨k=8:=by omega
 rcases hk with rfl | rfl | rfl | rfl | rfl | rfl | rfl | rfl<;>decide
theorem zHt {v:List UInt8} (h:zBI v≠0):1<=zBI v/\zBI v<=8/\v=zAu (zBI v):=by
 unfold zBI at h ⊢
 repeat (split;· rename_i e;exact ⟨by omega,by omega,e⟩)
 exact absurd (by repeat (rw [qN (by assumption)])) h
theorem zUS {L:List Fg} {s:RS} (h:(zFn L s).bad=E) :
  s.bad=E/\1<=zBI (xa s.T 0)/\zBI (xa s.T 0)<=8/\∃f,zAn f=Q/\zDA L (xa s.T.tail 0)=zAN L f/\s.T=zAu (zBI (xa s.T 0)) :: zAj f :: (zFn L s).T/\(zFn L s).lost=(s.lost||zBc L f):=by
 unfold zFn at h ⊢;obtain ⟨a1,f,a2,a3,a4,a5⟩:=zJq h;rw [a5];obtain ⟨b1,y,T2,b2,b3,b4⟩:=zDO a1;obtain ⟨c1,c2,c3⟩:=zHq b1;rw [c3] at b2 b3 b4;obtain ⟨d1,x,T1,d2,d3,d4⟩:=zDO c1;rw [d4] at b2 b3 b4;simp only at b2 b4;have hk:zBI (xa s.T 0)≠0:=by simpa using c2
 obtain ⟨k1,k2,k3⟩:=zHt hk;refine ⟨d1,k1,k2,f,a2,a4,?_,?_⟩
 ·have hT:(s.next.mark (decide (zBI (xa s.T 0)=0))).next.T=T2:=by rw [c3,d4,b4]
  show s.T=zAu (zBI (xa s.T 0)) :: zAj f :: (s.next.mark (decide (zBI (xa s.T 0)=0))).next.T;rw [hT,<-k3,a3,d3,d2,List.tail_cons,b2];rfl
 ·simp only;rw [c3,d4,b4]
theorem zUT (L:List Fg) {k:Int} {f:Fg} (h1:1<=k) (h8:k<=8) (hf:zAn f=Q) (T:List (List UInt8)) (lost:Bool):zFn L (RS.mk (zAu k :: zAj f :: T) E lost)=⟨T,E,lost||zBc L f⟩:=by
 unfold zFn;simp only [List.tail_cons];rw [show xa (zAu k :: zAj f :: T) 0=zAu k from rfl,zCC h1 h8,show decide (k=0)=E from by simp;omega];simp only [RS.next,RS.mark,List.tail_cons,List.isEmpty_cons,Bool.or_false];rw [show xa (zAj f :: T) 0=zAj f from rfl,(zEI L hf T lost).1]
theorem zRX {L:List Fg} {T:List (List UInt8)} (h:(opR L ⟨T,E,E⟩).2.bad=E) (he:(opR L ⟨T,E,E⟩).2.T=[]) :
  ∃n,okN n/\T=zJm n/\(opR L ⟨T,E,E⟩).1=oOf L n/\(opR L ⟨T,E,E⟩).2.lost=zAy L n:=by
 unfold opR at h he ⊢;obtain ⟨k,hk⟩:∃k,zBI (xa T 0)=k:=⟨_,rfl⟩
 obtain ⟨s,hs⟩:∃s,zFn L ⟨T,E,E⟩=s:=⟨_,rfl⟩
 have key:s.bad=E->1<=k/\k<=8/\∃f,zAn f=Q/\zDA L (xa T.tail 0)=zAN L f/\T=zAu k :: zAj f :: s.T/\s.lost=zBc L f:=fun hb=>by
  rw [<-hs] at hb;obtain ⟨_,a1,a2,f,a3,a4,a5,a6⟩:=zUS hb;rw [hk] at a1 a2 a5;rw [hs] at a5 a6;exact ⟨a1,a2,f,a3,a4,a5,by simpa using a6⟩
 simp only [hk,hs] at h he ⊢;unfold zBP at h he ⊢;by_cases k4:k=4
 ·rw [qP k4] at h he ⊢;obtain ⟨b1,T1,b2,b3⟩:=zHs h;obtain ⟨_,_,f,a3,a4,a5,a6⟩:=key b1;rw [b3] at he;simp only at he;subst he;refine ⟨⟨k,f,U,[],ovT (xa s.T 0)⟩,⟨a3,.inr (.inl ⟨k4,rfl,rfl⟩)⟩,?_,?_,?_⟩
  ·rw [a5,zJm,tlT];simp only;rw [qP k4,<-b2]
  ·rw [a4];rfl
  ·rw [b3];simp [zAy,zAV,a6]
 rw [qN k4] at h he ⊢;by_cases k3:k=3
 ·rw [qP k3] at h he ⊢;simp only at h he ⊢;obtain ⟨b1,ZP,x,b2,b3,b4,b5,b6⟩:=zPI L _ (Nat.lt_succ_self _) h;obtain ⟨_,_,f,a3,a4,a5,a6⟩:=key b1;rw [he,List.append_nil] at b4;refine ⟨⟨k,f,Z x,ZP,E⟩,⟨a3,.inr (.inr (.inl ⟨k3,⟨x,rfl,b3⟩,b2,rfl⟩))⟩,?_,?_,?_⟩
  ·rw [a5,zJm,tlT];simp only;rw [qN k4,qP k3,b4];rfl
  ·rw [a4,b5];simp [oOf]
  ·rw [b6,a6];simp [zAy]
 rw [qN k3] at h he ⊢;by_cases k5:k=5
 ·rw [qP k5] at h he ⊢;simp only at h he ⊢;obtain ⟨c1,T1,c2,c3⟩:=zHs h;obtain ⟨d1,x,d2,d3,d4,d5⟩:=zJt c1;obtain ⟨b1,T0,e2,e3⟩:=zJr d1;obtain ⟨_,_,f,a3,a4,a5,a6⟩:=key b1;rw [c3] at he;simp only at he;subst he;have F6:T0=plT x++(zAQ L (s.must zAz)).2.T:=by rw [<-d3,e3]
  have d5':(zAQ L (s.must zAz)).2.lost=(s.lost||zBc L x.f):=by rw [d5,e3]
  generalize (zAQ L (s.must zAz)).2.T=T9 at c2 F6 ⊢;refine ⟨⟨k,f,Z x,[],ovT (xa T9 0)⟩,⟨a3,.inr (.inr (.inr (.inl ⟨k5,⟨x,rfl,d2⟩,rfl⟩)))⟩,?_,?_,?_⟩
  ·rw [a5,zJm,tlT];simp only;rw [qN k4,qN k3,qP k5,e2,F6,<-c2];simp [frT]
  ·rw [a4,d4];rfl
  ·rw [c3];simp only;rw [d5',a6];simp [zAy,zAV]
 rw [qN k5] at h he ⊢;by_cases k6:k=6
 ·rw [qP k6] at h he ⊢;simp only at h he ⊢;obtain ⟨c1,T1,c2,c3⟩:=zHs h;obtain ⟨d1,g,d2,d3,d4,d5⟩:=zJq c1;obtain ⟨e1,y,T2,f2,f3,f4⟩:=zDO d1;obtain ⟨b1,T0,e2,e3⟩:=zJr e1;obtain ⟨_,_,f,a3,a4,a5,a6⟩:=key b1;rw [c3] at he;simp only at he;subst he;rw [d5,f4] at c2;simp only at c2;rw [e3] at f2;simp only at f2;have hov:xa (s.must zAz).T.tail 0=xa T2 0:=by rw [e3];simp only;rw [f2,List.tail_cons]
  obtain ⟨ov,iH⟩:∃b,ovT (xa T2 0)=b:=⟨_,rfl⟩
  rw [iH] at c2;refine ⟨⟨k,f,Z ⟨g,0,E,0⟩,[],ov⟩,⟨a3,.inr (.inr (.inr (.inr ⟨.inl k6,⟨g,rfl,d2⟩,rfl⟩)))⟩,?_,?_,?_⟩
  ·rw [a5,zJm,tlT];simp only;rw [qN k4,qN k3,qN k5,qP k6,e2,f2,c2];simp only [frN];rw [d3,f3]
  ·rw [a4,d4,hov,iH];rfl
  ·rw [c3,d5];simp only;rw [f4,e3];simp only;rw [a6];simp [zAy,zAV]
 rw [qN k6] at h he ⊢;by_cases k7:k=7
 ·rw [qP k7] at h he ⊢;simp only at h he ⊢;obtain ⟨c1,T1,c2,c3⟩:=zHs h;obtain ⟨d1,g,d2,d3,d4,d5⟩:=zJq c1;obtain ⟨e1,y,T2,f2,f3,f4⟩:=zDO d1;obtain ⟨b1,T0,e2,e3⟩:=zJr e1;obtain ⟨_,_,f,a3,a4,a5,a6⟩:=key b1;rw [c3] at he;simp only at he;subst he;rw [d5,f4] at c2;simp only at c2;rw [e3] at f2;simp only at f2;have hov:xa (s.must zDD).T.tail 0=xa T2 0:=by rw [e3];simp only;rw [f2,List.tail_cons]
  obtain ⟨ov,iH⟩:∃b,ovT (xa T2 0)=b:=⟨_,rfl⟩
  rw [iH] at c2;refine ⟨⟨k,f,Z ⟨g,0,E,0⟩,[],ov⟩,⟨a3,.inr (.inr (.inr (.inr ⟨.inr k7,⟨g,rfl,d2⟩,rfl⟩)))⟩,?_,?_,?_⟩
  ·rw [a5,zJm,tlT];simp only;rw [qN k4,qN k3,qN k5,qN k6,qP k7,e2,f2,c2];simp only [frN];rw [d3,f3]
  ·rw [a4,d4,hov,iH];rfl
  ·rw [c3,d5];simp only;rw [f4,e3];simp only;rw [a6];simp [zAy,zAV]
 rw [qN k7] at h he ⊢;simp only at h he ⊢;obtain ⟨a1,a2,f,a3,a4,a5,a6⟩:=key h;refine ⟨⟨k,f,U,[],E⟩,⟨a3,.inl ⟨by simp only;omega,rfl,rfl,rfl⟩⟩,?_,?_,?_⟩
 ·rw [a5,zJm,tlT,he];simp only;rw [qN k4,qN k3,qN k5,qN k6,qN k7]
 ·rw [a4];rfl
 ·rw [a6];simp [zAy,zAV]
theorem zMO (ZP:List (Nst×Bool)):ZP.length<=(ZP.flatMap stT).length:=by
 induction ZP with
 | nil=>simp
 | cons x ZP ih =>
  have:1<=(stT x).length:=by simp [stT]
  rw [List.flatMap_cons,List.length_append,List.length_cons];omega
theorem zYh (L:List Fg) {n:Nop} (h:okN n):opR L ⟨zJm n,E,E⟩=(oOf L n,⟨[],E,zAy L n⟩):=by
 obtain ⟨hf,hk⟩:=h;obtain ⟨k,f,fr,path,over⟩:=n;unfold zGt at hk;simp only at hf hk;have gW:1<=k/\k<=8:=by
  rcases hk with ⟨h,_⟩ | ⟨h,_⟩ | ⟨h,_⟩ | ⟨h,_⟩ | ⟨h,_⟩<;>omega
 have hh:=zUT L gW.1 gW.2 hf (tlT ⟨k,f,fr,path,over⟩) E;have hkv:=zCC gW.1 gW.2;unfold opR;rw [show zJm ⟨k,f,fr,path,over⟩=zAu k :: zAj f :: tlT ⟨k,f,fr,path,over⟩ from rfl,hh];simp only [List.tail_cons];rw [show xa (zAu k :: zAj f :: tlT ⟨k,f,fr,path,over⟩) 0=zAu k from rfl,hkv];rw [show xa (zAj f :: tlT ⟨k,f,fr,path,over⟩) 0=zAj f from rfl,(zEI L hf [] E).2];simp only [Bool.false_or];unfold zBP tlT;simp only;rcases hk with ⟨e,rfl,rfl,rfl⟩ | ⟨rfl,rfl,rfl⟩ | ⟨rfl,⟨x,rfl,hx⟩,hp,rfl⟩ | ⟨rfl,⟨x,rfl,hx⟩,rfl⟩ | ⟨e,⟨g,rfl,hg⟩,rfl⟩
 ·have n4:¬k=4:=by omega
  have n3:¬k=3:=by omega
  have n5:¬k=5:=by omega
  have n6:¬k=6:=by omega
  have n7:¬k=7:=by omega
  simp only [qN n4,qN n3,qN n5,qN n6,qN n7];simp [oOf,zAy,zAV]
 ·simp only [if_true];rw [(zDq over [] (zBc L f)).1,(zDq over [] (zBc L f)).2];simp [oOf,zAy,zAV]
 ·simp only [show ¬((3:Int)=4) from by omega,if_false,if_true,frT];rw [zPJ L hx _ path [] (zBc L f) hp (by have:=zMO path;rw [List.length_append];omega)];simp [oOf,zAy]
 ·simp only [show ¬((5:Int)=4) from by omega,show ¬((5:Int)=3) from by omega,if_false,if_true,frT];rw [zJs,zJu L hx [zAx over] (zBc L f) (by cases over<;>decide) (by cases over<;>decide)];simp only;rw [(zDq over [] (zBc L f||zBc L x.f)).1,(zDq over [] (zBc L f)).2];simp [oOf,zAy,zAV]
 ·rcases e with rfl | rfl
  ·simp only [show ¬((6:Int)=4) from by omega,show ¬((6:Int)=3) from by omega,show ¬((6:Int)=5) from by omega,if_false,if_true,frN];rw [zJs];simp only [RS.next,List.tail_cons,List.isEmpty_cons,Bool.or_false];rw [show xa [zAj g,zAx over] 0=zAj g from rfl,(zEI L hg [zAx over] (zBc L f)).1,(zEI L hg [] E).2,(zDq over [] _).1,(zDq over [] (zBc L f)).2];simp [oOf,zAy,zAV,sOf]
  ·simp only [show ¬((7:Int)=4) from by omega,show ¬((7:Int)=3) from by omega,show ¬((7:Int)=5) from by omega,show ¬((7:Int)=6) from by omega,if_false,if_true,frN];rw [zJs];simp only [RS.next,List.tail_cons,List.isEmpty_cons,Bool.or_false];rw [show xa [zAj g,zAx over] 0=zAj g from rfl,(zEI L hg [zAx over] (zBc L f)).1,(zEI L hg [] E).2,(zDq over [] _).1,(zDq over [] (zBc L f)).2];simp [oOf,zAy,zAV,sOf]
