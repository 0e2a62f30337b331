/-
  Lemmas, part 41. Conditions: each theorem's own.
-/
import Derived.Test.YtlmdfmnbcndhoaaGreatDoorRl40
namespace Go.Proofs.YtlmdfmnbcndhoaaGreatDoor
open Go.RowKit
theorem zFk {S:List UInt8} {k:Nat} (h:fnA S=k) (w:World):Calls Tryz.prog 99 #[.string (bA S)] w fun e w'=>e=.returned (.int .i64 (k:Int))∧Below w.heap.size w w':=by
 subst h;exact zLZ S w
theorem Txts.below {w w':World} {A:Option Addr} {n:Nat} {T:List (List UInt8)} (h:Txts w A n T) (hb:Below w.heap.size w w'):Txts w' A n T:=Els.below h hb
theorem Txts.cell {w:World} {g o n:Nat} {T:List (List UInt8)} (h:Txts w (some ⟨g,o,none⟩) n T) {j:Nat} (hj:j < n):g < w.heap.size∧w.cell? ⟨g,o+j,none⟩=some (.string (bA (xa T j))):=by
 obtain ⟨g',o',e,hb,hc⟩:=h.2.2 (by omega);injection e with e
 injection e with e1 e2
 subst e1;subst e2
 have hx:T[j]? = some (xa T j):=by unfold xa;rw [List.getElem?_eq_getElem (by rw [h.len];exact hj)];rfl
 have:=hc j _ hx 0 _ rfl;rw [show o+j*1+0=o+j by omega] at this;exact ⟨hb,this⟩
theorem Txts.is {w:World} {A:Option Addr} {n:Nat} {T:List (List UInt8)} (h:Txts w A n T) (hn:0 < n):∃g o,A=some ⟨g,o,none⟩:=by
 obtain ⟨g,o,e,_⟩:=h.2.2 hn;exact ⟨g,o,e⟩
theorem zQt (f:Int) (b:Bool) (w:World):(Instr.build 29 #[(0,.int .i64 f),(2,.bool b)]).run Tryz.prog w=.ok (.agg #[.int .i64 f,.int .i64 0,.bool b,.int .i64 0]) w:=run_build w _ _ _ (by kernel_rfl)
theorem zXB {T:List (List UInt8)} {q:Bool} (h:(decide (4≤T.length)&&(xa T 2==zBO))=q):loF T=if q then (zJf (xa T 3),4) else (0,2):=by
 subst h;unfold loF;simp
theorem zXC {T:List (List UInt8)} {k:Nat} {q:Bool} (h:(decide (k+2≤T.length)&&(xa T k==zAY))=q):piF T k=if q then (zJf (xa T (k+1)),k+2) else (0,k):=by
 subst h;unfold piF;simp
theorem zTr {T:List (List UInt8)} (h:T.length < 2∨(neT (xa T 1)=false∧faT (xa T 1)=false)):zGd T=(s0,0):=by
 unfold zGd;rw [if_pos];rcases h with h | ⟨h1,h2⟩
 ·exact .inl h
 ·exact .inr ⟨by simpa [neT] using h1,by simpa [faT] using h2⟩
theorem zVf {T:List (List UInt8)} (h:¬T.length < 2) (h2:neT (xa T 1)=true∨faT (xa T 1)=true) :
  zGd T=(⟨fnA (xa T 0),(loF T).1,faT (xa T 1),(piF T (loF T).2).1⟩,(piF T (loF T).2).2):=by
 unfold zGd;rw [if_neg];rintro (e | ⟨e1,e2⟩)
 ·exact h e
 ·rcases h2 with h2 | h2
  ·exact e1 (by simpa [neT] using h2)
  ·exact e2 (by simpa [faT] using h2)
theorem zDI {B:Nat} {a b:World} {o:Obj} (hB:B≤b.heap.size) (h:Below B a b):Below B a (b.alloc o):=h.alloc hB o
theorem Blk.storeL4 {w:World} {g:Nat} {t:TypeId} {v0 v1 v2 v3:Value} (h:Blk w g t #[v0,v1,v2,v3]) (u0 u1 u2 u3:Value) :
  Blk ((((w.setCell ⟨g,0,none⟩ u0).setCell ⟨g,1,none⟩ u1).setCell ⟨g,2,none⟩ u2).setCell ⟨g,3,none⟩ u3) g t #[u0,u1,u2,u3]:=(((h.set_ 0 _).set_ 1 _).set_ 2 _).set_ 3 _
theorem zBI {a w:World} {g B:Nat} (h:Below B a w) (hB:B≤g) (u0 u1 u2 u3:Value) :
  Below B a ((((w.setCell ⟨g,0,none⟩ u0).setCell ⟨g,1,none⟩ u1).setCell ⟨g,2,none⟩ u2).setCell ⟨g,3,none⟩ u3) :=
 (((h.setCell (p:=⟨g,0,none⟩) hB _).setCell (p:=⟨g,1,none⟩) hB _).setCell (p:=⟨g,2,none⟩) hB _).setCell (p:=⟨g,3,none⟩) hB _
set_option maxHeartbeats 6400000 in
set_option maxRecDepth 100000 in
theorem zJw (A:Option Addr) (n c:Nat) (T:List (List UInt8)) (w:World) (hA:Txts w A n T) :
  Calls Tryz.prog 100 #[.slice A n c] w fun e w'=>e=.returned (.tuple #[sgV (zGd T).1,.int .i64 ((zGd T).2:Int)])∧Below w.heap.size w w':=by
 have hle:=hA.le;have aR:=qH hA.len;have bz:=zKk;have bs:=zQt;have hba:Below w.heap.size w (w.alloc (.cells #[.int .i64 0,.int .i64 0,.bool false,.int .i64 0] 29)):=(Below.refl _ _).alloc (Nat.le_refl _) _;have hka:Blk (w.alloc (.cells #[.int .i64 0,.int .i64 0,.bool false,.int .i64 0] 29)) w.heap.size 29 #[.int .i64 0,.int .i64 0,.bool false,.int .i64 0]:=Blk.new _ _ _;have vU:=hA.below hba;have AX:=qH hA;by_cases h2:n < 2
 ·have HR:=qH (zTr (T:=T) (.inl (by rw [aR.out];exact h2)));have i0:(n:Int) < 2:=by omega
  clear hA h2 vU;go_enter Tryz.func100,Tryz.ntmps100;go_upto_region 1 with fail
  generalize w.alloc (.cells #[.int .i64 0,.int .i64 0,.bool false,.int .i64 0] 29)=X at hba hka ⊢;have c0:X.cell? ⟨w.heap.size,0,none⟩=some (.int .i64 0):=(hka.cell 0).trans rfl;have c1:X.cell? ⟨w.heap.size,1,none⟩=some (.int .i64 0):=(hka.cell 1).trans rfl;have c2:X.cell? ⟨w.heap.size,2,none⟩=some (.bool false):=(hka.cell 2).trans rfl;have c3:X.cell? ⟨w.heap.size,3,none⟩=some (.int .i64 0):=(hka.cell 3).trans rfl;have z0:=hka.frozen 0;have z1:=hka.frozen 1;have z2:=hka.frozen 2;have z3:=hka.frozen 3;have HS:=qH (Blk.storeL4 hka (.int .i64 0) (.int .i64 0) (.bool false) (.int .i64 0));have zk:=qH (zBI hba (Nat.le_refl w.heap.size) (.int .i64 0) (.int .i64 0) (.bool false) (.int .i64 0));clear hba hka;go_wp2_with fail
  (try simp only [Exit.inBlock,Exit.then])
  exact zAD rfl rfl rfl HS.out Tryz.underlying29 rfl (by kernel_rfl) rfl ⟨by rw [HR.out];rfl,zk.out⟩
 have i0:¬(n:Int) < 2:=by omega
 obtain ⟨g,o,rfl⟩:=hA.is (by omega);obtain ⟨hg,x0⟩:=vU.cell (j:=0) (by omega);obtain ⟨_,x1⟩:=vU.cell (j:=1) (by omega);have j0:(0:Int) < (n:Int):=by omega
 have j1:(1:Int) < (n:Int):=by omega
 have j2:0 < n:=by omega
 have j3:1 < n:=by omega
 rw [show o+0=o from rfl] at x0;have hnl:¬T.length < 2:=by rw [aR.out];exact h2
 have DN:=qH vU;obtain ⟨W1,cS⟩:∃W,xa T 1=W:=⟨_,rfl⟩
 obtain ⟨W0,ce⟩:∃W,xa T 0=W:=⟨_,rfl⟩
 rw [cS] at x1;rw [ce] at x0;have n1:=zAn W1 [110,101,97,114];have n2:=zAn W1 [102,97,114];obtain ⟨b1,ay⟩:∃b,neT W1=b:=⟨_,rfl⟩
 obtain ⟨b2,ai⟩:∃b,faT W1=b:=⟨_,rfl⟩
 rw [show (W1==[110,101,97,114])=b1 from ay] at n1;rw [show (W1==[102,97,114])=b2 from ai] at n2;by_cases hbb:b1=false∧b2=false
 ·obtain ⟨rfl,rfl⟩:=hbb;have HR:=qH (zTr (T:=T) (.inr ⟨by rw [cS];exact ay,by rw [cS];exact ai⟩));clear hA vU hnl cS ce ay ai h2;go_enter Tryz.func100,Tryz.ntmps100;go_upto_region 1 with fail
  generalize w.alloc (.cells #[.int .i64 0,.int .i64 0,.bool false,.int .i64 0] 29)=X at hba hka x0 x1 hg DN ⊢;have c0:X.cell? ⟨w.heap.size,0,none⟩=some (.int .i64 0):=(hka.cell 0).trans rfl;have c1:X.cell? ⟨w.heap.size,1,none⟩=some (.int .i64 0):=(hka.cell 1).trans rfl;have c2:X.cell? ⟨w.heap.size,2,none⟩=some (.bool false):=(hka.cell 2).trans rfl;have c3:X.cell? ⟨w.heap.size,3,none⟩=some (.int .i64 0):=(hka.cell 3).trans rfl;have z0:=hka.frozen 0;have z1:=hka.frozen 1;have z2:=hka.frozen 2;have z3:=hka.frozen 3;have HS:=qH (Blk.storeL4 hka (.int .i64 0) (.int .i64 0) (.bool false) (.int .i64 0));have zk:=qH (zBI hba (Nat.le_refl w.heap.size) (.int .i64 0) (.int .i64 0) (.bool false) (.int .i64 0));clear hba hka;go_wp2_with fail
  (try simp only [Exit.inBlock,Exit.then])
  exact zAD rfl rfl rfl HS.out Tryz.underlying29 rfl (by kernel_rfl) rfl ⟨by rw [HR.out];rfl,zk.out⟩
 have uu:b1=true∨b2=true:=by cases b1<;>cases b2<;>simp at hbb ⊢
 have HR:=qH (zVf hnl (by rw [cS,ay,ai];exact uu));rw [cS,ai,ce] at HR;obtain ⟨F0,hF0⟩:∃k,fnA W0=k:=⟨_,rfl⟩
 rw [hF0] at HR;have vy:=qH (fun w=>zFk hF0 w);have HTST:=qH (show (b1 != true&&b2 != true)=false by cases b1<;>cases b2<;>simp at hbb ⊢);clear hA vU hnl cS ce ay ai h2 hbb hF0;obtain ⟨l1,N1,hlo⟩:∃l k,loF T=(l,k):=⟨_,_,rfl⟩
 obtain ⟨p1,N2,hpi⟩:∃l k,piF T N1=(l,k):=⟨_,_,rfl⟩
 simp only [hlo,hpi] at HR;have za:=qH hlo;have HPI:=qH hpi;rw [HR.out];clear HR hlo hpi;go_enter Tryz.func100,Tryz.ntmps100;go_upto_region 1 with fail
 generalize w.alloc (.cells #[.int .i64 0,.int .i64 0,.bool false,.int .i64 0] 29)=X at hba hka x0 x1 hg DN ⊢;have AW:=qH hba;have zd:=qH hka;have HX:=qH (show g < X.heap.size∧X.cell? ⟨g,o,none⟩=some (.string (bA W0))∧X.cell? ⟨g,o+1,none⟩=some (.string (bA W1)) from ⟨hg,x0,x1⟩);have KP:=qH (show ∀wx,Below X.heap.size X wx→(Below X.heap.size X wx∧wx.cell? ⟨g,o,none⟩=some (.string (bA W0))∧wx.cell? ⟨g,o+1,none⟩=some (.string (bA W1))) from fun wx h=>⟨h,(h.cell (p:=⟨g,o,none⟩) HX.out.1).trans HX.out.2.1,(h.cell (p:=⟨g,o+1,none⟩) HX.out.1).trans HX.out.2.2⟩);clear hba hka hg;have hsplit:∃q:Bool,(b1=true∧q=true)∨(b1=false∧b2=true∧q=true):=by
  cases b1
  ·exact ⟨true,.inr ⟨rfl,by simpa using uu,rfl⟩⟩
  ·exact ⟨true,.inl ⟨rfl,rfl⟩⟩
 clear uu;go_upto_region 1 with fail
 go_cut [20] (fun v20 wv=>v20=.bool false∧X=wv)
 case first =>
  rcases hsplit with ⟨q,⟨rfl,_⟩ | ⟨rfl,rfl,_⟩⟩
  ·go_wp2_with fail
   go_meet
   case rel=>exact ⟨rfl,rfl⟩
  ·go_wp2_with fail
   go_meet
   case rel=>exact ⟨rfl,rfl⟩
 case rest =>
  obtain ⟨rfl,hX⟩:=hcut;subst hX;clear x0 x1;go_upto_region 3 with fail
  have uW:=(KP.out X (Below.refl _ _)).2.1;have uV:=(KP.out X (Below.refl _ _)).2.2;go_cut [4] (fun v4 wv=>∃(V:World) (b4:Nat),V=wv∧v4=.pointer (some ⟨b4,0,none⟩)∧Blk V b4 29 #[.int .i64 (F0:Int),.int .i64 0,.bool b2,.int .i64 0]∧X.heap.size≤b4∧Below X.heap.size X V)
  case first =>
   go_region_held3 (fun wx=>Below X.heap.size X wx∧wx.cell? ⟨g,o,none⟩=some (.string (bA W0))∧wx.cell? ⟨g,o+1,none⟩=some (.string (bA W1))) (first | (with_reducible refine KP.out _ ?_;repeat (first | with_reducible assumption | with_reducible exact And.left (by assumption) | ((with_reducible refine zBI ?_ ?_ _ _ _ _);rotate_left;(focus first | omega | (simp;done) | (simp;omega))) | with_reducible exact Below.refl _ _ | with_reducible apply Below.drew | ((with_reducible refine zDI ?_ ?_);focus (first | omega | (simp;done) | (simp;omega))))))
    (first | (go_at_call 99;refine (vy.out _).mono ?_;rintro e wd ⟨rfl,hbd⟩;have hbq:Below X.heap.size X wd:=zAa (And.left (by assumption)) hbd (Below.size (And.left (by assumption)));have hz:=Below.size hbq;(try (refine (fun (bF:Blk wd X.heap.size 29 #[.int .i64 0,.int .i64 0,.bool false,.int .i64 0])=>?_) (Blk.below ?_ hbd ?_);rotate_left;(focus first | exact Blk.drew (Blk.new _ _ _) | exact Blk.new _ _ _);(focus first | (simp;done) | (simp;omega));have zu:wd.cell? ⟨X.heap.size,0,none⟩=some (.int .i64 0):=(bF.cell 0).trans rfl;have Ay:=bF.frozen 0;have zr:wd.cell? ⟨X.heap.size,1,none⟩=some (.int .i64 0):=(bF.cell 1).trans rfl;have Ax:=bF.frozen 1;have zq:wd.cell? ⟨X.heap.size,2,none⟩=some (.bool false):=(bF.cell 2).trans rfl;have Aw:=bF.frozen 2;have zo:wd.cell? ⟨X.heap.size,3,none⟩=some (.int .i64 0):=(bF.cell 3).trans rfl;have Av:=bF.frozen 3))))
   all_goals
    go_wp2_with fail
    go_meet
   all_goals refine ⟨_,_,rfl,rfl,?_,?_,?_⟩
   all_goals first
    | with_reducible exact Blk.new _ _ _
    | with_reducible exact hz
    | with_reducible exact hbq.alloc hz _
    | with_reducible exact Blk.storeL4 bF (.int .i64 (F0:Int)) (.int .i64 0) (.bool b2) (.int .i64 0)
    | with_reducible exact Nat.le_refl _
    | with_reducible exact zBI hbq (Nat.le_refl _) (.int .i64 (F0:Int)) (.int .i64 0) (.bool b2) (.int .i64 0)
  case rest =>
   obtain ⟨V,b4,hV,rfl,k4,hge,hbv⟩:=hcut;subst hV;have hbw:=zAa AW.out hbv AW.out.size;have Df:=qH (DN.out.below hbv);have ny:=qH (zd.out.below hbv zd.out.lt);have hlt:w.heap.size < b4:=Nat.lt_of_lt_of_le zd.out.lt hge;clear uW uV hbv hge
   -- loop
   obtain ⟨q,hq⟩:∃q,(decide (4≤T.length)&&(xa T 2==zBO))=q:=⟨_,rfl⟩
   have wg:=qH (za.out.symm.trans (zXB hq));rw [aR.out] at hq;have HQ:=qH hq;have vt:=qH k4;have qB:=qH hbw;clear hq k4 hbw;go_upto_region 5 with fail
   go_cut [42] (fun v42 wv=>v42=.bool q∧V=wv)
   case first =>
    by_cases h4:4≤n
    ·have i4:(2:Int)+2≤(n:Int):=by omega
     have i5:(4:Int)≤(n:Int):=by omega
     have x2:=(Df.out.cell (j:=2) (by omega)).2;have n3:=zAn (xa T 2) zBO;have fN:(xa T 2==zBO)=q:=by rw [←HQ.out,decide_eq_true h4,Bool.true_and]
     rw [fN] at n3;have j4:(2:Int) < (n:Int):=by omega
     generalize xa T 2=W2 at x2 n3;clear fN h4;go_wp2_with fail
     go_meet
     case rel=>exact ⟨rfl,rfl⟩
    ·have i4:¬(4:Int)≤(n:Int):=by omega
     have fN:q=false:=by rw [←HQ.out,decide_eq_false h4];rfl
     subst fN;clear h4;go_wp2_with fail
     go_meet
     case rel=>exact ⟨rfl,rfl⟩
   case rest =>
    obtain ⟨rfl,hV⟩:=hcut;subst hV;go_upto_if 42 with fail
    go_cut [5] (fun v5 wv=>∃U:World,U=wv∧v5=.int .i64 (N1:Int)∧Blk U b4 29 #[.int .i64 (F0:Int),.int .i64 l1,.bool b2,.int .i64 0]∧Blk U w.heap.size 29 #[.int .i64 0,.int .i64 0,.bool false,.int .i64 0]∧Below w.heap.size w U)
    case first =>
     cases q with
     | false =>
      obtain ⟨rfl,rfl⟩:l1=0∧N1=2:=by have h:=wg.out;rw [if_neg (by simp)] at h;exact ⟨congrArg Prod.fst h,congrArg Prod.snd h⟩
      go_wp2_with fail
      go_meet
      case rel=>exact ⟨_,rfl,rfl,vt.out,ny.out,qB.out⟩
     | true =>
      have h4:4≤n:=by have h:=HQ.out;simp only [Bool.and_eq_true,decide_eq_true_eq] at h;exact h.1
      obtain ⟨iD,rfl⟩:l1=zJf (xa T 3)∧N1=4:=by have h:=wg.out;rw [if_pos rfl] at h;exact ⟨congrArg Prod.fst h,congrArg Prod.snd h⟩
      have y8:=qH (fun w=>zIi iD.symm w);have x3:=(Df.out.cell (j:=3) (by omega)).2;have i6:(3:Int) < (n:Int):=by omega
      have i7:3 < n:=by omega
      generalize xa T 3=W3 at x3 y8 iD;clear iD h4;go_wp2_with fail
      refine (y8.out _).mono ?_;rintro e U ⟨rfl,hbu⟩;have pM:=vt.out.below hbu vt.out.lt;have kkr:=ny.out.below hbu ny.out.lt;have hbw:=zAa qB.out hbu qB.out.size;have y1:U.cell? ⟨b4,1,none⟩=some (.int .i64 0):=(pM.cell 1).trans rfl;have yz:=pM.frozen 1;have RS:=qH (show Blk (U.setCell ⟨b4,1,none⟩ (.int .i64 l1)) b4 29 #[.int .i64 (F0:Int),.int .i64 l1,.bool b2,.int .i64 0]∧Blk (U.setCell ⟨b4,1,none⟩ (.int .i64 l1)) w.heap.size 29 #[.int .i64 0,.int .i64 0,.bool false,.int .i64 0]∧Below w.heap.size w (U.setCell ⟨b4,1,none⟩ (.int .i64 l1)) from ⟨pM.set_ 1 _,kkr.far (p:=⟨b4,1,none⟩) (Nat.ne_of_lt hlt) _,hbw.setCell (p:=⟨b4,1,none⟩) (Nat.le_of_lt hlt) _⟩);clear pM kkr hbw hbu;go_wp2_with fail
      go_meet
      case rel=>exact ⟨_,rfl,rfl,RS.out⟩
    case rest =>
     obtain ⟨U,hU,rfl,k4,kr,hbw⟩:=hcut;subst hU;have hN1:N1≤4:=by have h:=wg.out;cases q<;>simp at h<;>omega
     have Gs:=qH (AX.out.below hbw);obtain ⟨q2,fN⟩:∃q,(decide (N1+2≤T.length)&&(xa T N1==zAY))=q:=⟨_,rfl⟩
     have GC:=qH (HPI.out.symm.trans (zXC fN));rw [aR.out] at fN;have jx:=qH fN;have vt:=qH k4;have DE:=qH kr;have qB:=qH hbw;clear fN k4 kr hbw Df ny wg HQ;go_upto_region 8 with fail
     go_cut [63] (fun v63 wv=>v63=.bool q2∧U=wv)
     case first =>
      by_cases h4:N1+2≤n
      ·have i4:(N1:Int)+2≤(n:Int):=by omega
       have x2:=(Gs.out.cell (j:=N1) (by omega)).2;have n3:=zAn (xa T N1) zAY;have hq3:(xa T N1==zAY)=q2:=by rw [←jx.out,decide_eq_true h4,Bool.true_and]
       rw [hq3] at n3;have j4:(N1:Int) < (n:Int):=by omega
       have j5:(0:Int)≤(N1:Int):=by omega
       have j6:N1 < n:=by omega
       generalize xa T N1=W2 at x2 n3;clear hq3 h4;go_wp2_with fail
       go_meet
       case rel=>exact ⟨rfl,rfl⟩
      ·have i4:¬(N1:Int)+2≤(n:Int):=by omega
       have hq3:q2=false:=by rw [←jx.out,decide_eq_false h4];rfl
       subst hq3;clear h4;go_wp2_with fail
       go_meet
       case rel=>exact ⟨rfl,rfl⟩
     case rest =>
      obtain ⟨rfl,hV⟩:=hcut;subst hV;go_upto_if 63 with fail
      go_cut [5] (fun v5 wv=>∃V:World,V=wv∧v5=.int .i64 (N2:Int)∧Blk V b4 29 #[.int .i64 (F0:Int),.int .i64 l1,.bool b2,.int .i64 p1]∧Blk V w.heap.size 29 #[.int .i64 0,.int .i64 0,.bool false,.int .i64 0]∧Below w.heap.size w V)
      case first =>
       cases q2 with
       | false =>
        obtain ⟨rfl,rfl⟩:p1=0∧N2=N1:=by have h:=GC.out;rw [if_neg (by simp)] at h;exact ⟨congrArg Prod.fst h,congrArg Prod.snd h⟩
        go_wp2_with fail
        go_meet
        case rel=>exact ⟨_,rfl,rfl,vt.out,DE.out,qB.out⟩
       | true =>
        have h4:N1+2≤n:=by have h:=jx.out;simp only [Bool.and_eq_true,decide_eq_true_eq] at h;exact h.1
        obtain ⟨iD,rfl⟩:p1=zJf (xa T (N1+1))∧N2=N1+2:=by have h:=GC.out;rw [if_pos rfl] at h;exact ⟨congrArg Prod.fst h,congrArg Prod.snd h⟩
        have y8:=qH (fun w=>zIi iD.symm w);have x3:=(Gs.out.cell (j:=N1+1) (by omega)).2;have i6:(N1:Int)+1 < (n:Int):=by omega
        have i7:N1+1 < n:=by omega
        have i8:(0:Int)≤(N1:Int)+1:=by omega
        have i9:((N1:Int)+1).toNat=N1+1:=by omega
        generalize xa T (N1+1)=W3 at x3 y8 iD;clear iD h4;go_wp2_with fail
        refine (y8.out _).mono ?_;rintro e V ⟨rfl,hbu⟩;have pM:=vt.out.below hbu vt.out.lt;have kkr:=DE.out.below hbu DE.out.lt;have hbw:=zAa qB.out hbu qB.out.size;have y1:V.cell? ⟨b4,3,none⟩=some (.int .i64 0):=(pM.cell 3).trans rfl;have yz:=pM.frozen 3;have RS:=qH (show Blk (V.setCell ⟨b4,3,none⟩ (.int .i64 p1)) b4 29 #[.int .i64 (F0:Int),.int .i64 l1,.bool b2,.int .i64 p1]∧Blk (V.setCell ⟨b4,3,none⟩ (.int .i64 p1)) w.heap.size 29 #[.int .i64 0,.int .i64 0,.bool false,.int .i64 0]∧Below w.heap.size w (V.setCell ⟨b4,3,none⟩ (.int .i64 p1)) from ⟨pM.set_ 3 _,kkr.far (p:=⟨b4,3,none⟩) (Nat.ne_of_lt hlt) _,hbw.setCell (p:=⟨b4,3,none⟩) (Nat.le_of_lt hlt) _⟩);clear pM kkr hbw hbu;go_wp2_with fail
        go_meet
        case rel=>exact ⟨_,rfl,by go_num,RS.out⟩
      case rest =>
       obtain ⟨V,hV,rfl,k4,kr,hbw⟩:=hcut;subst hV;have f0:V.cell? ⟨b4,0,none⟩=some (.int .i64 (F0:Int)):=(k4.cell 0).trans rfl;have f1:V.cell? ⟨b4,1,none⟩=some (.int .i64 l1):=(k4.cell 1).trans rfl;have f2:V.cell? ⟨b4,2,none⟩=some (.bool b2):=(k4.cell 2).trans rfl;have f3:V.cell? ⟨b4,3,none⟩=some (.int .i64 p1):=(k4.cell 3).trans rfl;have c0:V.cell? ⟨w.heap.size,0,none⟩=some (.int .i64 0):=(kr.cell 0).trans rfl;have c1:V.cell? ⟨w.heap.size,1,none⟩=some (.int .i64 0):=(kr.cell 1).trans rfl;have c2:V.cell? ⟨w.heap.size,2,none⟩=some (.bool false):=(kr.cell 2).trans rfl;have c3:V.cell? ⟨w.heap.size,3,none⟩=some (.int .i64 0):=(kr.cell 3).trans rfl;have z0:=kr.frozen 0;have z1:=kr.frozen 1;have z2:=kr.frozen 2;have z3:=kr.frozen 3;have HS:=qH (Blk.storeL4 kr (.int .i64 (F0:Int)) (.int .i64 l1) (.bool b2) (.int .i64 p1));have zk:=qH (zBI hbw (Nat.le_refl w.heap.size) (.int .i64 (F0:Int)) (.int .i64 l1) (.bool b2) (.int .i64 p1));clear kr hbw k4;go_wp2_with fail
       (try simp only [Exit.inBlock,Exit.then])
       exact zAD rfl rfl rfl HS.out Tryz.underlying29 rfl (by kernel_rfl) rfl ⟨rfl,zk.out⟩
section
variable {T:List (List UInt8)} {i:Nat} {x:List UInt8}
theorem zTs (h:T[i]? = some x):T.drop i=x :: T.drop (i+1):=by
 obtain ⟨hi,e⟩:=List.getElem?_eq_some_iff.1 h;rw [List.drop_eq_getElem_cons hi,e]
theorem zSw (h:zEu T=T.take i++zEu (T.drop i)) (hx:T[i]? = some x) (hl:x.getLast? = some 44):zEu T=T.take i++[x.dropLast]:=by
 rw [h,zTs hx,zEu,if_pos hl]
theorem zTt (h:zEu T=T.take i++zEu (T.drop i)) (hx:T[i]? = some x) (hl:x.getLast?≠some 44):zEu T=T.take (i+1)++zEu (T.drop (i+1)):=by
 rw [h,zTs hx,zEu,if_neg hl,List.take_add_one,hx];simp
end
theorem zWx {T:List (List UInt8)} {j:Nat} (hj:j < T.length):T[j]? = some (xa T j):=by unfold xa;rw [List.getElem?_eq_getElem hj];rfl
theorem zQu {x:List UInt8} {k:Nat} (h:x.length=k+1):∃b,x[k]? = some b∧(x.getLast? = some 44↔b=44):=by
 have hk:k < x.length:=by omega
 refine ⟨x[k],List.getElem?_eq_getElem hk,?_⟩;rw [List.getLast?_eq_getElem?,show x.length-1=k by omega,List.getElem?_eq_getElem hk];simp
set_option maxHeartbeats 3200000 in
theorem zKJ (A:Option Addr) (n c:Nat) (T:List (List UInt8)) (w:World) (hA:Txts w A n T) (hn:n≤100001) (hw:∀p∈T,p.length≤100000) :
  Calls Tryz.prog 151 #[.slice A n c] w (zCQ w (zEu T)):=by
 have aR:=qH hA.len;have HA:=qH hA;have HW:=qH hw;clear hA hw;go_enter Tryz.func151,Tryz.ntmps151;go_wp2_with fail
 go_loopw [3,4] (fun v3 v4 wv=>∃(i:Nat) (X:World) (B:Option Addr) (m d:Nat),X=wv∧i≤n∧v4=.int .i64 i∧v3=.slice B m d∧Row X w.heap.size 1 B m d ((T.take i).map zDo)∧Below w.heap.size w X∧m≤i∧Hid (zEu T=T.take i++zEu (T.drop i))) (fun _ v4 _=>n-(intOf v4).toNat)
 case atStart=>exact ⟨0,_,none,0,0,rfl,by omega,rfl,rfl,Row.none_ _ _ _,Below.refl _ _,by omega,qH (by simp)⟩
 case round =>
  obtain ⟨i,X,B,m,d,hX,hi,rfl,rfl,hR,hb,hm,HU⟩:=hrel;subst hX;have hz:w.heap.size≤X.heap.size:=hb.size;by_cases hlt:i < n
  ·have j0:(0:Int)≤(i:Int):=by omega
   have j1:(i:Int) < (n:Int):=by omega
   obtain ⟨g,o,rfl⟩:=HA.out.is (by omega);have hx:=zWx (T:=T) (j:=i) (by rw [aR.out];exact hlt);obtain ⟨x,hxx⟩:∃x,xa T i=x:=⟨_,rfl⟩
   have hc:=((HA.out.below hb).cell hlt).2;rw [hxx] at hx hc;have hs:=zCD x;by_cases h0:x.length=0
   ·have hl:x.getLast?≠some 44:=by rw [List.length_eq_zero_iff.1 h0];simp
    rw [h0] at hs;have Di:=qH (zTt HU.out hx hl);have HT:=qH (show (T.take i).map zDo++[zDo x]=(T.take (i+1)).map zDo by rw [List.take_add_one,hx];simp);have my:Row X w.heap.size 1 B m d ((T.take i).map zDo):=hR;obtain ⟨Q,hQ⟩:∃Q,T.take i=Q:=⟨_,rfl⟩
    rw [hQ] at my;have HQ:=qH hQ;clear hx hxx h0 hl HU hR hQ;go_wp2_with (at_builtin;refine zLl rfl _ _ rfl my x rfl rfl (m+1) rfl (by omega) hz ?_;intro A2 c2 w9 hR9 aS)
    have bX:=hb.trans aS;clear my hb aS hc;go_wp2_with fail
    go_roundw
    case rel=>exact ⟨i+1,_,A2,m+1,c2,rfl,by omega,by go_num,rfl,by rw [←HT.out,HQ.out];simpa using hR9,bX,by omega,Di⟩
    case measure=>simp [intOf];omega
   ·obtain ⟨k,hk⟩:∃k,x.length=k+1:=⟨x.length-1,by omega⟩
    obtain ⟨b,ay,ai⟩:=zQu hk;have hnx:=zJi ay;have hup:=zRF (S:=x) (j:=k) (by omega);rw [hk] at hs;have q0:(0:Int) < ((k+1:Nat):Int):=by omega
    have hkk:k≤100000:=by have:=HW.out x (List.mem_of_getElem? hx);omega
    have q1:wrap64 (((k+1:Nat):Int)-1)=(k:Int):=by unfold wrap64;omega
    have q2:(((k+1:Nat):Int)-1)=(k:Int):=by omega
    have q4:IntKind.i64.wrap (((k+1:Nat):Int)-1)=(k:Int):=by rw [q2];exact IntWalk.i64_in _ (by omega)
    by_cases hq:b=44
    ·have q3:((b.toNat:Int)==44)=true:=by rw [hq];rfl
     have HT:=qH (show (T.take i).map zDo++[zDo (x.take k)]=(zEu T).map zDo by
      rw [zSw HU.out hx (ai.2 hq),List.dropLast_eq_take,hk];simp)
     generalize b.toNat=b0 at hnx q3;obtain ⟨Q,hQ⟩:∃Q,T.take i=Q:=⟨_,rfl⟩
     obtain ⟨y,hy⟩:∃y,x.take k=y:=⟨_,rfl⟩
     rw [hQ] at hR;rw [hy] at hup;have HQ:=qH hQ;have HY:=qH hy;clear hx hxx h0 hk ay ai hq HU hQ hy;go_wp2_with (at_builtin;refine zLl rfl _ _ rfl hR y rfl rfl (m+1) rfl (by omega) hz ?_;intro A2 c2 w9 hR9 aS)
     have bX:=hb.trans aS;have Dr:=qH hR9;clear hR hb aS hc hR9;go_wp2_with fail
     go_ret;exact ⟨A2,m+1,c2,rfl,by rw [←HT.out,HQ.out,HY.out];simpa using Dr.out,by omega,bX⟩
    ·have q3:((b.toNat:Int)==44)=false:=by
      simp only [beq_eq_false_iff_ne,ne_eq];intro e;exact hq (UInt8.toNat.inj (show b.toNat=44 by omega))
     have Di:=qH (zTt HU.out hx (fun e=>hq (ai.1 e)));have HT:=qH (show (T.take i).map zDo++[zDo x]=(T.take (i+1)).map zDo by rw [List.take_add_one,hx];simp);generalize b.toNat=b0 at hnx q3;obtain ⟨Q,hQ⟩:∃Q,T.take i=Q:=⟨_,rfl⟩
     rw [hQ] at hR;have HQ:=qH hQ;clear hx hxx h0 hk ay ai hq HU hQ hup;go_wp2_with (at_builtin;refine zLl rfl _ _ rfl hR x rfl rfl (m+1) rfl (by omega) hz ?_;intro A2 c2 w9 hR9 aS)
     have bX:=hb.trans aS;have Dr:=qH hR9;clear hR hb aS hc hR9;go_wp2_with fail
     go_roundw
     case rel=>exact ⟨i+1,_,A2,m+1,c2,rfl,by omega,by go_num,rfl,by rw [←HT.out,HQ.out];simpa using Dr.out,bX,by omega,Di⟩
     case measure=>simp [intOf];omega
  ·have j1:¬(i:Int) < (n:Int):=by omega
   have HT:=qH (show T.take i=zEu T by
    have h1:i=T.length:=by rw [aR.out];omega
    rw [HU.out,h1,List.drop_length,List.take_length];simp [zEu])
   have tg:=qH hR;clear HU hR;go_wp2_with fail
   go_ret;exact ⟨B,m,d,rfl,by rw [←HT.out];exact tg.out,by omega,hb⟩
end Go.Proofs.YtlmdfmnbcndhoaaGreatDoor
