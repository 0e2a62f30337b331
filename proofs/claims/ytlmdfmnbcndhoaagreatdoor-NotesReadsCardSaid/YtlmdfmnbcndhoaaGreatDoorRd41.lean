/-
  Lemmas for NotesReads, part 41: contracts and plain facts. Conditions: those that each theorem names.
-/
import Derived.Test.YtlmdfmnbcndhoaaGreatDoorRd40
namespace Go.Proofs.YtlmdfmnbcndhoaaGreatDoor
open Go.RowKit
theorem zFf {S:List UInt8} {k:Nat} (h:fnA S=k) (w:World):Calls Tryz.prog 99 #[.string (bA S)] w fun e w'=>e=.returned (.int .i64 (k:Int))∧Below w.heap.size w w':=by
 subst h;exact zLE S w
theorem Txts.below {w w':World} {A:Option Addr} {n:Nat} {T:List (List UInt8)} (h:Txts w A n T) (hb:Below w.heap.size w w'):Txts w' A n T:=Els.below h hb
theorem Txts.cell {w:World} {g o n:Nat} {T:List (List UInt8)} (h:Txts w (some ⟨g,o,none⟩) n T) {j:Nat} (hj:j < n):g < w.heap.size∧w.cell? ⟨g,o+j,none⟩=some (.string (bA (xa T j))):=by
 obtain ⟨g',o',e,hb,hc⟩:=h.2.2 (by omega);injection e with e
 injection e with e1 e2
 subst e1;subst e2
 have hx:T[j]? = some (xa T j):=by unfold xa;rw [List.getElem?_eq_getElem (by rw [h.len];exact hj)];rfl
 have:=hc j _ hx 0 _ rfl;rw [show o+j*1+0=o+j by omega] at this;exact ⟨hb,this⟩
theorem Txts.is {w:World} {A:Option Addr} {n:Nat} {T:List (List UInt8)} (h:Txts w A n T) (hn:0 < n):∃g o,A=some ⟨g,o,none⟩:=by
 obtain ⟨g,o,e,_⟩:=h.2.2 hn;exact ⟨g,o,e⟩
theorem zPO (f:Int) (b:Bool) (w:World):(Instr.build 29 #[(0,.int .i64 f),(2,.bool b)]).run Tryz.prog w=.ok (.agg #[.int .i64 f,.int .i64 0,.bool b,.int .i64 0]) w:=run_build w _ _ _ (by kernel_rfl)
theorem zWO {T:List (List UInt8)} {q:Bool} (h:(decide (4≤T.length)&&(xa T 2==zBM))=q):loF T=if q then (zIQ (xa T 3),4) else (0,2):=by
 subst h;unfold loF;simp
theorem zWP {T:List (List UInt8)} {k:Nat} {q:Bool} (h:(decide (k+2≤T.length)&&(xa T k==zAX))=q):piF T k=if q then (zIQ (xa T (k+1)),k+2) else (0,k):=by
 subst h;unfold piF;simp
theorem zSI {T:List (List UInt8)} (h:T.length < 2∨(neT (xa T 1)=false∧faT (xa T 1)=false)):zFT T=(s0,0):=by
 unfold zFT;rw [if_pos];rcases h with h | ⟨h1,h2⟩
 ·exact .inl h
 ·exact .inr ⟨by simpa [neT] using h1,by simpa [faT] using h2⟩
theorem zUv {T:List (List UInt8)} (h:¬T.length < 2) (h2:neT (xa T 1)=true∨faT (xa T 1)=true) :
  zFT T=(⟨fnA (xa T 0),(loF T).1,faT (xa T 1),(piF T (loF T).2).1⟩,(piF T (loF T).2).2):=by
 unfold zFT;rw [if_neg];rintro (e | ⟨e1,e2⟩)
 ·exact h e
 ·rcases h2 with h2 | h2
  ·exact e1 (by simpa [neT] using h2)
  ·exact e2 (by simpa [faT] using h2)
theorem zGa {B:Nat} {a b:World} {o:Obj} (hB:B≤b.heap.size) (h:Below B a b):Below B a (b.alloc o):=h.alloc hB o
theorem Blk.storeL4 {w:World} {g:Nat} {t:TypeId} {v0 v1 v2 v3:Value} (h:Blk w g t #[v0,v1,v2,v3]) (u0 u1 u2 u3:Value) :
  Blk ((((w.setCell ⟨g,0,none⟩ u0).setCell ⟨g,1,none⟩ u1).setCell ⟨g,2,none⟩ u2).setCell ⟨g,3,none⟩ u3) g t #[u0,u1,u2,u3]:=(((h.set_ 0 _).set_ 1 _).set_ 2 _).set_ 3 _
theorem zBF {a w:World} {g B:Nat} (h:Below B a w) (hB:B≤g) (u0 u1 u2 u3:Value) :
  Below B a ((((w.setCell ⟨g,0,none⟩ u0).setCell ⟨g,1,none⟩ u1).setCell ⟨g,2,none⟩ u2).setCell ⟨g,3,none⟩ u3) :=
 (((h.setCell (p:=⟨g,0,none⟩) hB _).setCell (p:=⟨g,1,none⟩) hB _).setCell (p:=⟨g,2,none⟩) hB _).setCell (p:=⟨g,3,none⟩) hB _
set_option maxHeartbeats 6400000 in
set_option maxRecDepth 100000 in
theorem zJg (A:Option Addr) (n c:Nat) (T:List (List UInt8)) (w:World) (hA:Txts w A n T) :
  Calls Tryz.prog 100 #[.slice A n c] w fun e w'=>e=.returned (.tuple #[sgV (zFT T).1,.int .i64 ((zFT T).2:Int)])∧Below w.heap.size w w':=by
 have hle:=hA.le;have HLN:=qH hA.len;have bz:=zJS;have bs:=zPO;have hba:Below w.heap.size w (w.alloc (.cells #[.int .i64 0,.int .i64 0,.bool false,.int .i64 0] 29)):=(Below.refl _ _).alloc (Nat.le_refl _) _;have hka:Blk (w.alloc (.cells #[.int .i64 0,.int .i64 0,.bool false,.int .i64 0] 29)) w.heap.size 29 #[.int .i64 0,.int .i64 0,.bool false,.int .i64 0]:=Blk.new _ _ _;have hAX:=hA.below hba;have HA0:=qH hA;by_cases h2:n < 2
 ·have HR:=qH (zSI (T:=T) (.inl (by rw [HLN.out];exact h2)));have i0:(n:Int) < 2:=by omega
  clear hA h2 hAX;go_enter Tryz.func100,Tryz.ntmps100;go_upto_region 1 with fail
  generalize w.alloc (.cells #[.int .i64 0,.int .i64 0,.bool false,.int .i64 0] 29)=X at hba hka ⊢;have c0:X.cell? ⟨w.heap.size,0,none⟩=some (.int .i64 0):=(hka.cell 0).trans rfl;have c1:X.cell? ⟨w.heap.size,1,none⟩=some (.int .i64 0):=(hka.cell 1).trans rfl;have c2:X.cell? ⟨w.heap.size,2,none⟩=some (.bool false):=(hka.cell 2).trans rfl;have c3:X.cell? ⟨w.heap.size,3,none⟩=some (.int .i64 0):=(hka.cell 3).trans rfl;have z0:=hka.frozen 0;have z1:=hka.frozen 1;have z2:=hka.frozen 2;have z3:=hka.frozen 3;have HS:=qH (Blk.storeL4 hka (.int .i64 0) (.int .i64 0) (.bool false) (.int .i64 0));have HBS:=qH (zBF hba (Nat.le_refl w.heap.size) (.int .i64 0) (.int .i64 0) (.bool false) (.int .i64 0));clear hba hka;go_wp2_with fail
  (try simp only [Exit.inBlock,Exit.then])
  exact zAB rfl rfl rfl HS.out Tryz.underlying29 rfl (by kernel_rfl) rfl ⟨by rw [HR.out];rfl,HBS.out⟩
 have i0:¬(n:Int) < 2:=by omega
 obtain ⟨g,o,rfl⟩:=hA.is (by omega);obtain ⟨hg,x0⟩:=hAX.cell (j:=0) (by omega);obtain ⟨_,x1⟩:=hAX.cell (j:=1) (by omega);have j0:(0:Int) < (n:Int):=by omega
 have j1:(1:Int) < (n:Int):=by omega
 have j2:0 < n:=by omega
 have j3:1 < n:=by omega
 rw [show o+0=o from rfl] at x0;have hnl:¬T.length < 2:=by rw [HLN.out];exact h2
 have HAX:=qH hAX;obtain ⟨W1,hW1⟩:∃W,xa T 1=W:=⟨_,rfl⟩
 obtain ⟨W0,hW0⟩:∃W,xa T 0=W:=⟨_,rfl⟩
 rw [hW1] at x1;rw [hW0] at x0;have n1:=zAo W1 [110,101,97,114];have n2:=zAo W1 [102,97,114];obtain ⟨b1,hb1⟩:∃b,neT W1=b:=⟨_,rfl⟩
 obtain ⟨b2,hb2⟩:∃b,faT W1=b:=⟨_,rfl⟩
 rw [show (W1==[110,101,97,114])=b1 from hb1] at n1;rw [show (W1==[102,97,114])=b2 from hb2] at n2;by_cases hbb:b1=false∧b2=false
 ·obtain ⟨rfl,rfl⟩:=hbb;have HR:=qH (zSI (T:=T) (.inr ⟨by rw [hW1];exact hb1,by rw [hW1];exact hb2⟩));clear hA hAX hnl hW1 hW0 hb1 hb2 h2;go_enter Tryz.func100,Tryz.ntmps100;go_upto_region 1 with fail
  generalize w.alloc (.cells #[.int .i64 0,.int .i64 0,.bool false,.int .i64 0] 29)=X at hba hka x0 x1 hg HAX ⊢;have c0:X.cell? ⟨w.heap.size,0,none⟩=some (.int .i64 0):=(hka.cell 0).trans rfl;have c1:X.cell? ⟨w.heap.size,1,none⟩=some (.int .i64 0):=(hka.cell 1).trans rfl;have c2:X.cell? ⟨w.heap.size,2,none⟩=some (.bool false):=(hka.cell 2).trans rfl;have c3:X.cell? ⟨w.heap.size,3,none⟩=some (.int .i64 0):=(hka.cell 3).trans rfl;have z0:=hka.frozen 0;have z1:=hka.frozen 1;have z2:=hka.frozen 2;have z3:=hka.frozen 3;have HS:=qH (Blk.storeL4 hka (.int .i64 0) (.int .i64 0) (.bool false) (.int .i64 0));have HBS:=qH (zBF hba (Nat.le_refl w.heap.size) (.int .i64 0) (.int .i64 0) (.bool false) (.int .i64 0));clear hba hka;go_wp2_with fail
  (try simp only [Exit.inBlock,Exit.then])
  exact zAB rfl rfl rfl HS.out Tryz.underlying29 rfl (by kernel_rfl) rfl ⟨by rw [HR.out];rfl,HBS.out⟩
 have hbb2:b1=true∨b2=true:=by cases b1<;>cases b2<;>simp at hbb ⊢
 have HR:=qH (zUv hnl (by rw [hW1,hb1,hb2];exact hbb2));rw [hW1,hb2,hW0] at HR;obtain ⟨F0,hF0⟩:∃k,fnA W0=k:=⟨_,rfl⟩
 rw [hF0] at HR;have HFN:=qH (fun w=>zFf hF0 w);have HTST:=qH (show (b1 != true&&b2 != true)=false by cases b1<;>cases b2<;>simp at hbb ⊢);clear hA hAX hnl hW1 hW0 hb1 hb2 h2 hbb hF0;obtain ⟨l1,N1,hlo⟩:∃l k,loF T=(l,k):=⟨_,_,rfl⟩
 obtain ⟨p1,N2,hpi⟩:∃l k,piF T N1=(l,k):=⟨_,_,rfl⟩
 simp only [hlo,hpi] at HR;have HLO:=qH hlo;have HPI:=qH hpi;rw [HR.out];clear HR hlo hpi;go_enter Tryz.func100,Tryz.ntmps100;go_upto_region 1 with fail
 generalize w.alloc (.cells #[.int .i64 0,.int .i64 0,.bool false,.int .i64 0] 29)=X at hba hka x0 x1 hg HAX ⊢;have HBA:=qH hba;have HKA:=qH hka;have HX:=qH (show g < X.heap.size∧X.cell? ⟨g,o,none⟩=some (.string (bA W0))∧X.cell? ⟨g,o+1,none⟩=some (.string (bA W1)) from ⟨hg,x0,x1⟩);have KP:=qH (show ∀wx,Below X.heap.size X wx→(Below X.heap.size X wx∧wx.cell? ⟨g,o,none⟩=some (.string (bA W0))∧wx.cell? ⟨g,o+1,none⟩=some (.string (bA W1))) from fun wx h=>⟨h,(h.cell (p:=⟨g,o,none⟩) HX.out.1).trans HX.out.2.1,(h.cell (p:=⟨g,o+1,none⟩) HX.out.1).trans HX.out.2.2⟩);clear hba hka hg;have hsplit:∃q:Bool,(b1=true∧q=true)∨(b1=false∧b2=true∧q=true):=by
  cases b1
  ·exact ⟨true,.inr ⟨rfl,by simpa using hbb2,rfl⟩⟩
  ·exact ⟨true,.inl ⟨rfl,rfl⟩⟩
 clear hbb2;go_upto_region 1 with fail
 go_cut [20] (fun v20 wv=>v20=.bool false∧X=wv)
 case first =>
  rcases hsplit with ⟨q,⟨rfl,_⟩ | ⟨rfl,rfl,_⟩⟩
  ·go_wp2_with fail
   go_meet
   case rel=>exact ⟨rfl,rfl⟩
  ·go_wp2_with fail
   go_meet
   case rel=>exact ⟨rfl,rfl⟩
 case rest =>
  obtain ⟨rfl,hX⟩:=hcut;subst hX;clear x0 x1;go_upto_region 3 with fail
  have gq0:=(KP.out X (Below.refl _ _)).2.1;have gq1:=(KP.out X (Below.refl _ _)).2.2;go_cut [4] (fun v4 wv=>∃(V:World) (b4:Nat),V=wv∧v4=.pointer (some ⟨b4,0,none⟩)∧Blk V b4 29 #[.int .i64 (F0:Int),.int .i64 0,.bool b2,.int .i64 0]∧X.heap.size≤b4∧Below X.heap.size X V)
  case first =>
   go_region_held3 (fun wx=>Below X.heap.size X wx∧wx.cell? ⟨g,o,none⟩=some (.string (bA W0))∧wx.cell? ⟨g,o+1,none⟩=some (.string (bA W1))) (first | (with_reducible refine KP.out _ ?_;repeat (first | with_reducible assumption | with_reducible exact And.left (by assumption) | ((with_reducible refine zBF ?_ ?_ _ _ _ _);rotate_left;(focus first | omega | (simp;done) | (simp;omega))) | with_reducible exact Below.refl _ _ | with_reducible apply Below.drew | ((with_reducible refine zGa ?_ ?_);focus (first | omega | (simp;done) | (simp;omega))))))
    (first | (go_at_call 99;refine (HFN.out _).mono ?_;rintro e wd ⟨rfl,hbd⟩;have hbq:Below X.heap.size X wd:=zAa (And.left (by assumption)) hbd (Below.size (And.left (by assumption)));have hz:=Below.size hbq;(try (refine (fun (kk0:Blk wd X.heap.size 29 #[.int .i64 0,.int .i64 0,.bool false,.int .i64 0])=>?_) (Blk.below ?_ hbd ?_);rotate_left;(focus first | exact Blk.drew (Blk.new _ _ _) | exact Blk.new _ _ _);(focus first | (simp;done) | (simp;omega));have yy0:wd.cell? ⟨X.heap.size,0,none⟩=some (.int .i64 0):=(kk0.cell 0).trans rfl;have ff0:=kk0.frozen 0;have yy1:wd.cell? ⟨X.heap.size,1,none⟩=some (.int .i64 0):=(kk0.cell 1).trans rfl;have ff1:=kk0.frozen 1;have yy2:wd.cell? ⟨X.heap.size,2,none⟩=some (.bool false):=(kk0.cell 2).trans rfl;have ff2:=kk0.frozen 2;have yy3:wd.cell? ⟨X.heap.size,3,none⟩=some (.int .i64 0):=(kk0.cell 3).trans rfl;have ff3:=kk0.frozen 3))))
   all_goals
    go_wp2_with fail
    go_meet
   all_goals refine ⟨_,_,rfl,rfl,?_,?_,?_⟩
   all_goals first
    | with_reducible exact Blk.new _ _ _
    | with_reducible exact hz
    | with_reducible exact hbq.alloc hz _
    | with_reducible exact Blk.storeL4 kk0 (.int .i64 (F0:Int)) (.int .i64 0) (.bool b2) (.int .i64 0)
    | with_reducible exact Nat.le_refl _
    | with_reducible exact zBF hbq (Nat.le_refl _) (.int .i64 (F0:Int)) (.int .i64 0) (.bool b2) (.int .i64 0)
  case rest =>
   obtain ⟨V,b4,hV,rfl,k4,hge,hbv⟩:=hcut;subst hV;have hbw:=zAa HBA.out hbv HBA.out.size;have HVX:=qH (HAX.out.below hbv);have HKV:=qH (HKA.out.below hbv HKA.out.lt);have hlt:w.heap.size < b4:=Nat.lt_of_lt_of_le HKA.out.lt hge;clear gq0 gq1 hbv hge
   -- loop
   obtain ⟨q,hq⟩:∃q,(decide (4≤T.length)&&(xa T 2==zBM))=q:=⟨_,rfl⟩
   have HLQ:=qH (HLO.out.symm.trans (zWO hq));rw [HLN.out] at hq;have HQ:=qH hq;have HK4:=qH k4;have HBW:=qH hbw;clear hq k4 hbw;go_upto_region 5 with fail
   go_cut [42] (fun v42 wv=>v42=.bool q∧V=wv)
   case first =>
    by_cases h4:4≤n
    ·have i4:(2:Int)+2≤(n:Int):=by omega
     have i5:(4:Int)≤(n:Int):=by omega
     have x2:=(HVX.out.cell (j:=2) (by omega)).2;have n3:=zAo (xa T 2) zBM;have hq2:(xa T 2==zBM)=q:=by rw [←HQ.out,decide_eq_true h4,Bool.true_and]
     rw [hq2] at n3;have j4:(2:Int) < (n:Int):=by omega
     generalize xa T 2=W2 at x2 n3;clear hq2 h4;go_wp2_with fail
     go_meet
     case rel=>exact ⟨rfl,rfl⟩
    ·have i4:¬(4:Int)≤(n:Int):=by omega
     have hq2:q=false:=by rw [←HQ.out,decide_eq_false h4];rfl
     subst hq2;clear h4;go_wp2_with fail
     go_meet
     case rel=>exact ⟨rfl,rfl⟩
   case rest =>
    obtain ⟨rfl,hV⟩:=hcut;subst hV;go_upto_if 42 with fail
    go_cut [5] (fun v5 wv=>∃U:World,U=wv∧v5=.int .i64 (N1:Int)∧Blk U b4 29 #[.int .i64 (F0:Int),.int .i64 l1,.bool b2,.int .i64 0]∧Blk U w.heap.size 29 #[.int .i64 0,.int .i64 0,.bool false,.int .i64 0]∧Below w.heap.size w U)
    case first =>
     cases q with
     | false =>
      obtain ⟨rfl,rfl⟩:l1=0∧N1=2:=by have h:=HLQ.out;rw [if_neg (by simp)] at h;exact ⟨congrArg Prod.fst h,congrArg Prod.snd h⟩
      go_wp2_with fail
      go_meet
      case rel=>exact ⟨_,rfl,rfl,HK4.out,HKV.out,HBW.out⟩
     | true =>
      have h4:4≤n:=by have h:=HQ.out;simp only [Bool.and_eq_true,decide_eq_true_eq] at h;exact h.1
      obtain ⟨hl1,rfl⟩:l1=zIQ (xa T 3)∧N1=4:=by have h:=HLQ.out;rw [if_pos rfl] at h;exact ⟨congrArg Prod.fst h,congrArg Prod.snd h⟩
      have HNA:=qH (fun w=>zHV hl1.symm w);have x3:=(HVX.out.cell (j:=3) (by omega)).2;have i6:(3:Int) < (n:Int):=by omega
      have i7:3 < n:=by omega
      generalize xa T 3=W3 at x3 HNA hl1;clear hl1 h4;go_wp2_with fail
      refine (HNA.out _).mono ?_;rintro e U ⟨rfl,hbu⟩;have kk4:=HK4.out.below hbu HK4.out.lt;have kkr:=HKV.out.below hbu HKV.out.lt;have hbw:=zAa HBW.out hbu HBW.out.size;have y1:U.cell? ⟨b4,1,none⟩=some (.int .i64 0):=(kk4.cell 1).trans rfl;have yz:=kk4.frozen 1;have RS:=qH (show Blk (U.setCell ⟨b4,1,none⟩ (.int .i64 l1)) b4 29 #[.int .i64 (F0:Int),.int .i64 l1,.bool b2,.int .i64 0]∧Blk (U.setCell ⟨b4,1,none⟩ (.int .i64 l1)) w.heap.size 29 #[.int .i64 0,.int .i64 0,.bool false,.int .i64 0]∧Below w.heap.size w (U.setCell ⟨b4,1,none⟩ (.int .i64 l1)) from ⟨kk4.set_ 1 _,kkr.far (p:=⟨b4,1,none⟩) (Nat.ne_of_lt hlt) _,hbw.setCell (p:=⟨b4,1,none⟩) (Nat.le_of_lt hlt) _⟩);clear kk4 kkr hbw hbu;go_wp2_with fail
      go_meet
      case rel=>exact ⟨_,rfl,rfl,RS.out⟩
    case rest =>
     obtain ⟨U,hU,rfl,k4,kr,hbw⟩:=hcut;subst hU;have hN1:N1≤4:=by have h:=HLQ.out;cases q<;>simp at h<;>omega
     have HUX:=qH (HA0.out.below hbw);obtain ⟨q2,hq2⟩:∃q,(decide (N1+2≤T.length)&&(xa T N1==zAX))=q:=⟨_,rfl⟩
     have HPQ:=qH (HPI.out.symm.trans (zWP hq2));rw [HLN.out] at hq2;have HQ2:=qH hq2;have HK4:=qH k4;have HKR:=qH kr;have HBW:=qH hbw;clear hq2 k4 kr hbw HVX HKV HLQ HQ;go_upto_region 8 with fail
     go_cut [63] (fun v63 wv=>v63=.bool q2∧U=wv)
     case first =>
      by_cases h4:N1+2≤n
      ·have i4:(N1:Int)+2≤(n:Int):=by omega
       have x2:=(HUX.out.cell (j:=N1) (by omega)).2;have n3:=zAo (xa T N1) zAX;have hq3:(xa T N1==zAX)=q2:=by rw [←HQ2.out,decide_eq_true h4,Bool.true_and]
       rw [hq3] at n3;have j4:(N1:Int) < (n:Int):=by omega
       have j5:(0:Int)≤(N1:Int):=by omega
       have j6:N1 < n:=by omega
       generalize xa T N1=W2 at x2 n3;clear hq3 h4;go_wp2_with fail
       go_meet
       case rel=>exact ⟨rfl,rfl⟩
      ·have i4:¬(N1:Int)+2≤(n:Int):=by omega
       have hq3:q2=false:=by rw [←HQ2.out,decide_eq_false h4];rfl
       subst hq3;clear h4;go_wp2_with fail
       go_meet
       case rel=>exact ⟨rfl,rfl⟩
     case rest =>
      obtain ⟨rfl,hV⟩:=hcut;subst hV;go_upto_if 63 with fail
      go_cut [5] (fun v5 wv=>∃V:World,V=wv∧v5=.int .i64 (N2:Int)∧Blk V b4 29 #[.int .i64 (F0:Int),.int .i64 l1,.bool b2,.int .i64 p1]∧Blk V w.heap.size 29 #[.int .i64 0,.int .i64 0,.bool false,.int .i64 0]∧Below w.heap.size w V)
      case first =>
       cases q2 with
       | false =>
        obtain ⟨rfl,rfl⟩:p1=0∧N2=N1:=by have h:=HPQ.out;rw [if_neg (by simp)] at h;exact ⟨congrArg Prod.fst h,congrArg Prod.snd h⟩
        go_wp2_with fail
        go_meet
        case rel=>exact ⟨_,rfl,rfl,HK4.out,HKR.out,HBW.out⟩
       | true =>
        have h4:N1+2≤n:=by have h:=HQ2.out;simp only [Bool.and_eq_true,decide_eq_true_eq] at h;exact h.1
        obtain ⟨hl1,rfl⟩:p1=zIQ (xa T (N1+1))∧N2=N1+2:=by have h:=HPQ.out;rw [if_pos rfl] at h;exact ⟨congrArg Prod.fst h,congrArg Prod.snd h⟩
        have HNA:=qH (fun w=>zHV hl1.symm w);have x3:=(HUX.out.cell (j:=N1+1) (by omega)).2;have i6:(N1:Int)+1 < (n:Int):=by omega
        have i7:N1+1 < n:=by omega
        have i8:(0:Int)≤(N1:Int)+1:=by omega
        have i9:((N1:Int)+1).toNat=N1+1:=by omega
        generalize xa T (N1+1)=W3 at x3 HNA hl1;clear hl1 h4;go_wp2_with fail
        refine (HNA.out _).mono ?_;rintro e V ⟨rfl,hbu⟩;have kk4:=HK4.out.below hbu HK4.out.lt;have kkr:=HKR.out.below hbu HKR.out.lt;have hbw:=zAa HBW.out hbu HBW.out.size;have y1:V.cell? ⟨b4,3,none⟩=some (.int .i64 0):=(kk4.cell 3).trans rfl;have yz:=kk4.frozen 3;have RS:=qH (show Blk (V.setCell ⟨b4,3,none⟩ (.int .i64 p1)) b4 29 #[.int .i64 (F0:Int),.int .i64 l1,.bool b2,.int .i64 p1]∧Blk (V.setCell ⟨b4,3,none⟩ (.int .i64 p1)) w.heap.size 29 #[.int .i64 0,.int .i64 0,.bool false,.int .i64 0]∧Below w.heap.size w (V.setCell ⟨b4,3,none⟩ (.int .i64 p1)) from ⟨kk4.set_ 3 _,kkr.far (p:=⟨b4,3,none⟩) (Nat.ne_of_lt hlt) _,hbw.setCell (p:=⟨b4,3,none⟩) (Nat.le_of_lt hlt) _⟩);clear kk4 kkr hbw hbu;go_wp2_with fail
        go_meet
        case rel=>exact ⟨_,rfl,by go_num,RS.out⟩
      case rest =>
       obtain ⟨V,hV,rfl,k4,kr,hbw⟩:=hcut;subst hV;have f0:V.cell? ⟨b4,0,none⟩=some (.int .i64 (F0:Int)):=(k4.cell 0).trans rfl;have f1:V.cell? ⟨b4,1,none⟩=some (.int .i64 l1):=(k4.cell 1).trans rfl;have f2:V.cell? ⟨b4,2,none⟩=some (.bool b2):=(k4.cell 2).trans rfl;have f3:V.cell? ⟨b4,3,none⟩=some (.int .i64 p1):=(k4.cell 3).trans rfl;have c0:V.cell? ⟨w.heap.size,0,none⟩=some (.int .i64 0):=(kr.cell 0).trans rfl;have c1:V.cell? ⟨w.heap.size,1,none⟩=some (.int .i64 0):=(kr.cell 1).trans rfl;have c2:V.cell? ⟨w.heap.size,2,none⟩=some (.bool false):=(kr.cell 2).trans rfl;have c3:V.cell? ⟨w.heap.size,3,none⟩=some (.int .i64 0):=(kr.cell 3).trans rfl;have z0:=kr.frozen 0;have z1:=kr.frozen 1;have z2:=kr.frozen 2;have z3:=kr.frozen 3;have HS:=qH (Blk.storeL4 kr (.int .i64 (F0:Int)) (.int .i64 l1) (.bool b2) (.int .i64 p1));have HBS:=qH (zBF hbw (Nat.le_refl w.heap.size) (.int .i64 (F0:Int)) (.int .i64 l1) (.bool b2) (.int .i64 p1));clear kr hbw k4;go_wp2_with fail
       (try simp only [Exit.inBlock,Exit.then])
       exact zAB rfl rfl rfl HS.out Tryz.underlying29 rfl (by kernel_rfl) rfl ⟨rfl,HBS.out⟩
section
variable {T:List (List UInt8)} {i:Nat} {x:List UInt8}
theorem zSJ (h:T[i]? = some x):T.drop i=x :: T.drop (i+1):=by
 obtain ⟨hi,e⟩:=List.getElem?_eq_some_iff.1 h;rw [List.drop_eq_getElem_cons hi,e]
theorem zRQ (h:zEq T=T.take i++zEq (T.drop i)) (hx:T[i]? = some x) (hl:x.getLast? = some 44):zEq T=T.take i++[x.dropLast]:=by
 rw [h,zSJ hx,zEq,if_pos hl]
theorem zSK (h:zEq T=T.take i++zEq (T.drop i)) (hx:T[i]? = some x) (hl:x.getLast?≠some 44):zEq T=T.take (i+1)++zEq (T.drop (i+1)):=by
 rw [h,zSJ hx,zEq,if_neg hl,List.take_add_one,hx];simp
end
theorem zVN {T:List (List UInt8)} {j:Nat} (hj:j < T.length):T[j]? = some (xa T j):=by unfold xa;rw [List.getElem?_eq_getElem hj];rfl
theorem zPP {x:List UInt8} {k:Nat} (h:x.length=k+1):∃b,x[k]? = some b∧(x.getLast? = some 44↔b=44):=by
 have hk:k < x.length:=by omega
 refine ⟨x[k],List.getElem?_eq_getElem hk,?_⟩;rw [List.getLast?_eq_getElem?,show x.length-1=k by omega,List.getElem?_eq_getElem hk];simp
set_option maxHeartbeats 3200000 in
theorem zKr (A:Option Addr) (n c:Nat) (T:List (List UInt8)) (w:World) (hA:Txts w A n T) (hn:n≤100001) (hw:∀p∈T,p.length≤100000) :
  Calls Tryz.prog 151 #[.slice A n c] w (zCM w (zEq T)):=by
 have HLN:=qH hA.len;have HA:=qH hA;have HW:=qH hw;clear hA hw;go_enter Tryz.func151,Tryz.ntmps151;go_wp2_with fail
 go_loopw [3,4] (fun v3 v4 wv=>∃(i:Nat) (X:World) (B:Option Addr) (m d:Nat),X=wv∧i≤n∧v4=.int .i64 i∧v3=.slice B m d∧Row X w.heap.size 1 B m d ((T.take i).map zDm)∧Below w.heap.size w X∧m≤i∧Hid (zEq T=T.take i++zEq (T.drop i))) (fun _ v4 _=>n-(intOf v4).toNat)
 case atStart=>exact ⟨0,_,none,0,0,rfl,by omega,rfl,rfl,Row.none_ _ _ _,Below.refl _ _,by omega,qH (by simp)⟩
 case round =>
  obtain ⟨i,X,B,m,d,hX,hi,rfl,rfl,hR,hb,hm,HU⟩:=hrel;subst hX;have hz:w.heap.size≤X.heap.size:=hb.size;by_cases hlt:i < n
  ·have j0:(0:Int)≤(i:Int):=by omega
   have j1:(i:Int) < (n:Int):=by omega
   obtain ⟨g,o,rfl⟩:=HA.out.is (by omega);have hx:=zVN (T:=T) (j:=i) (by rw [HLN.out];exact hlt);obtain ⟨x,hxx⟩:∃x,xa T i=x:=⟨_,rfl⟩
   have hc:=((HA.out.below hb).cell hlt).2;rw [hxx] at hx hc;have hs:=zCY x;by_cases h0:x.length=0
   ·have hl:x.getLast?≠some 44:=by rw [List.length_eq_zero_iff.1 h0];simp
    rw [h0] at hs;have HU2:=qH (zSK HU.out hx hl);have HT:=qH (show (T.take i).map zDm++[zDm x]=(T.take (i+1)).map zDm by rw [List.take_add_one,hx];simp);have hR2:Row X w.heap.size 1 B m d ((T.take i).map zDm):=hR;obtain ⟨Q,hQ⟩:∃Q,T.take i=Q:=⟨_,rfl⟩
    rw [hQ] at hR2;have HQ:=qH hQ;clear hx hxx h0 hl HU hR hQ;go_wp2_with (at_builtin;refine zKQ rfl _ _ rfl hR2 x rfl rfl (m+1) rfl (by omega) hz ?_;intro A2 c2 w9 hR9 hb9)
    have hb10:=hb.trans hb9;clear hR2 hb hb9 hc;go_wp2_with fail
    go_roundw
    case rel=>exact ⟨i+1,_,A2,m+1,c2,rfl,by omega,by go_num,rfl,by rw [←HT.out,HQ.out];simpa using hR9,hb10,by omega,HU2⟩
    case measure=>simp [intOf];omega
   ·obtain ⟨k,hk⟩:∃k,x.length=k+1:=⟨x.length-1,by omega⟩
    obtain ⟨b,hb1,hb2⟩:=zPP hk;have hnx:=zIT hb1;have hup:=zQZ (S:=x) (j:=k) (by omega);rw [hk] at hs;have q0:(0:Int) < ((k+1:Nat):Int):=by omega
    have hkk:k≤100000:=by have:=HW.out x (List.mem_of_getElem? hx);omega
    have q1:wrap64 (((k+1:Nat):Int)-1)=(k:Int):=by unfold wrap64;omega
    have q2:(((k+1:Nat):Int)-1)=(k:Int):=by omega
    have q4:IntKind.i64.wrap (((k+1:Nat):Int)-1)=(k:Int):=by rw [q2];exact IntWalk.i64_in _ (by omega)
    by_cases hq:b=44
    ·have q3:((b.toNat:Int)==44)=true:=by rw [hq];rfl
     have HT:=qH (show (T.take i).map zDm++[zDm (x.take k)]=(zEq T).map zDm by
      rw [zRQ HU.out hx (hb2.2 hq),List.dropLast_eq_take,hk];simp)
     generalize b.toNat=b0 at hnx q3;obtain ⟨Q,hQ⟩:∃Q,T.take i=Q:=⟨_,rfl⟩
     obtain ⟨y,hy⟩:∃y,x.take k=y:=⟨_,rfl⟩
     rw [hQ] at hR;rw [hy] at hup;have HQ:=qH hQ;have HY:=qH hy;clear hx hxx h0 hk hb1 hb2 hq HU hQ hy;go_wp2_with (at_builtin;refine zKQ rfl _ _ rfl hR y rfl rfl (m+1) rfl (by omega) hz ?_;intro A2 c2 w9 hR9 hb9)
     have hb10:=hb.trans hb9;have HR9:=qH hR9;clear hR hb hb9 hc hR9;go_wp2_with fail
     go_ret;exact ⟨A2,m+1,c2,rfl,by rw [←HT.out,HQ.out,HY.out];simpa using HR9.out,by omega,hb10⟩
    ·have q3:((b.toNat:Int)==44)=false:=by
      simp only [beq_eq_false_iff_ne,ne_eq];intro e;exact hq (UInt8.toNat.inj (show b.toNat=44 by omega))
     have HU2:=qH (zSK HU.out hx (fun e=>hq (hb2.1 e)));have HT:=qH (show (T.take i).map zDm++[zDm x]=(T.take (i+1)).map zDm by rw [List.take_add_one,hx];simp);generalize b.toNat=b0 at hnx q3;obtain ⟨Q,hQ⟩:∃Q,T.take i=Q:=⟨_,rfl⟩
     rw [hQ] at hR;have HQ:=qH hQ;clear hx hxx h0 hk hb1 hb2 hq HU hQ hup;go_wp2_with (at_builtin;refine zKQ rfl _ _ rfl hR x rfl rfl (m+1) rfl (by omega) hz ?_;intro A2 c2 w9 hR9 hb9)
     have hb10:=hb.trans hb9;have HR9:=qH hR9;clear hR hb hb9 hc hR9;go_wp2_with fail
     go_roundw
     case rel=>exact ⟨i+1,_,A2,m+1,c2,rfl,by omega,by go_num,rfl,by rw [←HT.out,HQ.out];simpa using HR9.out,hb10,by omega,HU2⟩
     case measure=>simp [intOf];omega
  ·have j1:¬(i:Int) < (n:Int):=by omega
   have HT:=qH (show T.take i=zEq T by
    have h1:i=T.length:=by rw [HLN.out];omega
    rw [HU.out,h1,List.drop_length,List.take_length];simp [zEq])
   have HRR:=qH hR;clear HU hR;go_wp2_with fail
   go_ret;exact ⟨B,m,d,rfl,by rw [←HT.out];exact HRR.out,by omega,hb⟩
end Go.Proofs.YtlmdfmnbcndhoaaGreatDoor
