/-
  Lemmas, part 41. Conditions: each theorem's own.
-/
import Derived.Test.YtlmdfmnbcndhoaaGreatDoorRc37
import Derived.Test.YtlmdfmnbcndhoaaGreatDoorRc40
import Derived.Deep.CutBlock
import Derived.Test.YtlmdfmnbcndhoaaGreatDoorRc38
import Derived.Test.YtlmdfmnbcndhoaaGreatDoorRc05
open Go.Value renaming bool→G,int→D,slice→H,string→W
open Go.IntKind renaming i64→J
open Bool renaming false→E,true→Q
open Option renaming none→U,some→Z
namespace Go.Proofs.YtlmdfmnbcndhoaaGreatDoor
open Go.RowKit
def zOA (b:Bi):List Value:=[D J b.f,D J b.n,G b.b,G Q]
theorem zSV (b:Bi):(zOA b).length=4:=rfl
theorem zTM:(Tryz.prog.info? 132).map (fun i=>(i.zero,i.size,i.bytes))=Z (Z (.agg #[D J 0,D J 0,G E,G E]),4,24):=by kernel_rfl
theorem zQL (w:World):(Instr.build 132 #[]).run Tryz.prog w=.ok (.agg #[D J 0,D J 0,G E,G E]) w:=run_build w _ _ _ (by kernel_rfl)
theorem zQM (n:Int) (b ok:Bool) (w:World):(Instr.build 132 #[(1,D J n),(2,G b),(3,G ok)]).run Tryz.prog w=.ok (.agg #[D J 0,D J n,G b,G ok]) w:=run_build w _ _ _ (by kernel_rfl)
theorem zQN (f n:Int) (b ok:Bool) (w:World):(Instr.build 132 #[(0,D J f),(1,D J n),(2,G b),(3,G ok)]).run Tryz.prog w=.ok (.agg #[D J f,D J n,G b,G ok]) w:=run_build w _ _ _ (by kernel_rfl)
theorem zVs (f n:Int) (b ok:Bool) (w:World):(Instr.buildSlice 130 1 #[(0,.agg #[D J f,D J n,G b,G ok])]).run Tryz.prog w =
  .ok (H (Z ⟨w.heap.size,0,U⟩) 1 1) (w.alloc (.cells #[D J f,D J n,G b,G ok] 132)):=by
 obtain ⟨i0,hi,aT,az,bt⟩:=info_parts zTM;refine run_buildSlice w _ _ 1 _ _ i0 _ Tryz.underlying130 hi aT (by rw [az];omega) (by rw [az];omega) ?_;rw [az]
 kernel_rfl
theorem zWT {w:World} {ops:Array Oper} {rest:List Oper} {o:Oper} {a:Act} {ZS:Exit→Act→World→Prop} (hgd:o.guard=U) (s x:Operand)
  (ho:o.op=.call { callee:=.builtin .append,args:=#[s,x],argTypes:=#[130,130] })
  {base:Nat} {A:Option Addr} {n c:Nat} {P:List Bi} (hst:Row w base 4 A n c (P.flatMap zOA)) (y:Bi)
  (hs:a.eval s=H A n c) (hx:a.eval x=H (Z ⟨w.heap.size,0,U⟩) 1 1) (N:Nat) (hN:n+1=N) (hn:N≤1000000) (hbase:base≤w.heap.size)
  (h:∀A' c' w',Row w' base 4 A' N c' ((P++[y]).flatMap zOA)→w.grownBy w' (blk A)→(∀k,blk A'=Z k→blk A=Z k∨w.heap.size≤k)→wpList Tryz.prog ops ZS rest (a.put o.dst (H A' N c')) w') :
  wpList Tryz.prog ops ZS (o :: rest) a (w.alloc (.cells #[D J y.f,D J y.n,G y.b,G Q] 132)):=by
 obtain ⟨i0,hi,aT,az,bt⟩:=info_parts zTM;have hbl:=(Below.refl w.heap.size w).alloc (Nat.le_refl _) (.cells #[D J y.f,D J y.n,G y.b,G Q] 132);have bO:=hst.below hbl
 refine zOy hgd s x 130 ho 132 i0 _ 4 24 Tryz.underlying130 hi aT az bt rfl (by decide) bO (Src.new (m:=1) (cs:=zOA y) rfl)
  (by intro u hu;simp [zOA] at hu;rcases hu with rfl | rfl | rfl | rfl<;>rfl) hs hx N hN (by unfold maxLen;omega) (by omega) (by simp;omega) ?_
 intro A' c' w' h1 h2 h3 _;refine h A' c' w' (by rw [List.flatMap_append];simpa using h1) ?_ (fun k hk=>?_)
 ·exact zAb (zAv hbl) h2
 ·rcases h3 k hk with e | e
  ·exact .inl e
  ·exact .inr (by simp at e;omega)
theorem zJU {w:World} {base c N:Nat} {B:Option Addr} {M:List Bi} {q:Nat} (h:Row w base 4 B N c (M.flatMap zOA)) (hq:q < M.length) (hN:q < N) :
  ∃g o,B=Z ⟨g,o,U⟩∧g < w.heap.size∧w.cell? ⟨g,o+q*4,U⟩=Z (D J (ba M q).f)∧w.cell? ⟨g,o+q*4+1,U⟩=Z (D J (ba M q).n)∧w.cell? ⟨g,o+q*4+2,U⟩=Z (G (ba M q).b)∧w.cell? ⟨g,o+q*4+3,U⟩=Z (G Q):=by
 obtain ⟨g,o,rfl,_,hlt⟩:=h.form (by omega);have key:∀t u,t < 4→(zOA (ba M q))[t]? = Z u→w.cell? ⟨g,o+q*4+t,U⟩=Z u:=fun t u ht hu=>by
  have h1:=zEL zOA 4 zSV _ q t _ (zCK hq) ht;have h2:=h.cell (j:=q*4+t) (u:=u) (by rw [h1];exact hu)
  rwa [show o+(q*4+t)=o+q*4+t by omega] at h2
 exact ⟨g,o,rfl,hlt,key 0 _ (by omega) rfl,key 1 _ (by omega) rfl,key 2 _ (by omega) rfl,key 3 _ (by omega) rfl⟩
theorem zJV {S:List UInt8} {b c:UInt8} (h:S.getLast? = Z b):zAZ S c=decide (b=c):=by unfold zAZ;rw [h];simp
set_option maxHeartbeats 6400000 in
set_option maxRecDepth 100000 in
theorem zQO (S:List UInt8) (hS:S.length≤8000) (w:World) :
  Calls Tryz.prog 84 #[W (bA S)] w fun e w'=>e=.returned (.agg #[D J (rdT S).f,D J (rdT S).n,G (rdT S).b,G (rdT S).ok])∧Below w.heap.size w w':=by
 have b0:=zQL;have b3:=zQM;have b4:=zQN;have hs:=zCU S;obtain ⟨r,hr⟩:∃r,rdT S=r:=⟨_,rfl⟩
 rw [hr];have HR:=qH hr;have HB:=qH (Below.refl w.heap.size w);clear hr;by_cases h2:S.length < 2
 ·obtain rfl:tk0=r:=by rw [←HR.out];unfold rdT;rw [if_pos h2]
  obtain ⟨m,hm⟩:∃m,S.length=m:=⟨_,rfl⟩
  rw [hm] at hs h2;have j2:(m:Int) < 2:=by omega
  clear HR hm hS;go_enter Tryz.func84,Tryz.ntmps84;have q1:=(Below.refl w.heap.size w).alloc (Nat.le_refl _) (.cells #[D J 0,D J 0,G E,G E] 132);have bh:=HB.out.size;replace HB:=qH (zAa HB.out q1 HB.out.size);have ap:=Blk.new w 132 #[D J 0,D J 0,G E,G E];clear q1;go_upto_region 1 with fail
  generalize w.alloc (.cells #[D J 0,D J 0,G E,G E] 132)=X1 at ap HB ⊢;obtain ⟨bJ,bC⟩:∃a,w.heap.size=a:=⟨_,rfl⟩
  replace bh:w.heap.size≤bJ:=Nat.le_of_eq bC;rw [bC] at ap ⊢;clear bC;have jM:X1.cell? ⟨bJ,0,U⟩=Z (D J 0):=(ap.cell 0).trans rfl;have jL:X1.cell? ⟨bJ,1,U⟩=Z (D J 0):=(ap.cell 1).trans rfl;have jK:X1.cell? ⟨bJ,2,U⟩=Z (G E):=(ap.cell 2).trans rfl;have jJ:X1.cell? ⟨bJ,3,U⟩=Z (G E):=(ap.cell 3).trans rfl;have iS:=ap.frozen 0;have iR:=ap.frozen 1;have iQ:=ap.frozen 2;have iP:=ap.frozen 3;have SV:=qH (Blk.storeL4 ap (D J 0) (D J 0) (G E) (G E));have SB:=qH (zBa HB.out bh (D J 0) (D J 0) (G E) (G E));go_wp2_with fail
  (try simp only [Exit.inBlock,Exit.then])
  exact zAn rfl rfl SV.out Tryz.underlying132 rfl (by kernel_rfl) rfl ⟨rfl,SB.out⟩
 ·obtain ⟨p,hp⟩:∃p,S.length=p+1:=⟨S.length-1,by omega⟩
  obtain ⟨b,ah,ab⟩:=zOj hp;have hnx:=zHc ah;have hup:=zSF (S:=S) (j:=p) (by omega);rw [hp] at hs;obtain ⟨P,hP⟩:∃P,S.take p=P:=⟨_,rfl⟩
  have hdl:S.dropLast=P:=by rw [List.dropLast_eq_take,hp,←hP];rfl
  have uS:P.length≤8000:=by rw [←hP,List.length_take];omega
  rw [hP] at hup;have l1:=zJV (c:=111) ab;have l2:=zJV (c:=117) ab;have l3:=zJV (c:=62) ab;have l4:=zJV (c:=60) ab;have hrr:=HR.out;unfold rdT at hrr;rw [if_neg h2,hdl,l1,l2] at hrr;have j2:¬((p+1:Nat):Int) < 2:=by omega
  have j3:(((p+1:Nat):Int)-1)=(p:Int):=by omega
  have j4:IntKind.i64.wrap (p:Int)=(p:Int):=IntWalk.i64_in _ (by omega);have gB:p≤8000:=by omega
  have fj:=zJT b 111 (by omega);have fH:=zJT b 117 (by omega);have pw:=zJT b 62 (by omega);have px:=zJT b 60 (by omega);rw [show UInt8.ofNat 111=111 from rfl] at fj;rw [show UInt8.ofNat 117=117 from rfl] at fH;rw [show UInt8.ofNat 62=62 from rfl] at pw;rw [show UInt8.ofNat 60=60 from rfl] at px;have yr:=qH l3;have Dt:=qH l4;obtain ⟨B,hB⟩:∃B,b.toNat=B:=⟨_,rfl⟩
  rw [hB] at hnx fj fH pw px;clear hB hp ah ab hP hdl h2 HR l1 l2 l3 l4 hS;by_cases hou:b=111∨b=117
  ·obtain ⟨q,hq⟩:∃q,decide (b=111)=q:=⟨_,rfl⟩
   obtain ⟨v,hv⟩:∃v,zIc P=v:=⟨_,rfl⟩
   obtain ⟨ok,hok⟩:∃ok,decide (0 < v)=ok:=⟨_,rfl⟩
   have sN:(⟨0,v,q,ok⟩:Tk)=r:=by
    rw [←hrr,if_pos (by rcases hou with e | e<;>rw [e]<;>decide),hv,hq,←hok]
   subst sN;have wg:q=E→b=117:=fun e=>by
    rcases hou with h | h
    ·rw [h] at hq;rw [←hq] at e;cases e
    ·exact h
   rw [hq] at fj;have sE:q=E→((B:Int)==117)=Q:=fun e=>by rw [show (117:Int)=((117:Nat):Int) from rfl,fH,wg e];rfl
   have uq:=qH (fun w=>zIQ hv w);have c1:decide ((0:Int) < v)=ok:=hok;clear hou hrr wg hq hv yr Dt fH pw px hok
   cases q with
   | true =>
    clear sE;rw [show ((111:Nat):Int)=111 from rfl] at fj
    cases ok with
    | true =>
     have c2:(0:Int) < v:=of_decide_eq_true c1;go_enter Tryz.func84,Tryz.ntmps84;have q1:=(Below.refl w.heap.size w).alloc (Nat.le_refl _) (.cells #[D J 0,D J 0,G E,G E] 132);have bh:=HB.out.size;replace HB:=qH (zAa HB.out q1 HB.out.size);have ap:=Blk.new w 132 #[D J 0,D J 0,G E,G E];clear q1;go_upto_region 1 with fail
     generalize w.alloc (.cells #[D J 0,D J 0,G E,G E] 132)=X1 at ap HB ⊢;obtain ⟨bJ,bC⟩:∃a,w.heap.size=a:=⟨_,rfl⟩
     replace bh:w.heap.size≤bJ:=Nat.le_of_eq bC;rw [bC] at ap ⊢;clear bC;go_wp2_with fail
     refine (uq.out _).mono ?_;rintro e v2 ⟨rfl,hb⟩;replace ap:=ap.below hb ap.lt;replace HB:=qH (zAa HB.out hb HB.out.size);clear hb;have jM:v2.cell? ⟨bJ,0,U⟩=Z (D J 0):=(ap.cell 0).trans rfl;have jL:v2.cell? ⟨bJ,1,U⟩=Z (D J 0):=(ap.cell 1).trans rfl;have jK:v2.cell? ⟨bJ,2,U⟩=Z (G E):=(ap.cell 2).trans rfl;have jJ:v2.cell? ⟨bJ,3,U⟩=Z (G E):=(ap.cell 3).trans rfl;have iS:=ap.frozen 0;have iR:=ap.frozen 1;have iQ:=ap.frozen 2;have iP:=ap.frozen 3;have SV:=qH (Blk.storeL4 ap (D J 0) (D J v) (G Q) (G Q));have SB:=qH (zBa HB.out bh (D J 0) (D J v) (G Q) (G Q));go_wp2_with fail
     (try simp only [Exit.inBlock,Exit.then])
     exact zAn rfl rfl SV.out Tryz.underlying132 rfl (by kernel_rfl) rfl ⟨rfl,SB.out⟩
    | false =>
     have c2:¬(0:Int) < v:=of_decide_eq_false c1;go_enter Tryz.func84,Tryz.ntmps84;have q1:=(Below.refl w.heap.size w).alloc (Nat.le_refl _) (.cells #[D J 0,D J 0,G E,G E] 132);have bh:=HB.out.size;replace HB:=qH (zAa HB.out q1 HB.out.size);have ap:=Blk.new w 132 #[D J 0,D J 0,G E,G E];clear q1;go_upto_region 1 with fail
     generalize w.alloc (.cells #[D J 0,D J 0,G E,G E] 132)=X1 at ap HB ⊢;obtain ⟨bJ,bC⟩:∃a,w.heap.size=a:=⟨_,rfl⟩
     replace bh:w.heap.size≤bJ:=Nat.le_of_eq bC;rw [bC] at ap ⊢;clear bC;go_wp2_with fail
     refine (uq.out _).mono ?_;rintro e v2 ⟨rfl,hb⟩;replace ap:=ap.below hb ap.lt;replace HB:=qH (zAa HB.out hb HB.out.size);clear hb;have jM:v2.cell? ⟨bJ,0,U⟩=Z (D J 0):=(ap.cell 0).trans rfl;have jL:v2.cell? ⟨bJ,1,U⟩=Z (D J 0):=(ap.cell 1).trans rfl;have jK:v2.cell? ⟨bJ,2,U⟩=Z (G E):=(ap.cell 2).trans rfl;have jJ:v2.cell? ⟨bJ,3,U⟩=Z (G E):=(ap.cell 3).trans rfl;have iS:=ap.frozen 0;have iR:=ap.frozen 1;have iQ:=ap.frozen 2;have iP:=ap.frozen 3;have SV:=qH (Blk.storeL4 ap (D J 0) (D J v) (G Q) (G E));have SB:=qH (zBa HB.out bh (D J 0) (D J v) (G Q) (G E));go_wp2_with fail
     (try simp only [Exit.inBlock,Exit.then])
     exact zAn rfl rfl SV.out Tryz.underlying132 rfl (by kernel_rfl) rfl ⟨rfl,SB.out⟩
   | false =>
    have k2:=sE rfl;clear sE;rw [show ((111:Nat):Int)=111 from rfl] at fj
    cases ok with
    | true =>
     have c2:(0:Int) < v:=of_decide_eq_true c1;go_enter Tryz.func84,Tryz.ntmps84;have q1:=(Below.refl w.heap.size w).alloc (Nat.le_refl _) (.cells #[D J 0,D J 0,G E,G E] 132);have bh:=HB.out.size;replace HB:=qH (zAa HB.out q1 HB.out.size);have ap:=Blk.new w 132 #[D J 0,D J 0,G E,G E];clear q1;go_upto_region 1 with fail
     generalize w.alloc (.cells #[D J 0,D J 0,G E,G E] 132)=X1 at ap HB ⊢;obtain ⟨bJ,bC⟩:∃a,w.heap.size=a:=⟨_,rfl⟩
     replace bh:w.heap.size≤bJ:=Nat.le_of_eq bC;rw [bC] at ap ⊢;clear bC;go_wp2_with fail
     refine (uq.out _).mono ?_;rintro e v2 ⟨rfl,hb⟩;replace ap:=ap.below hb ap.lt;replace HB:=qH (zAa HB.out hb HB.out.size);clear hb;have jM:v2.cell? ⟨bJ,0,U⟩=Z (D J 0):=(ap.cell 0).trans rfl;have jL:v2.cell? ⟨bJ,1,U⟩=Z (D J 0):=(ap.cell 1).trans rfl;have jK:v2.cell? ⟨bJ,2,U⟩=Z (G E):=(ap.cell 2).trans rfl;have jJ:v2.cell? ⟨bJ,3,U⟩=Z (G E):=(ap.cell 3).trans rfl;have iS:=ap.frozen 0;have iR:=ap.frozen 1;have iQ:=ap.frozen 2;have iP:=ap.frozen 3;have SV:=qH (Blk.storeL4 ap (D J 0) (D J v) (G E) (G Q));have SB:=qH (zBa HB.out bh (D J 0) (D J v) (G E) (G Q));go_wp2_with fail
     (try simp only [Exit.inBlock,Exit.then])
     exact zAn rfl rfl SV.out Tryz.underlying132 rfl (by kernel_rfl) rfl ⟨rfl,SB.out⟩
    | false =>
     have c2:¬(0:Int) < v:=of_decide_eq_false c1;go_enter Tryz.func84,Tryz.ntmps84;have q1:=(Below.refl w.heap.size w).alloc (Nat.le_refl _) (.cells #[D J 0,D J 0,G E,G E] 132);have bh:=HB.out.size;replace HB:=qH (zAa HB.out q1 HB.out.size);have ap:=Blk.new w 132 #[D J 0,D J 0,G E,G E];clear q1;go_upto_region 1 with fail
     generalize w.alloc (.cells #[D J 0,D J 0,G E,G E] 132)=X1 at ap HB ⊢;obtain ⟨bJ,bC⟩:∃a,w.heap.size=a:=⟨_,rfl⟩
     replace bh:w.heap.size≤bJ:=Nat.le_of_eq bC;rw [bC] at ap ⊢;clear bC;go_wp2_with fail
     refine (uq.out _).mono ?_;rintro e v2 ⟨rfl,hb⟩;replace ap:=ap.below hb ap.lt;replace HB:=qH (zAa HB.out hb HB.out.size);clear hb;have jM:v2.cell? ⟨bJ,0,U⟩=Z (D J 0):=(ap.cell 0).trans rfl;have jL:v2.cell? ⟨bJ,1,U⟩=Z (D J 0):=(ap.cell 1).trans rfl;have jK:v2.cell? ⟨bJ,2,U⟩=Z (G E):=(ap.cell 2).trans rfl;have jJ:v2.cell? ⟨bJ,3,U⟩=Z (G E):=(ap.cell 3).trans rfl;have iS:=ap.frozen 0;have iR:=ap.frozen 1;have iQ:=ap.frozen 2;have iP:=ap.frozen 3;have SV:=qH (Blk.storeL4 ap (D J 0) (D J v) (G E) (G E));have SB:=qH (zBa HB.out bh (D J 0) (D J v) (G E) (G E));go_wp2_with fail
     (try simp only [Exit.inBlock,Exit.then])
     exact zAn rfl rfl SV.out Tryz.underlying132 rfl (by kernel_rfl) rfl ⟨rfl,SB.out⟩
  ·have f111:((B:Int)==111)=E:=by rw [show (111:Int)=((111:Nat):Int) from rfl,fj];exact decide_eq_false fun e=>hou (.inl e)
   have f117:((B:Int)==117)=E:=by rw [show (117:Int)=((117:Nat):Int) from rfl,fH];exact decide_eq_false fun e=>hou (.inr e)
   obtain ⟨T,hT⟩:∃T,zAN 46 P=T:=⟨_,rfl⟩
   obtain ⟨m,hm⟩:∃m,T.length=m:=⟨_,rfl⟩
   rw [if_neg (by rw [decide_eq_false fun e=>hou (.inl e),decide_eq_false fun e=>hou (.inr e)];simp),hT] at hrr;unfold rdP at hrr;rw [yr.out,Dt.out,hm] at hrr;have fS:=qH (fun w=>zNc (c:=46) hT (by omega) w);have Dl:=qH hm;obtain ⟨q3,hq3⟩:∃q,decide (b=62)=q:=⟨_,rfl⟩
   obtain ⟨q4,hq4⟩:∃q,decide (b=60)=q:=⟨_,rfl⟩
   rw [hq3,hq4] at hrr;have f62:((B:Int)==62)=q3:=by rw [show (62:Int)=((62:Nat):Int) from rfl,pw,hq3]
   have f60:((B:Int)==60)=q4:=by rw [show (60:Int)=((60:Nat):Int) from rfl,px,hq4]
   have zF:((B:Int) != 62) = !q3:=by rw [←f62];rfl
   have zH:((B:Int) != 60) = !q4:=by rw [←f60];rfl
   have nY:=qH hrr;clear hou hrr fj fH pw px yr Dt hT hm hq3 hq4;go_enter Tryz.func84,Tryz.ntmps84;have q1:=(Below.refl w.heap.size w).alloc (Nat.le_refl _) (.cells #[D J 0,D J 0,G E,G E] 132);have bh:=HB.out.size;replace HB:=qH (zAa HB.out q1 HB.out.size);have ap:=Blk.new w 132 #[D J 0,D J 0,G E,G E];clear q1;go_upto_region 1 with fail
   generalize w.alloc (.cells #[D J 0,D J 0,G E,G E] 132)=X1 at ap HB ⊢;obtain ⟨bJ,bC⟩:∃a,w.heap.size=a:=⟨_,rfl⟩
   replace bh:w.heap.size≤bJ:=Nat.le_of_eq bC;rw [bC] at ap ⊢;clear bC;go_wp2_with fail
   refine (fS.out _).mono ?_;rintro e v2 ⟨B2,m2,d2,rfl,ss,da,hb⟩;have Cu:∀k,blk B2=Z k→k≠bJ:=fun k hk=>Nat.ne_of_gt (Nat.lt_of_lt_of_le ap.lt (ss.lt k hk).1)
   have xE:=HB.out.size;replace ap:=ap.below hb ap.lt;replace HB:=qH (zAa HB.out hb HB.out.size);replace ss:=ss.mono xE;clear hb xE;have oW:m2=m:=by have:=ss.len;rw [List.length_map,Dl.out] at this;omega
   subst oW;by_cases hm0:m2=2
   ·have n0:((m2:Int) != 2)=E:=by simp;omega
    have n1:((m2:Int)==2)=Q:=by simp;omega
    subst hm0;by_cases hqq:(q3||q4)=Q
    ·obtain ⟨F0,hF0⟩:∃j,fnA (xa T 0)=j:=⟨_,rfl⟩
     obtain ⟨v,hv⟩:∃v,zIc (xa T 1)=v:=⟨_,rfl⟩
     obtain ⟨AM,sR⟩:∃ok,decide (0 < F0)=ok:=⟨_,rfl⟩
     obtain ⟨AK,lY⟩:∃ok,decide (0 < v)=ok:=⟨_,rfl⟩
     have sN:(⟨(F0:Int),v,q3,AM&&AK⟩:Tk)=r:=by
      have:=nY.out
      rwa [if_neg (by rw [hqq];simp),hF0,hv,sR,lY] at this
     subst sN;have Ad:=qH (fun w=>zQJ hF0 w);have uq:=qH (fun w=>zIQ hv w);have c1:decide ((0:Int) < (F0:Int))=AM:=by rw [←sR];congr 1;simp
     have c2:decide ((0:Int) < v)=AK:=lY;have tJ:T[0]? = Z (xa T 0):=zQK (by rw [Dl.out];omega);have dm:T[1]? = Z (xa T 1):=zQK (by rw [Dl.out];omega);obtain ⟨g2,o2,rfl,Bt,hlt2⟩:=ss.form (by omega);have y0:=ss.cell (j:=0) (u:=W (bA (xa T 0))) (by rw [List.getElem?_map,tJ];rfl);have y1:=ss.cell (j:=1) (u:=W (bA (xa T 1))) (by rw [List.getElem?_map,dm];rfl);generalize xa T 0=N0 at y0 Ad;generalize xa T 1=N1 at y1 uq;have HY:=qH (show g2 < v2.heap.size∧v2.cell? ⟨g2,o2,U⟩=Z (W (bA N0))∧v2.cell? ⟨g2,o2+1,U⟩=Z (W (bA N1)) from ⟨hlt2,y0,y1⟩);clear hF0 hv sR lY nY tJ dm y0 y1 Bt hlt2;have HQ3:=qH hqq;clear hqq;skip;have k0:∀wx,Below v2.heap.size v2 wx→(Below v2.heap.size v2 wx∧wx.cell? ⟨g2,o2,U⟩=Z (W (bA N0))∧wx.cell? ⟨g2,o2+1,U⟩=Z (W (bA N1))):=fun wx h=>⟨h,(h.cell (p:=⟨g2,o2,U⟩) HY.out.1).trans HY.out.2.1,(h.cell (p:=⟨g2,o2+1,U⟩) HY.out.1).trans HY.out.2.2⟩
     have KP:=qH k0;clear k0
     cases q3<;>cases q4<;>first | exact absurd HQ3.out Bool.false_ne_true | skip
     all_goals
      go_upto_region 11 with fail
      have zE:=(KP.out v2 (Below.refl _ _)).2.1;have zB:=(KP.out v2 (Below.refl _ _)).2.2;go_cut [7,8] (fun v7 v8 wv=>v7=D J (F0:Int)∧v8=D J v∧∃ZV:World,ZV=wv∧Below v2.heap.size v2 ZV)
      case first =>
       first
        | go_region_held3 (fun wx=>Below v2.heap.size v2 wx∧wx.cell? ⟨g2,o2,U⟩=Z (W (bA N0))∧wx.cell? ⟨g2,o2+1,U⟩=Z (W (bA N1))) (first | assumption | exact KP.out _ (Below.refl _ _).drew | exact KP.out _ (zAa (And.left (by assumption)) (by assumption) (Below.size (And.left (by assumption)))))
         (first
          | (go_at_call 99;refine (Ad.out _).mono ?_;rintro e wa ⟨rfl,hba⟩)
          | (go_at_call 131;refine (uq.out _).mono ?_;rintro e wb ⟨rfl,hbb⟩))
        | fail
       all_goals
        have hbf:=And.left (show Below v2.heap.size v2 _∧_ by assumption);clear zE zB;go_wp2_with fail
        go_meet
        case rel=>exact ⟨rfl,rfl,_,rfl,hbf⟩
      case rest =>
       obtain ⟨rfl,rfl,ZV,hU,hb⟩:=hcut;subst hU;clear zE zB;replace ap:=ap.below hb ap.lt;replace HB:=qH (zAa HB.out hb HB.out.size);clear hb KP HY
       cases AM<;>cases AK
       all_goals
        have c3:=c1;have c4:=c2;simp only [decide_eq_true_eq,decide_eq_false_iff_not] at c3 c4;have jM:ZV.cell? ⟨bJ,0,U⟩=Z (D J 0):=(ap.cell 0).trans rfl;have jL:ZV.cell? ⟨bJ,1,U⟩=Z (D J 0):=(ap.cell 1).trans rfl;have jK:ZV.cell? ⟨bJ,2,U⟩=Z (G E):=(ap.cell 2).trans rfl;have jJ:ZV.cell? ⟨bJ,3,U⟩=Z (G E):=(ap.cell 3).trans rfl;have iS:=ap.frozen 0;have iR:=ap.frozen 1;have iQ:=ap.frozen 2;have iP:=ap.frozen 3;have SV:=qH (fun (x3 x4:Bool)=>Blk.storeL4 ap (D J (F0:Int)) (D J v) (G x3) (G x4));have SB:=qH (fun (x3 x4:Bool)=>zBa HB.out bh (D J (F0:Int)) (D J v) (G x3) (G x4));go_wp2_with fail
        (try simp only [Exit.inBlock,Exit.then])
        exact zAn rfl rfl (SV.out _ _) Tryz.underlying132 rfl (by kernel_rfl) rfl ⟨rfl,SB.out _ _⟩
    ·obtain rfl:tk0=r:=by
      have:=nY.out
      rwa [if_pos (.inr (by simpa using hqq))] at this
     have hq3:q3=E:=by cases q3 with | false=>rfl | true=>simp at hqq
     have hq4:q4=E:=by cases q4 with | false=>rfl | true=>simp at hqq
     subst hq3;subst hq4
     clear hqq nY;have jM:v2.cell? ⟨bJ,0,U⟩=Z (D J 0):=(ap.cell 0).trans rfl;have jL:v2.cell? ⟨bJ,1,U⟩=Z (D J 0):=(ap.cell 1).trans rfl;have jK:v2.cell? ⟨bJ,2,U⟩=Z (G E):=(ap.cell 2).trans rfl;have jJ:v2.cell? ⟨bJ,3,U⟩=Z (G E):=(ap.cell 3).trans rfl;have iS:=ap.frozen 0;have iR:=ap.frozen 1;have iQ:=ap.frozen 2;have iP:=ap.frozen 3;have SV:=qH (Blk.storeL4 ap (D J 0) (D J 0) (G E) (G E));have SB:=qH (zBa HB.out bh (D J 0) (D J 0) (G E) (G E));go_wp2_with fail
     (try simp only [Exit.inBlock,Exit.then])
     exact zAn rfl rfl SV.out Tryz.underlying132 rfl (by kernel_rfl) rfl ⟨rfl,SB.out⟩
   ·have n0:((m2:Int) != 2)=Q:=by simp;omega
    obtain rfl:tk0=r:=by
     have:=nY.out
     rwa [if_pos (.inl hm0)] at this
    clear hm0 nY;have jM:v2.cell? ⟨bJ,0,U⟩=Z (D J 0):=(ap.cell 0).trans rfl;have jL:v2.cell? ⟨bJ,1,U⟩=Z (D J 0):=(ap.cell 1).trans rfl;have jK:v2.cell? ⟨bJ,2,U⟩=Z (G E):=(ap.cell 2).trans rfl;have jJ:v2.cell? ⟨bJ,3,U⟩=Z (G E):=(ap.cell 3).trans rfl;have iS:=ap.frozen 0;have iR:=ap.frozen 1;have iQ:=ap.frozen 2;have iP:=ap.frozen 3;have SV:=qH (Blk.storeL4 ap (D J 0) (D J 0) (G E) (G E));have SB:=qH (zBa HB.out bh (D J 0) (D J 0) (G E) (G E));go_wp2_with fail
    (try simp only [Exit.inBlock,Exit.then])
    exact zAn rfl rfl SV.out Tryz.underlying132 rfl (by kernel_rfl) rfl ⟨rfl,SB.out⟩
theorem zVt {S:List UInt8} {r:Tk} (h:rdT S=r) (hS:S.length≤8000) (w:World) :
  Calls Tryz.prog 84 #[W (bA S)] w fun e w'=>e=.returned (.agg #[D J r.f,D J r.n,G r.b,G r.ok])∧Below w.heap.size w w':=by
 subst h;exact zQO S hS w
theorem zSW (c:UInt8) (S:List UInt8):(zAN c S).length≤S.length+1:=by
 rw [zFm];have:=List.count_le_length (a:=c) (l:=S);omega
theorem zQP {A:Option Addr} {n c:Nat} {L:List Fg} {re lo:Int} {b:Bool} (h:frB L re lo=b) (w:World) (hA:Fgs w A n L) :
  Calls Tryz.prog 18 #[frV A n c re lo] w fun e w'=>e=.returned (G b)∧Below w.heap.size w w':=by
 subst h;exact zNA A n c L re lo w hA
theorem zSX (A:Option Addr) (n c:Nat) (re lo:Int) (w:World):(Instr.field 24 (.agg #[H A n c,D J re,D J lo]) 0).run Tryz.prog w=.ok (H A n c) w:=by kernel_rfl
theorem tkH {P:Program} {md:Region.Mode} {ops:Array Oper} {ZS:Exit→Act→World→Prop} {S:World→Prop} {i:Nat} {oi:Oper} {v:Value} {fuel:Nat} {listed:Array Bool} {a:Act} {w:World} (hi:ops[i]? = Z oi)
  (h3:(Region.noSelect ops&&(Region.free md ops listed i&&(Region.ready md ops listed).contains i))=Q) (hQ:∀c a w,ZS (.panic c) (a.put oi.dst v) w→ZS (.panic c) a w)
  (h0:Region.wanted oi (yielded ops a.tmps)=Q) (hS:S w) (hy:∀w,S w→(execOp a.eval oi).run P w=.ok (.value v) w)
  (h:wpAnyH P md ops ZS S fuel (listed.setIfInBounds i Q) (a.put oi.dst v) w):wpAnyH P md ops ZS S (fuel+1) listed a w:=by
 rw [Bool.and_eq_true,Bool.and_eq_true] at h3;exact wpAnyH_take hi h3.1 h3.2.1 h3.2.2 hQ (Or.inl ⟨h0,hy⟩) hS h
end Go.Proofs.YtlmdfmnbcndhoaaGreatDoor
