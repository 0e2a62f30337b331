/-
  Lemmas, part 40. Conditions: each theorem's own.
-/
import Derived.Test.YtlmdfmnbcndhoaaGreatDoorRc38
import Derived.Test.YtlmdfmnbcndhoaaGreatDoorRc39
import Derived.Test.YtlmdfmnbcndhoaaGreatDoorRc26
import Derived.Test.YtlmdfmnbcndhoaaGreatDoorRc37
open Bool renaming false→E,true→Q
open Go.Value renaming bool→G,int→D,slice→H,string→W
open Go.IntKind renaming i64→J
open Option renaming none→U,some→Z
namespace Go.Proofs.YtlmdfmnbcndhoaaGreatDoor
open Go.RowKit
theorem zNm {x:Fg} {S:List UInt8} (h:zAl x=S) (hx:zAo x=Q) (w:World) :
  Calls Tryz.prog 111 #[fgV x] w fun e w'=>e=.returned (W (bA S))∧Below w.heap.size w w':=by
 subst h;exact zOY x hx w
def zVp (o:Option Fg):Value:=match o with | some f=>.tuple #[fgV f,G Q] | none=>.tuple #[fgV df,G E]
set_option maxHeartbeats 6400000 in
set_option maxRecDepth 100000 in
theorem zIr (S:List UInt8) (w:World) :
  Calls Tryz.prog 150 #[W (bA S)] w fun e w'=>e=.returned (zVp (zGu S))∧Below w.heap.size w w':=by
 have aa:Below w.heap.size w (w.alloc (.cells #[D J 0,G E,D J 0] 90)):=(Below.refl _ _).alloc (Nat.le_refl _) _;have hk0:Blk (w.alloc (.cells #[D J 0,G E,D J 0] 90)) w.heap.size 90 #[D J 0,G E,D J 0]:=Blk.new _ _ _;have bl:=zLb;have br:=zLc;have bf0:=zPp;go_enter Tryz.func150,Tryz.ntmps150;go_wp2_with fail
 generalize w.alloc (.cells #[D J 0,G E,D J 0] 90)=ZR at aa hk0 ⊢;go_loopw [4] (fun v wr=>∃p:Nat,1≤p∧p≤10∧v=D J p∧Below ZR.heap.size ZR wr∧Hid (∀f,zAo f=Q→f.p < (p:Int)→zAl f≠S)) (fun v _=>10-(intOf v).toNat)
 case atStart=>exact ⟨1,by omega,by omega,rfl,Below.refl _ _,qH (fun f hf h=>by have:=zAs.1 hf;omega)⟩
 case round =>
  obtain ⟨p,gB,hp,rfl,hbr,HP⟩:=hrel;by_cases hlt:p < 10
  ·have i1:(p:Int)≤9:=by omega
   go_wp2_with fail
   go_loopw [5] (fun v w1=>∃d:Nat,d≤7∧v=D J d∧Below ZR.heap.size ZR w1∧Hid (∀f,zAo f=Q→(f.p < (p:Int)∨f.p=(p:Int)∧f.d < (d:Int))→zAl f≠S)) (fun v _=>7-(intOf v).toNat)
   case atStart=>exact ⟨0,by omega,rfl,hbr,qH (fun f hf h=>by rcases h with h | h;exact HP.out f hf h;have:=zAs.1 hf;omega)⟩
   case round =>
    clear hbr;obtain ⟨d,hd,rfl,hbr,HD⟩:=hrel;by_cases hdl:d < 7
    ·have i2:(d:Int)≤6:=by omega
     have hth:∀r,zAo ⟨(p:Int),r,(d:Int)⟩=Q:=fun r=>zAs.2 ⟨by simp only;omega,by simp only;omega,by simp only;omega,by simp only;omega⟩
     obtain ⟨NL,Cb⟩:∃T,zAl ⟨(p:Int),E,(d:Int)⟩=T:=⟨_,rfl⟩
     obtain ⟨NR,Ca⟩:∃T,zAl ⟨(p:Int),Q,(d:Int)⟩=T:=⟨_,rfl⟩
     have fI:=qH (fun w=>zNm Cb (hth E) w);have HNR:=qH (fun w=>zNm Ca (hth Q) w);have HL:=qH Cb;have HR:=qH Ca;have uZ:=qH hth;clear Cb Ca hth;have ab:Below ZR.heap.size ZR ((wr.alloc (.cells #[D J (p:Int),G E,D J (d:Int)] 90)).alloc (.cells #[D J (p:Int),G Q,D J (d:Int)] 90)):=(hbr.alloc hbr.size _).alloc (by have:=hbr.size;simp;omega) _;have kl:Blk ((wr.alloc (.cells #[D J (p:Int),G E,D J (d:Int)] 90)).alloc (.cells #[D J (p:Int),G Q,D J (d:Int)] 90)) wr.heap.size 90 #[D J (p:Int),G E,D J (d:Int)]:=(Blk.new wr _ _).alloc _;have kr:Blk ((wr.alloc (.cells #[D J (p:Int),G E,D J (d:Int)] 90)).alloc (.cells #[D J (p:Int),G Q,D J (d:Int)] 90)) (wr.heap.size+1) 90 #[D J (p:Int),G Q,D J (d:Int)]:=heap_alloc2_new wr _ _;go_upto_region 8 with fail
     generalize (wr.alloc (.cells #[D J (p:Int),G E,D J (d:Int)] 90)).alloc (.cells #[D J (p:Int),G Q,D J (d:Int)] 90)=X at ab kl kr ⊢;have l0:X.cell? ⟨wr.heap.size,0,U⟩=Z (D J (p:Int)):=(kl.cell 0).trans rfl;have l1:X.cell? ⟨wr.heap.size,1,U⟩=Z (G E):=(kl.cell 1).trans rfl;have l2:X.cell? ⟨wr.heap.size,2,U⟩=Z (D J (d:Int)):=(kl.cell 2).trans rfl;go_wp2_with fail
     refine (fI.out _).mono ?_;rintro e Y ⟨rfl,hb⟩;have ac:=zAa ab hb ab.size;have vI:=kl.below hb kl.lt;have sB:=kr.below hb kr.lt;clear l0 l1 l2 hb ab kl kr hbr;by_cases q1:NL=S
     ·have hres:=qH (show zGu S=Z ⟨(p:Int),E,(d:Int)⟩ from zCD (uZ.out E) (HL.out.trans q1));have n0:((bA NL).toList==(bA S).toList)=Q:=by rw [zCj];simpa using q1
      have b8:=hk0.below ac hk0.lt;have c0:Y.cell? ⟨wr.heap.size,0,U⟩=Z (D J (p:Int)):=(vI.cell 0).trans rfl;have c1:Y.cell? ⟨wr.heap.size,1,U⟩=Z (G E):=(vI.cell 1).trans rfl;have c2:Y.cell? ⟨wr.heap.size,2,U⟩=Z (D J (d:Int)):=(vI.cell 2).trans rfl;have d0:Y.cell? ⟨w.heap.size,0,U⟩=Z (D J 0):=(b8.cell 0).trans rfl;have d1:Y.cell? ⟨w.heap.size,1,U⟩=Z (G E):=(b8.cell 1).trans rfl;have d2:Y.cell? ⟨w.heap.size,2,U⟩=Z (D J 0):=(b8.cell 2).trans rfl;have z0:=b8.frozen 0;have z1:=b8.frozen 1;have z2:=b8.frozen 2;have hS:=qH (b8.store3 (D J (p:Int)) (G E) (D J (d:Int)));have dT:=qH (zCl (zAa aa ac aa.size) (Nat.le_refl w.heap.size) (D J (p:Int)) (G E) (D J (d:Int)));clear q1 vI sB b8 ac;go_wp2_with fail
      (try simp only [Exit.inBlock,Exit.then])
      exact zBo rfl rfl rfl hS.out Tryz.underlying90 rfl (by kernel_rfl) rfl ⟨by rw [hres.out];rfl,dT.out⟩
     ·have n0:((bA NL).toList==(bA S).toList)=E:=by rw [zCj];simpa using q1
      have c0:Y.cell? ⟨wr.heap.size+1,0,U⟩=Z (D J (p:Int)):=(sB.cell 0).trans rfl;have c1:Y.cell? ⟨wr.heap.size+1,1,U⟩=Z (G Q):=(sB.cell 1).trans rfl;have c2:Y.cell? ⟨wr.heap.size+1,2,U⟩=Z (D J (d:Int)):=(sB.cell 2).trans rfl;have ya:=qH q1;clear q1;go_wp2_with fail
      refine (HNR.out _).mono ?_;rintro e ZU ⟨rfl,hb⟩;have aj:=zAa ac hb ac.size;have vH:=sB.below hb sB.lt;clear c0 c1 c2 hb ac vI sB;by_cases q2:NR=S
      ·have hres:=qH (show zGu S=Z ⟨(p:Int),Q,(d:Int)⟩ from zCD (uZ.out Q) (HR.out.trans q2));have n1:((bA NR).toList==(bA S).toList)=Q:=by rw [zCj];simpa using q2
       have b8:=hk0.below aj hk0.lt;have c0:ZU.cell? ⟨wr.heap.size+1,0,U⟩=Z (D J (p:Int)):=(vH.cell 0).trans rfl;have c1:ZU.cell? ⟨wr.heap.size+1,1,U⟩=Z (G Q):=(vH.cell 1).trans rfl;have c2:ZU.cell? ⟨wr.heap.size+1,2,U⟩=Z (D J (d:Int)):=(vH.cell 2).trans rfl;have d0:ZU.cell? ⟨w.heap.size,0,U⟩=Z (D J 0):=(b8.cell 0).trans rfl;have d1:ZU.cell? ⟨w.heap.size,1,U⟩=Z (G E):=(b8.cell 1).trans rfl;have d2:ZU.cell? ⟨w.heap.size,2,U⟩=Z (D J 0):=(b8.cell 2).trans rfl;have z0:=b8.frozen 0;have z1:=b8.frozen 1;have z2:=b8.frozen 2;have hS:=qH (b8.store3 (D J (p:Int)) (G Q) (D J (d:Int)));have dT:=qH (zCl (zAa aa aj aa.size) (Nat.le_refl w.heap.size) (D J (p:Int)) (G Q) (D J (d:Int)));clear q2 vH b8 aj;go_wp2_with fail
       (try simp only [Exit.inBlock,Exit.then])
       exact zBo rfl rfl rfl hS.out Tryz.underlying90 rfl (by kernel_rfl) rfl ⟨by rw [hres.out];rfl,dT.out⟩
      ·have n1:((bA NR).toList==(bA S).toList)=E:=by rw [zCj];simpa using q2
       have DF:=qH (show ∀f,zAo f=Q→(f.p < (p:Int)∨f.p=(p:Int)∧f.d < ((d+1:Nat):Int))→zAl f≠S from fun f hf h=>by
        by_cases h5:f.p < (p:Int)∨f.p=(p:Int)∧f.d < (d:Int)
        ·exact HD.out f hf h5
        ·obtain ⟨fp,fr,fd⟩:=f
         simp only at h h5
         have h1:fp=(p:Int):=by
          rcases h with h | h
          ·exact absurd (.inl h) h5
          ·exact h.1
         have h2:fd=(d:Int):=by
          rcases h with h | h
          ·exact absurd (.inl h) h5
          ·have:¬fd < (d:Int):=fun e=>h5 (.inr ⟨h.1,e⟩)
           omega
         rw [h1,h2]
         cases fr with
         | false=>rw [HL.out];exact ya.out
         | true=>rw [HR.out];exact q2)
       clear q2 vH HD;go_wp2_with fail
       go_roundw
       case rel=>exact ⟨d+1,by omega,by go_num,aj,DF⟩
       case measure=>simp [intOf];omega
    ·have i2:¬(d:Int)≤6:=by omega
     have Dc:=qH (show ∀f,zAo f=Q→f.p < ((p+1:Nat):Int)→zAl f≠S from fun f hf h=>HD.out f hf (by
      have:=zAs.1 hf
      omega))
     clear HD HP;go_wp2_with fail
     go_roundw
     case rel=>exact ⟨p+1,by omega,by omega,by go_num,hbr,Dc⟩
     case measure=>simp [intOf];omega
  ·have i1:¬(p:Int)≤9:=by omega
   have hres:=qH (show zGu S=U from zKy fun f hf=>HP.out f hf (by have:=zAs.1 hf;omega));have b8:=hk0.below hbr hk0.lt;have d0:wr.cell? ⟨w.heap.size,0,U⟩=Z (D J 0):=(b8.cell 0).trans rfl;have d1:wr.cell? ⟨w.heap.size,1,U⟩=Z (G E):=(b8.cell 1).trans rfl;have d2:wr.cell? ⟨w.heap.size,2,U⟩=Z (D J 0):=(b8.cell 2).trans rfl;have z0:=b8.frozen 0;have z1:=b8.frozen 1;have z2:=b8.frozen 2;have hS:=qH (b8.store3 (D J 0) (G E) (D J 0));have dT:=qH (zCl (zAa aa hbr aa.size) (Nat.le_refl w.heap.size) (D J 0) (G E) (D J 0));clear b8 HP hbr;go_wp2_with fail
   (try simp only [Exit.inBlock,Exit.then])
   exact zBo rfl rfl rfl hS.out Tryz.underlying90 rfl (by kernel_rfl) rfl ⟨by rw [hres.out];rfl,dT.out⟩
theorem Stps.one (w:World) (x:Sp) (hx:SgOk x.s) (t:TypeId) :
  Stps (w.alloc (.cells #[D J x.s.f,D J x.s.l,G x.s.far,D J x.s.pc,G x.over] t)) (Z ⟨w.heap.size,0,U⟩) 1 [x]:=by
 refine ⟨⟨rfl,by omega,fun _=>⟨_,_,rfl,by simp,fun j y hy q v hv=>?_⟩⟩,fun e he=>?_⟩
 ·rcases j with _ | j
  ·simp only [List.getElem?_cons_zero,Option.some.injEq] at hy;subst hy;rw [Nat.zero_mul,Nat.add_zero,Nat.zero_add,World.cell?_alloc_at _ _ _ _ rfl,←Array.getElem?_toList];exact hv
  ·simp at hy
 ·obtain rfl:e=x:=by simpa using he
  exact hx
theorem zCM {x:Int} (h0:0≤x) (h1:x≤1000000):I64 x:=⟨by omega,by omega⟩
theorem zWM:∀x∈stdF,FgOk x:=fun x hx=>by
 simp only [stdF,List.mem_cons,List.not_mem_nil,or_false] at hx;rcases hx with rfl | rfl | rfl | rfl | rfl | rfl | rfl | rfl | rfl | rfl<;>exact ⟨⟨by decide,by decide⟩,⟨by decide,by decide⟩⟩
theorem zWN:OgOk exO:=⟨zCM (by decide) (by decide),zCM (by decide) (by decide),⟨zCM (by decide) (by decide),zCM (by decide) (by decide),zCM (by decide) (by decide)⟩⟩
theorem zWO (w:World):(Instr.build 29 #[(0,D J 5),(1,D J 1)]).run Tryz.prog w=.ok (.agg #[D J 5,D J 1,G E,D J 0]) w:=run_build w _ _ _ (by kernel_rfl)
theorem zWP (w:World):(Instr.build 29 #[(0,D J 6),(1,D J 1)]).run Tryz.prog w=.ok (.agg #[D J 6,D J 1,G E,D J 0]) w:=run_build w _ _ _ (by kernel_rfl)
theorem zWQ (w:World):(Instr.build 86 #[(0,.agg #[D J 6,D J 1,G E,D J 0]),(1,G Q)]).run Tryz.prog w=.ok (.agg #[D J 6,D J 1,G E,D J 0,G Q]) w:=run_build w _ _ _ (by kernel_rfl)
theorem zVq:(Tryz.prog.info? 86).map (fun i=>(i.zero,i.size,i.bytes))=Z (Z (.agg #[D J 0,D J 0,G E,D J 0,G E]),5,40):=by kernel_rfl
theorem zWR (w:World):(Instr.buildSlice 30 1 #[(0,.agg #[D J 6,D J 1,G E,D J 0,G Q])]).run Tryz.prog w=.ok (H (Z ⟨w.heap.size,0,U⟩) 1 1) (w.alloc (.cells #[D J 6,D J 1,G E,D J 0,G Q] 86)):=by
 obtain ⟨i0,hi,aT,az,bt⟩:=info_parts zVq;refine run_buildSlice w _ _ 1 _ _ i0 _ Tryz.underlying30 hi aT (by rw [az];omega) (by rw [az];omega) ?_;rw [az]
 kernel_rfl
theorem zWS (A:Option Addr) (w:World):(Instr.build 32 #[(0,D J 3),(1,D J 9),(2,.agg #[D J 5,D J 1,G E,D J 0]),(3,H A 1 1)]).run Tryz.prog w=.ok (.agg #[D J 3,D J 9,D J 5,D J 1,G E,D J 0,H A 1 1,G E]) w:=run_build w _ _ _ (by kernel_rfl)
section
variable {A:Option Addr} {c:Nat} {w:World}
theorem zSP (hA:Fgs w A 10 stdF) (hc:10≤c) (B:Option Addr) (hO:OpIn w exO B 1 1) (ht:Tabs w) :
  Calls Tryz.prog 41 #[frV A 10 c 6 4,opV exO B 1 1] w fun e w'=>e=.returned (.tuple #[W (bA zXR),D J 0])∧Below w.heap.size w w':=by
 have h:=zLB A 10 c stdF 6 4 exO B 1 1 w hA hc hO (by omega) ht;rw [zNg.1,if_pos rfl,zNg.2] at h;exact h
theorem zSQ (hA:Fgs w A 10 stdF) (hc:10≤c) (ht:Tabs w) :
  Calls Tryz.prog 40 #[frV A 10 c 6 4,W (bA zNf),D J 2,D J 1] w fun e w'=>e=.returned (.tuple #[W (bA zXS),D J 0])∧Below w.heap.size w w':=by
 have h:=zHR ⟨A,10,c,stdF,6,4⟩ zNf 2 1 w hA hc ht;simp only at h;rw [zNi.1,zNi.2] at h;exact h
theorem zSR (hA:Fgs w A 10 stdF) (hc:10≤c) (ht:Tabs w) :
  Calls Tryz.prog 37 #[frV A 10 c 6 4,W (bA exS)] w (zJN w 10 [exL 1] 0):=by
 have h:=zCS ⟨A,10,c,stdF,6,4⟩ exS w hA hc ht;simp only at h;rw [zXO] at h;exact h
theorem zNn (S:List UInt8) (ZT:Int) (hE:zEQ stdF S=ZT) (hS:S.length≤8000) (hA:Fgs w A 10 stdF) (hc:10≤c) (ht:Tabs w) :
  Calls Tryz.prog 17 #[frV A 10 c 6 4,W (bA S)] w fun e w'=>∃(o:Og) (B:Option Addr) (m d:Nat),e=.returned (.tuple #[opV o B m d,D J ZT])∧Below w.heap.size w w':=by
 have h:=zHK ⟨A,10,c,stdF,6,4⟩ S w hA hc ht;refine h.mono ?_;rintro e w' ⟨B,m,d,he,_,_,hb⟩;refine ⟨rdO stdF 6 4 S,B,m,d,?_,hb⟩;rw [he];have h0:zAw stdF 6 4 S=0:=by unfold zAw;rw [if_pos (by decide),if_neg (by omega)]
 have:rdE stdF 6 4 S=ZT:=by unfold rdE;rw [if_pos h0,hE]
 simp only;rw [this]
theorem zSS (hA:Fgs w A 10 stdF) (hc:10≤c) {B:Option Addr} {m d:Nat} (hB:Lets w B m (exL 1)) (ht:Tabs w) :
  Calls Tryz.prog 33 #[frV A 10 c 6 4,.agg #[D J 10,H B m d]] w fun e w'=>e=.returned (.tuple #[W (bA exS),D J 0])∧Below w.heap.size w w':=by
 have h:=zIo A 10 c stdF 6 4 10 B m d (exL 1) w hA hc hB ht;rw [zTJ.1,zTJ.2] at h;exact h
theorem zST {B:Option Addr} {m d:Nat} (hB:Lets w B m (exL 1)) :
  Calls Tryz.prog 50 #[.agg #[D J 10,H B m d]] w fun e w'=>e=.returned (W (bA exP))∧Below w.heap.size w w':=by
 have h:=zMi 10 B m d (exL 1) w hB (by have:=hB.len;simp [exL] at this;omega) (zCM (by decide) (by decide));rw [zSN] at h;exact h
end
theorem zSU {w:World} {base:Nat} {B:Option Addr} {m d:Nat} {Es:List Ce} (h:CodesOwn w base 10 B m d Es) (hE:List.map (fun x:Ce=>x.L) Es=[exL 1]) :
  m=1∧∃(g o:Nat) (e:Ce),B=Z ⟨g,o,U⟩∧g < w.heap.size∧w.cell? ⟨g,o,U⟩=Z (D J 10)∧w.cell? ⟨g,o+1,U⟩=Z (H e.A e.n e.c)∧Lets w e.A e.n (exL 1):=by
 have hl:=h.len;rcases Es with _ | ⟨e,_ | ⟨e2,Es⟩⟩
 ·simp at hE
 ·simp only [List.map_cons,List.map_nil,List.cons.injEq,and_true] at hE;obtain rfl:m=1:=hl.symm;obtain ⟨g,o,rfl,_,hlt⟩:=h.row.form (by omega);have hL:=(h.ok e (List.mem_singleton.2 rfl)).1;rw [hE] at hL;exact ⟨rfl,g,o,e,rfl,hlt,h.row.cell (j:=0) rfl,h.row.cell (j:=1) rfl,hL⟩
 ·simp at hE
set_option maxRecDepth 100000 in
set_option maxHeartbeats 12800000 in
theorem zEe (w:World) (ht:Tabs w):Calls Tryz.prog 16 #[] w fun e w'=>e=.returned (G Q)∧Below w.heap.size w w':=by
 have HT:=qH ht;clear ht;go_enter Tryz.func16,Tryz.ntmps16;go_wp2_with fail
 refine (zJS _).mono ?_;rintro e w1 ⟨A,c,rfl,hrow,hb⟩;have hcap:10≤c:=hrow.cap;have HF:=qH (show Fgs w1 A 10 stdF from ⟨(show Row w1 w.heap.size 3 A 10 c (stdF.flatMap zXe) from hrow).els (fun _=>rfl) (by omega) (by omega),zWM⟩);replace HT:=qH (HT.out.below hb);have HB:=qH hb;have oh:=qH hcap;clear hrow hb hcap;have hba:=(Below.refl w1.heap.size w1).alloc (Nat.le_refl _) (.cells #[H A 10 c,D J 6,D J 4] 24);replace HF:=qH (HF.out.below hba);replace HT:=qH (HT.out.below hba);replace HB:=qH (zAa HB.out hba HB.out.size);have kf:=Blk.new w1 24 #[H A 10 c,D J 6,D J 4];clear hba;go_upto_region 2 with fail
 generalize w1.alloc (.cells #[H A 10 c,D J 6,D J 4] 24)=X1 at HF HT HB kf ⊢;have hba:=(Below.refl X1.heap.size X1).alloc (Nat.le_refl _) (.cells #[D J 6,D J 1,G E,D J 0,G Q] 86);replace HF:=qH (HF.out.below hba);replace HT:=qH (HT.out.below hba);replace HB:=qH (zAa HB.out hba HB.out.size);replace kf:=kf.below hba kf.lt;have HP:=qH (Stps.one X1 ⟨⟨6,1,E,0⟩,Q⟩ ⟨zCM (by decide) (by decide),zCM (by decide) (by decide),zCM (by decide) (by decide)⟩ 86);have ko:Blk ((X1.alloc (.cells #[D J 6,D J 1,G E,D J 0,G Q] 86)).alloc (.cells #[D J 3,D J 9,D J 5,D J 1,G E,D J 0,H (Z ⟨X1.heap.size,0,U⟩) 1 1,G E] 32)) (X1.heap.size+1) 32 #[D J 3,D J 9,D J 5,D J 1,G E,D J 0,H (Z ⟨X1.heap.size,0,U⟩) 1 1,G E]:=heap_alloc2_new X1 _ _;clear hba;have hba:=(Below.refl (X1.alloc (.cells #[D J 6,D J 1,G E,D J 0,G Q] 86)).heap.size (X1.alloc (.cells #[D J 6,D J 1,G E,D J 0,G Q] 86))).alloc (Nat.le_refl _) (.cells #[D J 3,D J 9,D J 5,D J 1,G E,D J 0,H (Z ⟨X1.heap.size,0,U⟩) 1 1,G E] 32);replace HF:=qH (HF.out.below hba);replace HT:=qH (HT.out.below hba);replace HB:=qH (zAa HB.out hba HB.out.size);replace kf:=kf.below hba kf.lt;replace HP:=qH (HP.out.below hba);clear hba;go_upto_region 3 with fail
 generalize (X1.alloc (.cells #[D J 6,D J 1,G E,D J 0,G Q] 86)).alloc (.cells #[D J 3,D J 9,D J 5,D J 1,G E,D J 0,H (Z ⟨X1.heap.size,0,U⟩) 1 1,G E] 32)=X2 at HF HT HB kf HP ko ⊢;obtain ⟨c0,c1,c2⟩:=cQ3 kf;obtain ⟨d0,d1,d2,d3,d4,d5,d6,d7⟩:=cQ8 ko;go_wp2_with fail
 refine (zSP HF.out oh.out (Z ⟨X1.heap.size,0,U⟩) ⟨zWN,HP.out,by omega⟩ HT.out).mono ?_;rintro e w2 ⟨rfl,hb⟩;clear c0 c1 c2 d0 d1 d2 d3 d4 d5 d6 d7;replace HF:=qH (HF.out.below hb);replace HT:=qH (HT.out.below hb);replace HB:=qH (zAa HB.out hb HB.out.size);replace kf:=kf.below hb kf.lt;replace HP:=qH (HP.out.below hb);replace ko:=ko.below hb ko.lt;clear hb;clear ko HP;obtain ⟨c0,c1,c2⟩:=cQ3 kf;go_wp2_with fail
 refine (zSQ HF.out oh.out HT.out).mono ?_;rintro e w3 ⟨rfl,hb⟩;clear c0 c1 c2;replace HF:=qH (HF.out.below hb);replace HT:=qH (HT.out.below hb);replace HB:=qH (zAa HB.out hb HB.out.size);replace kf:=kf.below hb kf.lt;clear hb;obtain ⟨c0,c1,c2⟩:=cQ3 kf;go_wp2_with fail
 refine (zSR HF.out oh.out HT.out).mono ?_;rintro e w4 ⟨B,m,d,Es,rfl,hE,hm,hO,hb⟩;clear c0 c1 c2;replace HF:=qH (HF.out.below hb);replace HT:=qH (HT.out.below hb);replace HB:=qH (zAa HB.out hb HB.out.size);replace kf:=kf.below hb kf.lt;obtain ⟨rfl,g,o,⟨eL,eA,en,ec⟩,rfl,hg,q0,q1,hL⟩:=zSU hO hE;simp only at q1 hL;have HQ:=qH (show g < w4.heap.size∧w4.cell? ⟨g,o,U⟩=Z (D J 10)∧w4.cell? ⟨g,o+1,U⟩=Z (H eA en ec) from ⟨hg,q0,q1⟩);have HL:=qH hL;clear hE hm hO hb hg q0 q1 hL;obtain ⟨c0,c1,c2⟩:=cQ3 kf;go_wp2_with fail
 refine (zNn zXP 6 (zVi stdF) (by decide) HF.out oh.out HT.out).mono ?_;rintro e w5 ⟨⟨ok,of,⟨off,ofl,ofar,opc⟩,opath,oov⟩,oB,om,od,rfl,hb⟩;simp only;clear c0 c1 c2;replace HF:=qH (HF.out.below hb);replace HT:=qH (HT.out.below hb);replace HB:=qH (zAa HB.out hb HB.out.size);replace kf:=kf.below hb kf.lt;replace HL:=qH (HL.out.below hb);replace HQ:=qH (show g < w5.heap.size∧w5.cell? ⟨g,o,U⟩=Z (D J 10)∧w5.cell? ⟨g,o+1,U⟩=Z (H eA en ec) from ⟨Nat.lt_of_lt_of_le HQ.out.1 hb.size,(hb.cell (p:=⟨g,o,U⟩) HQ.out.1).trans HQ.out.2.1,(hb.cell (p:=⟨g,o+1,U⟩) HQ.out.1).trans HQ.out.2.2⟩);clear hb;have hba:=(Below.refl w5.heap.size w5).alloc (Nat.le_refl _) (.cells #[D J ok,D J of,D J off,D J ofl,G ofar,D J opc,H oB om od,G oov] 32);replace HF:=qH (HF.out.below hba);replace HT:=qH (HT.out.below hba);replace HB:=qH (zAa HB.out hba HB.out.size);replace kf:=kf.below hba kf.lt;replace HL:=qH (HL.out.below hba);replace HQ:=qH (show g < (w5.alloc (.cells #[D J ok,D J of,D J off,D J ofl,G ofar,D J opc,H oB om od,G oov] 32)).heap.size∧(w5.alloc (.cells #[D J ok,D J of,D J off,D J ofl,G ofar,D J opc,H oB om od,G oov] 32)).cell? ⟨g,o,U⟩=Z (D J 10)∧(w5.alloc (.cells #[D J ok,D J of,D J off,D J ofl,G ofar,D J opc,H oB om od,G oov] 32)).cell? ⟨g,o+1,U⟩=Z (H eA en ec) from ⟨Nat.lt_of_lt_of_le HQ.out.1 hba.size,(hba.cell (p:=⟨g,o,U⟩) HQ.out.1).trans HQ.out.2.1,(hba.cell (p:=⟨g,o+1,U⟩) HQ.out.1).trans HQ.out.2.2⟩);clear hba;go_upto_region 7 with fail
 generalize w5.alloc (.cells #[D J ok,D J of,D J off,D J ofl,G ofar,D J opc,H oB om od,G oov] 32)=Z0 at HF HT HB kf HL HQ ⊢;obtain ⟨c0,c1,c2⟩:=cQ3 kf;go_wp2_with fail
 refine (zNn zXQ 8 (zVj) (by decide) HF.out oh.out HT.out).mono ?_;rintro e w6 ⟨⟨ok,of,⟨off,ofl,ofar,opc⟩,opath,oov⟩,oB,om,od,rfl,hb⟩;simp only;clear c0 c1 c2;replace HF:=qH (HF.out.below hb);replace HT:=qH (HT.out.below hb);replace HB:=qH (zAa HB.out hb HB.out.size);replace kf:=kf.below hb kf.lt;replace HL:=qH (HL.out.below hb);replace HQ:=qH (show g < w6.heap.size∧w6.cell? ⟨g,o,U⟩=Z (D J 10)∧w6.cell? ⟨g,o+1,U⟩=Z (H eA en ec) from ⟨Nat.lt_of_lt_of_le HQ.out.1 hb.size,(hb.cell (p:=⟨g,o,U⟩) HQ.out.1).trans HQ.out.2.1,(hb.cell (p:=⟨g,o+1,U⟩) HQ.out.1).trans HQ.out.2.2⟩);clear hb;have hba:=(Below.refl w6.heap.size w6).alloc (Nat.le_refl _) (.cells #[D J ok,D J of,D J off,D J ofl,G ofar,D J opc,H oB om od,G oov] 32);replace HF:=qH (HF.out.below hba);replace HT:=qH (HT.out.below hba);replace HB:=qH (zAa HB.out hba HB.out.size);replace kf:=kf.below hba kf.lt;replace HL:=qH (HL.out.below hba);replace HQ:=qH (show g < (w6.alloc (.cells #[D J ok,D J of,D J off,D J ofl,G ofar,D J opc,H oB om od,G oov] 32)).heap.size∧(w6.alloc (.cells #[D J ok,D J of,D J off,D J ofl,G ofar,D J opc,H oB om od,G oov] 32)).cell? ⟨g,o,U⟩=Z (D J 10)∧(w6.alloc (.cells #[D J ok,D J of,D J off,D J ofl,G ofar,D J opc,H oB om od,G oov] 32)).cell? ⟨g,o+1,U⟩=Z (H eA en ec) from ⟨Nat.lt_of_lt_of_le HQ.out.1 hba.size,(hba.cell (p:=⟨g,o,U⟩) HQ.out.1).trans HQ.out.2.1,(hba.cell (p:=⟨g,o+1,U⟩) HQ.out.1).trans HQ.out.2.2⟩);clear hba;go_upto_region 8 with fail
 generalize w6.alloc (.cells #[D J ok,D J of,D J off,D J ofl,G ofar,D J opc,H oB om od,G oov] 32)=Z1 at HF HT HB kf HL HQ ⊢;go_upto_region 10 with fail
 go_cut [13,4] (fun v13 v4 wv=>v13=W (bA exS)∧v4=D J 0∧∃V:World,V=wv∧Below Z1.heap.size Z1 V)
 case first =>
  have k0:∀wx,Below Z1.heap.size Z1 wx→(Below Z1.heap.size Z1 wx∧wx.cell? ⟨w1.heap.size,0,U⟩=Z (H A 10 c)∧wx.cell? ⟨w1.heap.size,1,U⟩=Z (D J 6)∧wx.cell? ⟨w1.heap.size,2,U⟩=Z (D J 4)∧wx.cell? ⟨g,o,U⟩=Z (D J 10)∧wx.cell? ⟨g,o+1,U⟩=Z (H eA en ec)):=fun wx h=>⟨h,((kf.below h kf.lt).cell 0).trans rfl,((kf.below h kf.lt).cell 1).trans rfl,((kf.below h kf.lt).cell 2).trans rfl,(h.cell (p:=⟨g,o,U⟩) HQ.out.1).trans HQ.out.2.1,(h.cell (p:=⟨g,o+1,U⟩) HQ.out.1).trans HQ.out.2.2⟩
  have KP:=qH k0;clear k0
  first
   | go_region_held3 (fun wx=>Below Z1.heap.size Z1 wx∧wx.cell? ⟨w1.heap.size,0,U⟩=Z (H A 10 c)∧wx.cell? ⟨w1.heap.size,1,U⟩=Z (D J 6)∧wx.cell? ⟨w1.heap.size,2,U⟩=Z (D J 4)∧wx.cell? ⟨g,o,U⟩=Z (D J 10)∧wx.cell? ⟨g,o+1,U⟩=Z (H eA en ec)) (first | assumption | exact KP.out _ (Below.refl _ _).drew | exact KP.out _ (zAa (And.left (by assumption)) (by assumption) (Below.size (And.left (by assumption)))))
     (first
      | (go_at_call 33;refine (zSS (HF.out.below (And.left (by assumption))) oh.out (HL.out.below (And.left (by assumption))) (HT.out.below (And.left (by assumption)))).mono ?_;rintro e zz ⟨rfl,hzz⟩))
   | fail
  all_goals
   have hbf:=And.left (show Below Z1.heap.size Z1 _∧_ by assumption);go_wp2_with fail
   go_meet
   case rel=>exact ⟨rfl,rfl,_,rfl,hbf⟩
 case rest =>
  obtain ⟨rfl,rfl,V,hV,hb⟩:=hcut;subst hV;replace HF:=qH (HF.out.below hb);replace HT:=qH (HT.out.below hb);replace HB:=qH (zAa HB.out hb HB.out.size);replace kf:=kf.below hb kf.lt;replace HL:=qH (HL.out.below hb);replace HQ:=qH (show g < V.heap.size∧V.cell? ⟨g,o,U⟩=Z (D J 10)∧V.cell? ⟨g,o+1,U⟩=Z (H eA en ec) from ⟨Nat.lt_of_lt_of_le HQ.out.1 hb.size,(hb.cell (p:=⟨g,o,U⟩) HQ.out.1).trans HQ.out.2.1,(hb.cell (p:=⟨g,o+1,U⟩) HQ.out.1).trans HQ.out.2.2⟩);clear hb;have Eh:((bA zXR).toList==[112,105,99,107,32,82,50,32,111,118,101,114,32,82,53,32,110,101,97,114,32,108,111,111,112,32,49,44,32,102,114,111,109,32,76,53,32,110,101,97,114,32,108,111,111,112,32,49])=Q:=by rw [zAH];decide
  have Eg:((bA zXS).toList==[112,105,99,107,32,82,50,32,111,118,101,114,32,82,53,32,110,101,97,114,44,32,102,114,111,109,32,76,53,32,110,101,97,114,10])=Q:=by rw [zAH];decide
  have texP:((bA exP).toList==[49,48,58,32,49,46,49,32,48,46,49,32,49,117,43,32,57,46,49,32,49,48,46,49,32,49,111,43])=Q:=by rw [zAH];decide
  have texS:((bA exS).toList==[76,49,46,49,60,32,49,117,32,82,49,46,49,62,32,49,111])=Q:=by rw [zAH];decide
  have q0:=HQ.out.2.1;have q1:=HQ.out.2.2;go_wp2_with fail
  refine (zST HL.out).mono ?_;rintro e V2 ⟨rfl,hb⟩;clear q0 q1;replace HF:=qH (HF.out.below hb);replace HT:=qH (HT.out.below hb);replace HB:=qH (zAa HB.out hb HB.out.size);replace kf:=kf.below hb kf.lt;replace HL:=qH (HL.out.below hb);clear hb;go_wp2_with fail
  go_ret;exact ⟨rfl,HB.out⟩
theorem zVr:∀x∈AL,FgOk x:=fun x hx=>by
 unfold AL at hx;obtain ⟨p,hp,hx⟩:=List.mem_flatMap.1 hx;obtain ⟨d,hd,hx⟩:=List.mem_flatMap.1 hx;have hp:=List.mem_range.1 hp;have hd:=List.mem_range.1 hd;simp only [List.mem_cons,List.not_mem_nil,or_false] at hx;rcases hx with rfl | rfl<;>exact ⟨zCM (by simp only;omega) (by simp only;omega),zCM (by simp only;omega) (by simp only;omega)⟩
theorem zTL {w:World} {base:Nat} {A:Option Addr} {c:Nat} (h:Row w base 3 A 126 c (AL.flatMap fgC)):Fgs w A 126 AL :=
 ⟨h.els (enc:=zXe) (fun _=>rfl) (by omega) (by omega),zVr⟩
theorem zLd {A:Option Addr} {n:Nat} {L:List Fg} {f:Fg} {k:Nat} (h:zAM L f=k) (c:Nat) (re lo:Int) (w:World) (hA:Fgs w A n L) :
  Calls Tryz.prog 53 #[.agg #[H A n c,D J re,D J lo],.agg #[D J f.p,G f.r,D J f.d]] w fun e w'=>e=.returned (D J (k:Int))∧Below w.heap.size w w':=by
 subst h;exact zIx A n c L re lo f w hA
set_option maxHeartbeats 1600000 in
theorem zMj (S:List UInt8) (w:World) :
  Calls Tryz.prog 99 #[W (bA S)] w fun e w'=>e=.returned (D J (fnA S:Int))∧Below w.heap.size w w':=by
 have HP:=qH (zIr S)
 cases hp:zGu S with
 | none =>
  have HR:=qH (show fnA S=0 by unfold fnA zDE;rw [hp]);simp only [hp,zVp,df] at HP;clear hp;go_enter Tryz.func99,Tryz.ntmps99;go_wp2_with fail
  refine (HP.out _).mono ?_;rintro e X ⟨rfl,hb⟩;have ab:Below w.heap.size w (X.alloc (.cells #[D J 0,G E,D J 0] 90)):=hb.alloc hb.size _;have HB:=qH ab;clear hb ab;go_wp2_with fail
  go_ret;exact ⟨zGC (by rw [HR.out];rfl),HB.out⟩
 | some f =>
  obtain ⟨k,hk⟩:∃k,zAM AL f=k:=⟨_,rfl⟩
  have HR:=qH (show fnA S=k by unfold fnA zDE;rw [hp];exact hk);have HK:=qH hk;simp only [hp,zVp] at HP;obtain ⟨p,r,d⟩:=f;clear hp hk;go_enter Tryz.func99,Tryz.ntmps99;go_wp2_with fail
  refine (HP.out _).mono ?_;rintro e X ⟨rfl,hb⟩;have ab:Below w.heap.size w (X.alloc (.cells #[D J p,G r,D J d] 90)):=hb.alloc hb.size _;have be:Blk (X.alloc (.cells #[D J p,G r,D J d] 90)) X.heap.size 90 #[D J p,G r,D J d]:=Blk.new _ _ _;go_upto_region 4 with fail
  generalize X.alloc (.cells #[D J p,G r,D J d] 90)=Y at ab be ⊢;generalize X.heap.size=b3 at be ⊢;have HB:=qH ab;have Gu:=qH be;have y0:Y.cell? ⟨b3,0,U⟩=Z (D J p):=(be.cell 0).trans rfl;have y1:Y.cell? ⟨b3,1,U⟩=Z (G r):=(be.cell 1).trans rfl;have y2:Y.cell? ⟨b3,2,U⟩=Z (D J d):=(be.cell 2).trans rfl;clear hb ab be HP
  go_region_with (first
   | (go_at_call 56;refine (zNl _).mono ?_;rintro e wa ⟨A2,c2,rfl,nI,hba⟩;have hbd:Below Y.heap.size Y wa:=zAa ((Below.refl Y.heap.size Y).drew) hba (Nat.le_refl _);have hka:=Gu.out.below hbd Gu.out.lt;have z0:wa.cell? ⟨b3,0,U⟩=Z (D J p):=(hka.cell 0).trans rfl;have z1:wa.cell? ⟨b3,1,U⟩=Z (G r):=(hka.cell 1).trans rfl;have z2:wa.cell? ⟨b3,2,U⟩=Z (D J d):=(hka.cell 2).trans rfl;have DE:=qH (zTL nI);clear nI hba hka)
   | (go_at_call 53;refine (zLd HK.out _ _ _ _ DE.out).mono ?_;rintro e wb ⟨rfl,hbb⟩))
  all_goals
   have hbf:=zAa (zAa HB.out hbd HB.out.size) hbb (Nat.le_trans HB.out.size hbd.size);go_wp2_with fail
   go_ret;exact ⟨zGC (by rw [HR.out]),hbf⟩
theorem zQJ {S:List UInt8} {k:Nat} (h:fnA S=k) (w:World):Calls Tryz.prog 99 #[W (bA S)] w fun e w'=>e=.returned (D J (k:Int))∧Below w.heap.size w w':=by
 subst h;exact zMj S w
theorem Blk.storeL4 {w:World} {g:Nat} {t:TypeId} {v0 v1 v2 v3:Value} (h:Blk w g t #[v0,v1,v2,v3]) (u0 u1 u2 u3:Value) :
  Blk ((((w.setCell ⟨g,0,U⟩ u0).setCell ⟨g,1,U⟩ u1).setCell ⟨g,2,U⟩ u2).setCell ⟨g,3,U⟩ u3) g t #[u0,u1,u2,u3]:=(((h.set_ 0 _).set_ 1 _).set_ 2 _).set_ 3 _
theorem zBa {a w:World} {g B:Nat} (h:Below B a w) (hB:B≤g) (u0 u1 u2 u3:Value) :
  Below B a ((((w.setCell ⟨g,0,U⟩ u0).setCell ⟨g,1,U⟩ u1).setCell ⟨g,2,U⟩ u2).setCell ⟨g,3,U⟩ u3) :=
 (((h.setCell (p:=⟨g,0,U⟩) hB _).setCell (p:=⟨g,1,U⟩) hB _).setCell (p:=⟨g,2,U⟩) hB _).setCell (p:=⟨g,3,U⟩) hB _
theorem zOj {x:List UInt8} {k:Nat} (h:x.length=k+1):∃b,x[k]? = Z b∧x.getLast? = Z b:=by
 have hk:k < x.length:=by omega
 refine ⟨x[k],List.getElem?_eq_getElem hk,?_⟩;rw [List.getLast?_eq_getElem?,show x.length-1=k by omega,List.getElem?_eq_getElem hk]
theorem zJT (b:UInt8) (c:Nat) (hc:c < 256):((b.toNat:Int)==(c:Int))=decide (b=UInt8.ofNat c):=by
 by_cases e:b=UInt8.ofNat c
 ·rw [decide_eq_true e,e];simp;omega
 ·rw [decide_eq_false e];simp only [beq_eq_false_iff_ne,ne_eq];intro h;exact e (UInt8.toNat.inj (by simp;omega))
theorem zQK {T:List (List UInt8)} {i:Nat} (h:i < T.length):T[i]? = Z (xa T i):=by unfold xa;rw [List.getElem?_eq_getElem h];rfl
end Go.Proofs.YtlmdfmnbcndhoaaGreatDoor
