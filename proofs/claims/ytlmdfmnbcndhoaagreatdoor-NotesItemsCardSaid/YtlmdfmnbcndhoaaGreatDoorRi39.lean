/-
  Lemmas, part 39. Conditions: each theorem's own.
-/
import Derived.Test.YtlmdfmnbcndhoaaGreatDoorRi23
import Derived.Test.YtlmdfmnbcndhoaaGreatDoorRi38
import Derived.Test.YtlmdfmnbcndhoaaGreatDoorRi24
namespace Go.Proofs.YtlmdfmnbcndhoaaGreatDoor
open Go.RowKit
theorem zMw {x:Fg} {S:List UInt8} (h:zAk x=S) (hx:zAm x=true) (w:World) :
  Calls Tryz.prog 111 #[fgV x] w fun e w'=>e=.returned (.string (bA S))∧Below w.heap.size w w':=by
 subst h;exact zJz x hx w
def zUo (o:Option Fg):Value:=match o with | some f=>.tuple #[fgV f,.bool true] | none=>.tuple #[fgV df,.bool false]
set_option maxHeartbeats 6400000 in
set_option maxRecDepth 100000 in
theorem zHD (S:List UInt8) (w:World) :
  Calls Tryz.prog 150 #[.string (bA S)] w fun e w'=>e=.returned (zUo (zFP S))∧Below w.heap.size w w':=by
 have hb0:Below w.heap.size w (w.alloc (.cells #[.int .i64 0,.bool false,.int .i64 0] 90)):=(Below.refl _ _).alloc (Nat.le_refl _) _;have hk0:Blk (w.alloc (.cells #[.int .i64 0,.bool false,.int .i64 0] 90)) w.heap.size 90 #[.int .i64 0,.bool false,.int .i64 0]:=Blk.new _ _ _;have bl:=zKo;have br:=zKp;have bf0:=zOr;go_enter Tryz.func150,Tryz.ntmps150;go_wp2_with fail
 generalize w.alloc (.cells #[.int .i64 0,.bool false,.int .i64 0] 90)=W at hb0 hk0 ⊢;go_loopw [4] (fun v wr=>∃p:Nat,1≤p∧p≤10∧v=.int .i64 p∧Below W.heap.size W wr∧Hid (∀f,zAm f=true→f.p < (p:Int)→zAk f≠S)) (fun v _=>10-(intOf v).toNat)
 case atStart=>exact ⟨1,by omega,by omega,rfl,Below.refl _ _,qH (fun f hf h=>by have:=zAp.1 hf;omega)⟩
 case round =>
  obtain ⟨p,hp1,hp,rfl,hbr,HP⟩:=hrel;by_cases hlt:p < 10
  ·have i1:(p:Int)≤9:=by omega
   go_wp2_with fail
   go_loopw [5] (fun v w1=>∃d:Nat,d≤7∧v=.int .i64 d∧Below W.heap.size W w1∧Hid (∀f,zAm f=true→(f.p < (p:Int)∨f.p=(p:Int)∧f.d < (d:Int))→zAk f≠S)) (fun v _=>7-(intOf v).toNat)
   case atStart=>exact ⟨0,by omega,rfl,hbr,qH (fun f hf h=>by rcases h with h | h;exact HP.out f hf h;have:=zAp.1 hf;omega)⟩
   case round =>
    clear hbr;obtain ⟨d,hd,rfl,hbr,HD⟩:=hrel;by_cases hdl:d < 7
    ·have i2:(d:Int)≤6:=by omega
     have hth:∀r,zAm ⟨(p:Int),r,(d:Int)⟩=true:=fun r=>zAp.2 ⟨by simp only;omega,by simp only;omega,by simp only;omega,by simp only;omega⟩
     obtain ⟨NL,hNL⟩:∃T,zAk ⟨(p:Int),false,(d:Int)⟩=T:=⟨_,rfl⟩
     obtain ⟨NR,hNR⟩:∃T,zAk ⟨(p:Int),true,(d:Int)⟩=T:=⟨_,rfl⟩
     have HNL:=qH (fun w=>zMw hNL (hth false) w);have HNR:=qH (fun w=>zMw hNR (hth true) w);have HL:=qH hNL;have HR:=qH hNR;have HTH:=qH hth;clear hNL hNR hth;have hb2:Below W.heap.size W ((wr.alloc (.cells #[.int .i64 (p:Int),.bool false,.int .i64 (d:Int)] 90)).alloc (.cells #[.int .i64 (p:Int),.bool true,.int .i64 (d:Int)] 90)):=(hbr.alloc hbr.size _).alloc (by have:=hbr.size;simp;omega) _;have kl:Blk ((wr.alloc (.cells #[.int .i64 (p:Int),.bool false,.int .i64 (d:Int)] 90)).alloc (.cells #[.int .i64 (p:Int),.bool true,.int .i64 (d:Int)] 90)) wr.heap.size 90 #[.int .i64 (p:Int),.bool false,.int .i64 (d:Int)]:=(Blk.new wr _ _).alloc _;have kr:Blk ((wr.alloc (.cells #[.int .i64 (p:Int),.bool false,.int .i64 (d:Int)] 90)).alloc (.cells #[.int .i64 (p:Int),.bool true,.int .i64 (d:Int)] 90)) (wr.heap.size+1) 90 #[.int .i64 (p:Int),.bool true,.int .i64 (d:Int)]:=heap_alloc2_new wr _ _;go_upto_region 8 with fail
     generalize (wr.alloc (.cells #[.int .i64 (p:Int),.bool false,.int .i64 (d:Int)] 90)).alloc (.cells #[.int .i64 (p:Int),.bool true,.int .i64 (d:Int)] 90)=X at hb2 kl kr ⊢;have l0:X.cell? ⟨wr.heap.size,0,none⟩=some (.int .i64 (p:Int)):=(kl.cell 0).trans rfl;have l1:X.cell? ⟨wr.heap.size,1,none⟩=some (.bool false):=(kl.cell 1).trans rfl;have l2:X.cell? ⟨wr.heap.size,2,none⟩=some (.int .i64 (d:Int)):=(kl.cell 2).trans rfl;go_wp2_with fail
     refine (HNL.out _).mono ?_;rintro e Y ⟨rfl,hb⟩;have hb3:=zAa hb2 hb hb2.size;have kl2:=kl.below hb kl.lt;have kr2:=kr.below hb kr.lt;clear l0 l1 l2 hb hb2 kl kr hbr;by_cases q1:NL=S
     ·have hres:=qH (show zFP S=some ⟨(p:Int),false,(d:Int)⟩ from zCn (HTH.out false) (HL.out.trans q1));have n0:((bA NL).toList==(bA S).toList)=true:=by rw [zBD];simpa using q1
      have hr6:=hk0.below hb3 hk0.lt;have c0:Y.cell? ⟨wr.heap.size,0,none⟩=some (.int .i64 (p:Int)):=(kl2.cell 0).trans rfl;have c1:Y.cell? ⟨wr.heap.size,1,none⟩=some (.bool false):=(kl2.cell 1).trans rfl;have c2:Y.cell? ⟨wr.heap.size,2,none⟩=some (.int .i64 (d:Int)):=(kl2.cell 2).trans rfl;have d0:Y.cell? ⟨w.heap.size,0,none⟩=some (.int .i64 0):=(hr6.cell 0).trans rfl;have d1:Y.cell? ⟨w.heap.size,1,none⟩=some (.bool false):=(hr6.cell 1).trans rfl;have d2:Y.cell? ⟨w.heap.size,2,none⟩=some (.int .i64 0):=(hr6.cell 2).trans rfl;have z0:=hr6.frozen 0;have z1:=hr6.frozen 1;have z2:=hr6.frozen 2;have hS:=qH (hr6.store3 (.int .i64 (p:Int)) (.bool false) (.int .i64 (d:Int)));have hbS:=qH (zBU (zAa hb0 hb3 hb0.size) (Nat.le_refl w.heap.size) (.int .i64 (p:Int)) (.bool false) (.int .i64 (d:Int)));clear q1 kl2 kr2 hr6 hb3;go_wp2_with fail
      (try simp only [Exit.inBlock,Exit.then])
      exact zAV rfl rfl rfl hS.out Tryz.underlying90 rfl (by kernel_rfl) rfl ⟨by rw [hres.out];rfl,hbS.out⟩
     ·have n0:((bA NL).toList==(bA S).toList)=false:=by rw [zBD];simpa using q1
      have c0:Y.cell? ⟨wr.heap.size+1,0,none⟩=some (.int .i64 (p:Int)):=(kr2.cell 0).trans rfl;have c1:Y.cell? ⟨wr.heap.size+1,1,none⟩=some (.bool true):=(kr2.cell 1).trans rfl;have c2:Y.cell? ⟨wr.heap.size+1,2,none⟩=some (.int .i64 (d:Int)):=(kr2.cell 2).trans rfl;have HQ1:=qH q1;clear q1;go_wp2_with fail
      refine (HNR.out _).mono ?_;rintro e Z ⟨rfl,hb⟩;have hb4:=zAa hb3 hb hb3.size;have kr3:=kr2.below hb kr2.lt;clear c0 c1 c2 hb hb3 kl2 kr2;by_cases q2:NR=S
      ·have hres:=qH (show zFP S=some ⟨(p:Int),true,(d:Int)⟩ from zCn (HTH.out true) (HR.out.trans q2));have n1:((bA NR).toList==(bA S).toList)=true:=by rw [zBD];simpa using q2
       have hr6:=hk0.below hb4 hk0.lt;have c0:Z.cell? ⟨wr.heap.size+1,0,none⟩=some (.int .i64 (p:Int)):=(kr3.cell 0).trans rfl;have c1:Z.cell? ⟨wr.heap.size+1,1,none⟩=some (.bool true):=(kr3.cell 1).trans rfl;have c2:Z.cell? ⟨wr.heap.size+1,2,none⟩=some (.int .i64 (d:Int)):=(kr3.cell 2).trans rfl;have d0:Z.cell? ⟨w.heap.size,0,none⟩=some (.int .i64 0):=(hr6.cell 0).trans rfl;have d1:Z.cell? ⟨w.heap.size,1,none⟩=some (.bool false):=(hr6.cell 1).trans rfl;have d2:Z.cell? ⟨w.heap.size,2,none⟩=some (.int .i64 0):=(hr6.cell 2).trans rfl;have z0:=hr6.frozen 0;have z1:=hr6.frozen 1;have z2:=hr6.frozen 2;have hS:=qH (hr6.store3 (.int .i64 (p:Int)) (.bool true) (.int .i64 (d:Int)));have hbS:=qH (zBU (zAa hb0 hb4 hb0.size) (Nat.le_refl w.heap.size) (.int .i64 (p:Int)) (.bool true) (.int .i64 (d:Int)));clear q2 kr3 hr6 hb4;go_wp2_with fail
       (try simp only [Exit.inBlock,Exit.then])
       exact zAV rfl rfl rfl hS.out Tryz.underlying90 rfl (by kernel_rfl) rfl ⟨by rw [hres.out];rfl,hbS.out⟩
      ·have n1:((bA NR).toList==(bA S).toList)=false:=by rw [zBD];simpa using q2
       have HD1:=qH (show ∀f,zAm f=true→(f.p < (p:Int)∨f.p=(p:Int)∧f.d < ((d+1:Nat):Int))→zAk f≠S from fun f hf h=>by
        by_cases h5:f.p < (p:Int)∨f.p=(p:Int)∧f.d < (d:Int)
        ·exact HD.out f hf h5
        ·obtain ⟨fp,fr,fd⟩:=f
         simp only at h h5
         have h1:fp=(p:Int):=by
          rcases h with h | h
          ·exact absurd (.inl h) h5
          ·exact h.1
         have h2:fd=(d:Int):=by
          rcases h with h | h
          ·exact absurd (.inl h) h5
          ·have:¬fd < (d:Int):=fun e=>h5 (.inr ⟨h.1,e⟩)
           omega
         rw [h1,h2]
         cases fr with
         | false=>rw [HL.out];exact HQ1.out
         | true=>rw [HR.out];exact q2)
       clear q2 kr3 HD;go_wp2_with fail
       go_roundw
       case rel=>exact ⟨d+1,by omega,by go_num,hb4,HD1⟩
       case measure=>simp [intOf];omega
    ·have i2:¬(d:Int)≤6:=by omega
     have HP1:=qH (show ∀f,zAm f=true→f.p < ((p+1:Nat):Int)→zAk f≠S from fun f hf h=>HD.out f hf (by
      have:=zAp.1 hf
      omega))
     clear HD HP;go_wp2_with fail
     go_roundw
     case rel=>exact ⟨p+1,by omega,by omega,by go_num,hbr,HP1⟩
     case measure=>simp [intOf];omega
  ·have i1:¬(p:Int)≤9:=by omega
   have hres:=qH (show zFP S=none from zJN fun f hf=>HP.out f hf (by have:=zAp.1 hf;omega));have hr6:=hk0.below hbr hk0.lt;have d0:wr.cell? ⟨w.heap.size,0,none⟩=some (.int .i64 0):=(hr6.cell 0).trans rfl;have d1:wr.cell? ⟨w.heap.size,1,none⟩=some (.bool false):=(hr6.cell 1).trans rfl;have d2:wr.cell? ⟨w.heap.size,2,none⟩=some (.int .i64 0):=(hr6.cell 2).trans rfl;have z0:=hr6.frozen 0;have z1:=hr6.frozen 1;have z2:=hr6.frozen 2;have hS:=qH (hr6.store3 (.int .i64 0) (.bool false) (.int .i64 0));have hbS:=qH (zBU (zAa hb0 hbr hb0.size) (Nat.le_refl w.heap.size) (.int .i64 0) (.bool false) (.int .i64 0));clear hr6 HP hbr;go_wp2_with fail
   (try simp only [Exit.inBlock,Exit.then])
   exact zAV rfl rfl rfl hS.out Tryz.underlying90 rfl (by kernel_rfl) rfl ⟨by rw [hres.out];rfl,hbS.out⟩
theorem Stps.one (w:World) (x:Sp) (hx:SgOk x.s) (t:TypeId) :
  Stps (w.alloc (.cells #[.int .i64 x.s.f,.int .i64 x.s.l,.bool x.s.far,.int .i64 x.s.pc,.bool x.over] t)) (some ⟨w.heap.size,0,none⟩) 1 [x]:=by
 refine ⟨⟨rfl,by omega,fun _=>⟨_,_,rfl,by simp,fun j y hy q v hv=>?_⟩⟩,fun e he=>?_⟩
 ·rcases j with _ | j
  ·simp only [List.getElem?_cons_zero,Option.some.injEq] at hy;subst hy;rw [Nat.zero_mul,Nat.add_zero,Nat.zero_add,World.cell?_alloc_at _ _ _ _ rfl,←Array.getElem?_toList];exact hv
  ·simp at hy
 ·obtain rfl:e=x:=by simpa using he
  exact hx
theorem zBe {x:Int} (h0:0≤x) (h1:x≤1000000):I64 x:=⟨by omega,by omega⟩
theorem zVG:∀x∈stdF,FgOk x:=fun x hx=>by
 simp only [stdF,List.mem_cons,List.not_mem_nil,or_false] at hx;rcases hx with rfl | rfl | rfl | rfl | rfl | rfl | rfl | rfl | rfl | rfl<;>exact ⟨⟨by decide,by decide⟩,⟨by decide,by decide⟩⟩
theorem zVH:OgOk exO:=⟨zBe (by decide) (by decide),zBe (by decide) (by decide),⟨zBe (by decide) (by decide),zBe (by decide) (by decide),zBe (by decide) (by decide)⟩⟩
theorem zVI (w:World):(Instr.build 29 #[(0,.int .i64 5),(1,.int .i64 1)]).run Tryz.prog w=.ok (.agg #[.int .i64 5,.int .i64 1,.bool false,.int .i64 0]) w:=run_build w _ _ _ (by kernel_rfl)
theorem zVJ (w:World):(Instr.build 29 #[(0,.int .i64 6),(1,.int .i64 1)]).run Tryz.prog w=.ok (.agg #[.int .i64 6,.int .i64 1,.bool false,.int .i64 0]) w:=run_build w _ _ _ (by kernel_rfl)
theorem zVK (w:World):(Instr.build 86 #[(0,.agg #[.int .i64 6,.int .i64 1,.bool false,.int .i64 0]),(1,.bool true)]).run Tryz.prog w=.ok (.agg #[.int .i64 6,.int .i64 1,.bool false,.int .i64 0,.bool true]) w:=run_build w _ _ _ (by kernel_rfl)
theorem zUp:(Tryz.prog.info? 86).map (fun i=>(i.zero,i.size,i.bytes))=some (some (.agg #[.int .i64 0,.int .i64 0,.bool false,.int .i64 0,.bool false]),5,40):=by kernel_rfl
theorem zVL (w:World):(Instr.buildSlice 30 1 #[(0,.agg #[.int .i64 6,.int .i64 1,.bool false,.int .i64 0,.bool true])]).run Tryz.prog w=.ok (.slice (some ⟨w.heap.size,0,none⟩) 1 1) (w.alloc (.cells #[.int .i64 6,.int .i64 1,.bool false,.int .i64 0,.bool true] 86)):=by
 obtain ⟨i0,hi,hz0,hz1,hz2⟩:=info_parts zUp;refine run_buildSlice w _ _ 1 _ _ i0 _ Tryz.underlying30 hi hz0 (by rw [hz1];omega) (by rw [hz1];omega) ?_;rw [hz1]
 kernel_rfl
theorem zVM (A:Option Addr) (w:World):(Instr.build 32 #[(0,.int .i64 3),(1,.int .i64 9),(2,.agg #[.int .i64 5,.int .i64 1,.bool false,.int .i64 0]),(3,.slice A 1 1)]).run Tryz.prog w=.ok (.agg #[.int .i64 3,.int .i64 9,.int .i64 5,.int .i64 1,.bool false,.int .i64 0,.slice A 1 1,.bool false]) w:=run_build w _ _ _ (by kernel_rfl)
section
variable {A:Option Addr} {c:Nat} {w:World}
theorem zRM (hA:Fgs w A 10 stdF) (hc:10≤c) (B:Option Addr) (hO:OpIn w exO B 1 1) (ht:Tabs w) :
  Calls Tryz.prog 41 #[frV A 10 c 6 4,opV exO B 1 1] w fun e w'=>e=.returned (.tuple #[.string (bA zWG),.int .i64 0])∧Below w.heap.size w w':=by
 have h:=zKK A 10 c stdF 6 4 exO B 1 1 w hA hc hO (by omega) ht;rw [zMr.1,if_pos rfl,zMr.2] at h;exact h
theorem zRN (hA:Fgs w A 10 stdF) (hc:10≤c) (ht:Tabs w) :
  Calls Tryz.prog 40 #[frV A 10 c 6 4,.string (bA zMq),.int .i64 2,.int .i64 1] w fun e w'=>e=.returned (.tuple #[.string (bA zWH),.int .i64 0])∧Below w.heap.size w w':=by
 have h:=zHh ⟨A,10,c,stdF,6,4⟩ zMq 2 1 w hA hc ht;simp only at h;rw [zMt.1,zMt.2] at h;exact h
theorem zRO (hA:Fgs w A 10 stdF) (hc:10≤c) (ht:Tabs w) :
  Calls Tryz.prog 37 #[frV A 10 c 6 4,.string (bA exS)] w (zRz w 10 [exL 1] 0):=by
 have h:=zFd ⟨A,10,c,stdF,6,4⟩ exS w hA hc ht;simp only at h;rw [zWD] at h;exact h
theorem zMx (S:List UInt8) (E:Int) (hE:zEl stdF S=E) (hS:S.length≤8000) (hA:Fgs w A 10 stdF) (hc:10≤c) (ht:Tabs w) :
  Calls Tryz.prog 17 #[frV A 10 c 6 4,.string (bA S)] w fun e w'=>∃(o:Og) (B:Option Addr) (m d:Nat),e=.returned (.tuple #[opV o B m d,.int .i64 E])∧Below w.heap.size w w':=by
 have h:=zGZ ⟨A,10,c,stdF,6,4⟩ S w hA hc ht;refine h.mono ?_;rintro e w' ⟨B,m,d,he,_,_,hb⟩;refine ⟨rdO stdF 6 4 S,B,m,d,?_,hb⟩;rw [he];have h0:zAA stdF 6 4 S=0:=by unfold zAA;rw [if_pos (by decide),if_neg (by omega)]
 have:rdE stdF 6 4 S=E:=by unfold rdE;rw [if_pos h0,hE]
 simp only;rw [this]
theorem zRP (hA:Fgs w A 10 stdF) (hc:10≤c) {B:Option Addr} {m d:Nat} (hB:Lets w B m (exL 1)) (ht:Tabs w) :
  Calls Tryz.prog 33 #[frV A 10 c 6 4,.agg #[.int .i64 10,.slice B m d]] w fun e w'=>e=.returned (.tuple #[.string (bA exS),.int .i64 0])∧Below w.heap.size w w':=by
 have h:=zHA A 10 c stdF 6 4 10 B m d (exL 1) w hA hc hB ht;rw [zSF.1,zSF.2] at h;exact h
theorem zRQ {B:Option Addr} {m d:Nat} (hB:Lets w B m (exL 1)) :
  Calls Tryz.prog 50 #[.agg #[.int .i64 10,.slice B m d]] w fun e w'=>e=.returned (.string (bA exP))∧Below w.heap.size w w':=by
 have h:=zLA 10 B m d (exL 1) w hB (by have:=hB.len;simp [exL] at this;omega) (zBe (by decide) (by decide));rw [zRK] at h;exact h
end
theorem zRR {w:World} {base:Nat} {B:Option Addr} {m d:Nat} {Es:List Ce} (h:CodesOwn w base 10 B m d Es) (hE:List.map (fun x:Ce=>x.L) Es=[exL 1]) :
  m=1∧∃(g o:Nat) (e:Ce),B=some ⟨g,o,none⟩∧g < w.heap.size∧w.cell? ⟨g,o,none⟩=some (.int .i64 10)∧w.cell? ⟨g,o+1,none⟩=some (.slice e.A e.n e.c)∧Lets w e.A e.n (exL 1):=by
 have hl:=h.len;rcases Es with _ | ⟨e,_ | ⟨e2,Es⟩⟩
 ·simp at hE
 ·simp only [List.map_cons,List.map_nil,List.cons.injEq,and_true] at hE;obtain rfl:m=1:=hl.symm;obtain ⟨g,o,rfl,_,hlt⟩:=h.row.form (by omega);have hL:=(h.ok e (List.mem_singleton.2 rfl)).1;rw [hE] at hL;exact ⟨rfl,g,o,e,rfl,hlt,h.row.cell (j:=0) rfl,h.row.cell (j:=1) rfl,hL⟩
 ·simp at hE
set_option maxRecDepth 100000 in
set_option maxHeartbeats 12800000 in
theorem zFe (w:World) (ht:Tabs w):Calls Tryz.prog 16 #[] w fun e w'=>e=.returned (.bool true)∧Below w.heap.size w w':=by
 have HT:=qH ht;clear ht;go_enter Tryz.func16,Tryz.ntmps16;go_wp2_with fail
 refine (zJg _).mono ?_;rintro e w1 ⟨A,c,rfl,hrow,hb⟩;have hcap:10≤c:=hrow.cap;have HF:=qH (show Fgs w1 A 10 stdF from ⟨(show Row w1 w.heap.size 3 A 10 c (stdF.flatMap zVV) from hrow).els (fun _=>rfl) (by omega) (by omega),zVG⟩);replace HT:=qH (HT.out.below hb);have HB:=qH hb;have HCP:=qH hcap;clear hrow hb hcap;have hba:=(Below.refl w1.heap.size w1).alloc (Nat.le_refl _) (.cells #[.slice A 10 c,.int .i64 6,.int .i64 4] 24);replace HF:=qH (HF.out.below hba);replace HT:=qH (HT.out.below hba);replace HB:=qH (zAa HB.out hba HB.out.size);have kf:=Blk.new w1 24 #[.slice A 10 c,.int .i64 6,.int .i64 4];clear hba;go_upto_region 2 with fail
 generalize w1.alloc (.cells #[.slice A 10 c,.int .i64 6,.int .i64 4] 24)=X1 at HF HT HB kf ⊢;have hba:=(Below.refl X1.heap.size X1).alloc (Nat.le_refl _) (.cells #[.int .i64 6,.int .i64 1,.bool false,.int .i64 0,.bool true] 86);replace HF:=qH (HF.out.below hba);replace HT:=qH (HT.out.below hba);replace HB:=qH (zAa HB.out hba HB.out.size);replace kf:=kf.below hba kf.lt;have HP:=qH (Stps.one X1 ⟨⟨6,1,false,0⟩,true⟩ ⟨zBe (by decide) (by decide),zBe (by decide) (by decide),zBe (by decide) (by decide)⟩ 86);have ko:Blk ((X1.alloc (.cells #[.int .i64 6,.int .i64 1,.bool false,.int .i64 0,.bool true] 86)).alloc (.cells #[.int .i64 3,.int .i64 9,.int .i64 5,.int .i64 1,.bool false,.int .i64 0,.slice (some ⟨X1.heap.size,0,none⟩) 1 1,.bool false] 32)) (X1.heap.size+1) 32 #[.int .i64 3,.int .i64 9,.int .i64 5,.int .i64 1,.bool false,.int .i64 0,.slice (some ⟨X1.heap.size,0,none⟩) 1 1,.bool false]:=heap_alloc2_new X1 _ _;clear hba;have hba:=(Below.refl (X1.alloc (.cells #[.int .i64 6,.int .i64 1,.bool false,.int .i64 0,.bool true] 86)).heap.size (X1.alloc (.cells #[.int .i64 6,.int .i64 1,.bool false,.int .i64 0,.bool true] 86))).alloc (Nat.le_refl _) (.cells #[.int .i64 3,.int .i64 9,.int .i64 5,.int .i64 1,.bool false,.int .i64 0,.slice (some ⟨X1.heap.size,0,none⟩) 1 1,.bool false] 32);replace HF:=qH (HF.out.below hba);replace HT:=qH (HT.out.below hba);replace HB:=qH (zAa HB.out hba HB.out.size);replace kf:=kf.below hba kf.lt;replace HP:=qH (HP.out.below hba);clear hba;go_upto_region 3 with fail
 generalize (X1.alloc (.cells #[.int .i64 6,.int .i64 1,.bool false,.int .i64 0,.bool true] 86)).alloc (.cells #[.int .i64 3,.int .i64 9,.int .i64 5,.int .i64 1,.bool false,.int .i64 0,.slice (some ⟨X1.heap.size,0,none⟩) 1 1,.bool false] 32)=X2 at HF HT HB kf HP ko ⊢;obtain ⟨c0,c1,c2⟩:=cQ3 kf;obtain ⟨d0,d1,d2,d3,d4,d5,d6,d7⟩:=cQ8 ko;go_wp2_with fail
 refine (zRM HF.out HCP.out (some ⟨X1.heap.size,0,none⟩) ⟨zVH,HP.out,by omega⟩ HT.out).mono ?_;rintro e w2 ⟨rfl,hb⟩;clear c0 c1 c2 d0 d1 d2 d3 d4 d5 d6 d7;replace HF:=qH (HF.out.below hb);replace HT:=qH (HT.out.below hb);replace HB:=qH (zAa HB.out hb HB.out.size);replace kf:=kf.below hb kf.lt;replace HP:=qH (HP.out.below hb);replace ko:=ko.below hb ko.lt;clear hb;clear ko HP;obtain ⟨c0,c1,c2⟩:=cQ3 kf;go_wp2_with fail
 refine (zRN HF.out HCP.out HT.out).mono ?_;rintro e w3 ⟨rfl,hb⟩;clear c0 c1 c2;replace HF:=qH (HF.out.below hb);replace HT:=qH (HT.out.below hb);replace HB:=qH (zAa HB.out hb HB.out.size);replace kf:=kf.below hb kf.lt;clear hb;obtain ⟨c0,c1,c2⟩:=cQ3 kf;go_wp2_with fail
 refine (zRO HF.out HCP.out HT.out).mono ?_;rintro e w4 ⟨B,m,d,Es,rfl,hE,hm,hO,hb⟩;clear c0 c1 c2;replace HF:=qH (HF.out.below hb);replace HT:=qH (HT.out.below hb);replace HB:=qH (zAa HB.out hb HB.out.size);replace kf:=kf.below hb kf.lt;obtain ⟨rfl,g,o,⟨eL,eA,en,ec⟩,rfl,hg,q0,q1,hL⟩:=zRR hO hE;simp only at q1 hL;have HQ:=qH (show g < w4.heap.size∧w4.cell? ⟨g,o,none⟩=some (.int .i64 10)∧w4.cell? ⟨g,o+1,none⟩=some (.slice eA en ec) from ⟨hg,q0,q1⟩);have HL:=qH hL;clear hE hm hO hb hg q0 q1 hL;obtain ⟨c0,c1,c2⟩:=cQ3 kf;go_wp2_with fail
 refine (zMx zWE 6 (zUh stdF) (by decide) HF.out HCP.out HT.out).mono ?_;rintro e w5 ⟨⟨ok,of,⟨off,ofl,ofar,opc⟩,opath,oov⟩,oB,om,od,rfl,hb⟩;simp only;clear c0 c1 c2;replace HF:=qH (HF.out.below hb);replace HT:=qH (HT.out.below hb);replace HB:=qH (zAa HB.out hb HB.out.size);replace kf:=kf.below hb kf.lt;replace HL:=qH (HL.out.below hb);replace HQ:=qH (show g < w5.heap.size∧w5.cell? ⟨g,o,none⟩=some (.int .i64 10)∧w5.cell? ⟨g,o+1,none⟩=some (.slice eA en ec) from ⟨Nat.lt_of_lt_of_le HQ.out.1 hb.size,(hb.cell (p:=⟨g,o,none⟩) HQ.out.1).trans HQ.out.2.1,(hb.cell (p:=⟨g,o+1,none⟩) HQ.out.1).trans HQ.out.2.2⟩);clear hb;have hba:=(Below.refl w5.heap.size w5).alloc (Nat.le_refl _) (.cells #[.int .i64 ok,.int .i64 of,.int .i64 off,.int .i64 ofl,.bool ofar,.int .i64 opc,.slice oB om od,.bool oov] 32);replace HF:=qH (HF.out.below hba);replace HT:=qH (HT.out.below hba);replace HB:=qH (zAa HB.out hba HB.out.size);replace kf:=kf.below hba kf.lt;replace HL:=qH (HL.out.below hba);replace HQ:=qH (show g < (w5.alloc (.cells #[.int .i64 ok,.int .i64 of,.int .i64 off,.int .i64 ofl,.bool ofar,.int .i64 opc,.slice oB om od,.bool oov] 32)).heap.size∧(w5.alloc (.cells #[.int .i64 ok,.int .i64 of,.int .i64 off,.int .i64 ofl,.bool ofar,.int .i64 opc,.slice oB om od,.bool oov] 32)).cell? ⟨g,o,none⟩=some (.int .i64 10)∧(w5.alloc (.cells #[.int .i64 ok,.int .i64 of,.int .i64 off,.int .i64 ofl,.bool ofar,.int .i64 opc,.slice oB om od,.bool oov] 32)).cell? ⟨g,o+1,none⟩=some (.slice eA en ec) from ⟨Nat.lt_of_lt_of_le HQ.out.1 hba.size,(hba.cell (p:=⟨g,o,none⟩) HQ.out.1).trans HQ.out.2.1,(hba.cell (p:=⟨g,o+1,none⟩) HQ.out.1).trans HQ.out.2.2⟩);clear hba;go_upto_region 7 with fail
 generalize w5.alloc (.cells #[.int .i64 ok,.int .i64 of,.int .i64 off,.int .i64 ofl,.bool ofar,.int .i64 opc,.slice oB om od,.bool oov] 32)=Z0 at HF HT HB kf HL HQ ⊢;obtain ⟨c0,c1,c2⟩:=cQ3 kf;go_wp2_with fail
 refine (zMx zWF 8 (zUi) (by decide) HF.out HCP.out HT.out).mono ?_;rintro e w6 ⟨⟨ok,of,⟨off,ofl,ofar,opc⟩,opath,oov⟩,oB,om,od,rfl,hb⟩;simp only;clear c0 c1 c2;replace HF:=qH (HF.out.below hb);replace HT:=qH (HT.out.below hb);replace HB:=qH (zAa HB.out hb HB.out.size);replace kf:=kf.below hb kf.lt;replace HL:=qH (HL.out.below hb);replace HQ:=qH (show g < w6.heap.size∧w6.cell? ⟨g,o,none⟩=some (.int .i64 10)∧w6.cell? ⟨g,o+1,none⟩=some (.slice eA en ec) from ⟨Nat.lt_of_lt_of_le HQ.out.1 hb.size,(hb.cell (p:=⟨g,o,none⟩) HQ.out.1).trans HQ.out.2.1,(hb.cell (p:=⟨g,o+1,none⟩) HQ.out.1).trans HQ.out.2.2⟩);clear hb;have hba:=(Below.refl w6.heap.size w6).alloc (Nat.le_refl _) (.cells #[.int .i64 ok,.int .i64 of,.int .i64 off,.int .i64 ofl,.bool ofar,.int .i64 opc,.slice oB om od,.bool oov] 32);replace HF:=qH (HF.out.below hba);replace HT:=qH (HT.out.below hba);replace HB:=qH (zAa HB.out hba HB.out.size);replace kf:=kf.below hba kf.lt;replace HL:=qH (HL.out.below hba);replace HQ:=qH (show g < (w6.alloc (.cells #[.int .i64 ok,.int .i64 of,.int .i64 off,.int .i64 ofl,.bool ofar,.int .i64 opc,.slice oB om od,.bool oov] 32)).heap.size∧(w6.alloc (.cells #[.int .i64 ok,.int .i64 of,.int .i64 off,.int .i64 ofl,.bool ofar,.int .i64 opc,.slice oB om od,.bool oov] 32)).cell? ⟨g,o,none⟩=some (.int .i64 10)∧(w6.alloc (.cells #[.int .i64 ok,.int .i64 of,.int .i64 off,.int .i64 ofl,.bool ofar,.int .i64 opc,.slice oB om od,.bool oov] 32)).cell? ⟨g,o+1,none⟩=some (.slice eA en ec) from ⟨Nat.lt_of_lt_of_le HQ.out.1 hba.size,(hba.cell (p:=⟨g,o,none⟩) HQ.out.1).trans HQ.out.2.1,(hba.cell (p:=⟨g,o+1,none⟩) HQ.out.1).trans HQ.out.2.2⟩);clear hba;go_upto_region 8 with fail
 generalize w6.alloc (.cells #[.int .i64 ok,.int .i64 of,.int .i64 off,.int .i64 ofl,.bool ofar,.int .i64 opc,.slice oB om od,.bool oov] 32)=Z1 at HF HT HB kf HL HQ ⊢;go_upto_region 10 with fail
 go_cut [13,4] (fun v13 v4 wv=>v13=.string (bA exS)∧v4=.int .i64 0∧∃V:World,V=wv∧Below Z1.heap.size Z1 V)
 case first =>
  have k0:∀wx,Below Z1.heap.size Z1 wx→(Below Z1.heap.size Z1 wx∧wx.cell? ⟨w1.heap.size,0,none⟩=some (.slice A 10 c)∧wx.cell? ⟨w1.heap.size,1,none⟩=some (.int .i64 6)∧wx.cell? ⟨w1.heap.size,2,none⟩=some (.int .i64 4)∧wx.cell? ⟨g,o,none⟩=some (.int .i64 10)∧wx.cell? ⟨g,o+1,none⟩=some (.slice eA en ec)):=fun wx h=>⟨h,((kf.below h kf.lt).cell 0).trans rfl,((kf.below h kf.lt).cell 1).trans rfl,((kf.below h kf.lt).cell 2).trans rfl,(h.cell (p:=⟨g,o,none⟩) HQ.out.1).trans HQ.out.2.1,(h.cell (p:=⟨g,o+1,none⟩) HQ.out.1).trans HQ.out.2.2⟩
  have KP:=qH k0;clear k0
  first
   | go_region_held3 (fun wx=>Below Z1.heap.size Z1 wx∧wx.cell? ⟨w1.heap.size,0,none⟩=some (.slice A 10 c)∧wx.cell? ⟨w1.heap.size,1,none⟩=some (.int .i64 6)∧wx.cell? ⟨w1.heap.size,2,none⟩=some (.int .i64 4)∧wx.cell? ⟨g,o,none⟩=some (.int .i64 10)∧wx.cell? ⟨g,o+1,none⟩=some (.slice eA en ec)) (first | assumption | exact KP.out _ (Below.refl _ _).drew | exact KP.out _ (zAa (And.left (by assumption)) (by assumption) (Below.size (And.left (by assumption)))))
     (first
      | (go_at_call 33;refine (zRP (HF.out.below (And.left (by assumption))) HCP.out (HL.out.below (And.left (by assumption))) (HT.out.below (And.left (by assumption)))).mono ?_;rintro e zz ⟨rfl,hzz⟩))
   | fail
  all_goals
   have hbf:=And.left (show Below Z1.heap.size Z1 _∧_ by assumption);go_wp2_with fail
   go_meet
   case rel=>exact ⟨rfl,rfl,_,rfl,hbf⟩
 case rest =>
  obtain ⟨rfl,rfl,V,hV,hb⟩:=hcut;subst hV;replace HF:=qH (HF.out.below hb);replace HT:=qH (HT.out.below hb);replace HB:=qH (zAa HB.out hb HB.out.size);replace kf:=kf.below hb kf.lt;replace HL:=qH (HL.out.below hb);replace HQ:=qH (show g < V.heap.size∧V.cell? ⟨g,o,none⟩=some (.int .i64 10)∧V.cell? ⟨g,o+1,none⟩=some (.slice eA en ec) from ⟨Nat.lt_of_lt_of_le HQ.out.1 hb.size,(hb.cell (p:=⟨g,o,none⟩) HQ.out.1).trans HQ.out.2.1,(hb.cell (p:=⟨g,o+1,none⟩) HQ.out.1).trans HQ.out.2.2⟩);clear hb;have texLn:((bA zWG).toList==[112,105,99,107,32,82,50,32,111,118,101,114,32,82,53,32,110,101,97,114,32,108,111,111,112,32,49,44,32,102,114,111,109,32,76,53,32,110,101,97,114,32,108,111,111,112,32,49])=true:=by rw [zAF];decide
  have texTr:((bA zWH).toList==[112,105,99,107,32,82,50,32,111,118,101,114,32,82,53,32,110,101,97,114,44,32,102,114,111,109,32,76,53,32,110,101,97,114,10])=true:=by rw [zAF];decide
  have texP:((bA exP).toList==[49,48,58,32,49,46,49,32,48,46,49,32,49,117,43,32,57,46,49,32,49,48,46,49,32,49,111,43])=true:=by rw [zAF];decide
  have texS:((bA exS).toList==[76,49,46,49,60,32,49,117,32,82,49,46,49,62,32,49,111])=true:=by rw [zAF];decide
  have q0:=HQ.out.2.1;have q1:=HQ.out.2.2;go_wp2_with fail
  refine (zRQ HL.out).mono ?_;rintro e V2 ⟨rfl,hb⟩;clear q0 q1;replace HF:=qH (HF.out.below hb);replace HT:=qH (HT.out.below hb);replace HB:=qH (zAa HB.out hb HB.out.size);replace kf:=kf.below hb kf.lt;replace HL:=qH (HL.out.below hb);clear hb;go_wp2_with fail
  go_ret;exact ⟨rfl,HB.out⟩
theorem zUq:∀x∈AL,FgOk x:=fun x hx=>by
 unfold AL at hx;obtain ⟨p,hp,hx⟩:=List.mem_flatMap.1 hx;obtain ⟨d,hd,hx⟩:=List.mem_flatMap.1 hx;have hp:=List.mem_range.1 hp;have hd:=List.mem_range.1 hd;simp only [List.mem_cons,List.not_mem_nil,or_false] at hx;rcases hx with rfl | rfl<;>exact ⟨zBe (by simp only;omega) (by simp only;omega),zBe (by simp only;omega) (by simp only;omega)⟩
theorem zEa {w:World} {base:Nat} {A:Option Addr} {c:Nat} (h:Row w base 3 A 126 c (AL.flatMap fgC)):Fgs w A 126 AL :=
 ⟨h.els (enc:=zVV) (fun _=>rfl) (by omega) (by omega),zUq⟩
theorem zKq {A:Option Addr} {n:Nat} {L:List Fg} {f:Fg} {k:Nat} (h:zAG L f=k) (c:Nat) (re lo:Int) (w:World) (hA:Fgs w A n L) :
  Calls Tryz.prog 53 #[.agg #[.slice A n c,.int .i64 re,.int .i64 lo],.agg #[.int .i64 f.p,.bool f.r,.int .i64 f.d]] w fun e w'=>e=.returned (.int .i64 (k:Int))∧Below w.heap.size w w':=by
 subst h;exact zHN A n c L re lo f w hA
set_option maxHeartbeats 1600000 in
theorem zLB (S:List UInt8) (w:World) :
  Calls Tryz.prog 99 #[.string (bA S)] w fun e w'=>e=.returned (.int .i64 (fnA S:Int))∧Below w.heap.size w w':=by
 have HP:=qH (zHD S)
 cases hp:zFP S with
 | none =>
  have HR:=qH (show fnA S=0 by unfold fnA zDg;rw [hp]);simp only [hp,zUo,df] at HP;clear hp;go_enter Tryz.func99,Tryz.ntmps99;go_wp2_with fail
  refine (HP.out _).mono ?_;rintro e X ⟨rfl,hb⟩;have hb2:Below w.heap.size w (X.alloc (.cells #[.int .i64 0,.bool false,.int .i64 0] 90)):=hb.alloc hb.size _;have HB:=qH hb2;clear hb hb2;go_wp2_with fail
  go_ret;exact ⟨zIm (by rw [HR.out];rfl),HB.out⟩
 | some f =>
  obtain ⟨k,hk⟩:∃k,zAG AL f=k:=⟨_,rfl⟩
  have HR:=qH (show fnA S=k by unfold fnA zDg;rw [hp];exact hk);have HK:=qH hk;simp only [hp,zUo] at HP;obtain ⟨p,r,d⟩:=f;clear hp hk;go_enter Tryz.func99,Tryz.ntmps99;go_wp2_with fail
  refine (HP.out _).mono ?_;rintro e X ⟨rfl,hb⟩;have hb2:Below w.heap.size w (X.alloc (.cells #[.int .i64 p,.bool r,.int .i64 d] 90)):=hb.alloc hb.size _;have hk3:Blk (X.alloc (.cells #[.int .i64 p,.bool r,.int .i64 d] 90)) X.heap.size 90 #[.int .i64 p,.bool r,.int .i64 d]:=Blk.new _ _ _;go_upto_region 4 with fail
  generalize X.alloc (.cells #[.int .i64 p,.bool r,.int .i64 d] 90)=Y at hb2 hk3 ⊢;generalize X.heap.size=b3 at hk3 ⊢;have HB:=qH hb2;have HK3:=qH hk3;have y0:Y.cell? ⟨b3,0,none⟩=some (.int .i64 p):=(hk3.cell 0).trans rfl;have y1:Y.cell? ⟨b3,1,none⟩=some (.bool r):=(hk3.cell 1).trans rfl;have y2:Y.cell? ⟨b3,2,none⟩=some (.int .i64 d):=(hk3.cell 2).trans rfl;clear hb hb2 hk3 HP
  go_region_with (first
   | (go_at_call 56;refine (zCz _).mono ?_;rintro e wa ⟨A2,c2,rfl,hRa,hba⟩;have hbd:Below Y.heap.size Y wa:=zAa ((Below.refl Y.heap.size Y).drew) hba (Nat.le_refl _);have hka:=HK3.out.below hbd HK3.out.lt;have z0:wa.cell? ⟨b3,0,none⟩=some (.int .i64 p):=(hka.cell 0).trans rfl;have z1:wa.cell? ⟨b3,1,none⟩=some (.bool r):=(hka.cell 1).trans rfl;have z2:wa.cell? ⟨b3,2,none⟩=some (.int .i64 d):=(hka.cell 2).trans rfl;have HFA:=qH (zEa hRa);clear hRa hba hka)
   | (go_at_call 53;refine (zKq HK.out _ _ _ _ HFA.out).mono ?_;rintro e wb ⟨rfl,hbb⟩))
  all_goals
   have hbf:=zAa (zAa HB.out hbd HB.out.size) hbb (Nat.le_trans HB.out.size hbd.size);go_wp2_with fail
   go_ret;exact ⟨zIm (by rw [HR.out]),hbf⟩
theorem zFf {S:List UInt8} {k:Nat} (h:fnA S=k) (w:World):Calls Tryz.prog 99 #[.string (bA S)] w fun e w'=>e=.returned (.int .i64 (k:Int))∧Below w.heap.size w w':=by
 subst h;exact zLB S w
theorem Txts.below {w w':World} {A:Option Addr} {n:Nat} {T:List (List UInt8)} (h:Txts w A n T) (hb:Below w.heap.size w w'):Txts w' A n T:=Els.below h hb
theorem Txts.cell {w:World} {g o n:Nat} {T:List (List UInt8)} (h:Txts w (some ⟨g,o,none⟩) n T) {j:Nat} (hj:j < n):g < w.heap.size∧w.cell? ⟨g,o+j,none⟩=some (.string (bA (xa T j))):=by
 obtain ⟨g',o',e,hb,hc⟩:=h.2.2 (by omega);injection e with e
 injection e with e1 e2
 subst e1;subst e2
 have hx:T[j]? = some (xa T j):=by unfold xa;rw [List.getElem?_eq_getElem (by rw [h.len];exact hj)];rfl
 have:=hc j _ hx 0 _ rfl;rw [show o+j*1+0=o+j by omega] at this;exact ⟨hb,this⟩
theorem Txts.is {w:World} {A:Option Addr} {n:Nat} {T:List (List UInt8)} (h:Txts w A n T) (hn:0 < n):∃g o,A=some ⟨g,o,none⟩:=by
 obtain ⟨g,o,e,_⟩:=h.2.2 hn;exact ⟨g,o,e⟩
theorem zPO (f:Int) (b:Bool) (w:World):(Instr.build 29 #[(0,.int .i64 f),(2,.bool b)]).run Tryz.prog w=.ok (.agg #[.int .i64 f,.int .i64 0,.bool b,.int .i64 0]) w:=run_build w _ _ _ (by kernel_rfl)
theorem Blk.storeL4 {w:World} {g:Nat} {t:TypeId} {v0 v1 v2 v3:Value} (h:Blk w g t #[v0,v1,v2,v3]) (u0 u1 u2 u3:Value) :
  Blk ((((w.setCell ⟨g,0,none⟩ u0).setCell ⟨g,1,none⟩ u1).setCell ⟨g,2,none⟩ u2).setCell ⟨g,3,none⟩ u3) g t #[u0,u1,u2,u3]:=(((h.set_ 0 _).set_ 1 _).set_ 2 _).set_ 3 _
theorem zFg {a w:World} {g B:Nat} (h:Below B a w) (hB:B≤g) (u0 u1 u2 u3:Value) :
  Below B a ((((w.setCell ⟨g,0,none⟩ u0).setCell ⟨g,1,none⟩ u1).setCell ⟨g,2,none⟩ u2).setCell ⟨g,3,none⟩ u3) :=
 (((h.setCell (p:=⟨g,0,none⟩) hB _).setCell (p:=⟨g,1,none⟩) hB _).setCell (p:=⟨g,2,none⟩) hB _).setCell (p:=⟨g,3,none⟩) hB _
section
variable {T:List (List UInt8)} {i:Nat} {x:List UInt8}
end
theorem zIf {T:List (List UInt8)} {j:Nat} (hj:j < T.length):T[j]? = some (xa T j):=by unfold xa;rw [List.getElem?_eq_getElem hj];rfl
end Go.Proofs.YtlmdfmnbcndhoaaGreatDoor
