/-
  The law's examples: known() is true. Condition: the library's tables stand.
  Plain: in a posed code the loops of one finger lie inside one another, and beside those of the next finger: the ranks of a loop follow from its number. No program.
  Plain: a finger that is taken away, and one that is put in: the code stays valid; the finger that was put in is taken away again. No walk of the program.
-/
import Derived.Test.YtlmdfmnbcndhoaaGreatDoorWr41
import Derived.Test.YtlmdfmnbcndhoaaGreatDoorWr26
import Derived.Test.YtlmdfmnbcndhoaaGreatDoorWr34
import Derived.Test.YtlmdfmnbcndhoaaGreatDoorWr33
import Derived.Test.YtlmdfmnbcndhoaaGreatDoorWr11
namespace Go.Proofs.YtlmdfmnbcndhoaaGreatDoor
open Go.RowKit
theorem Stps.one (w:World) (x:Sp) (hx:SgOk x.s) (t:TypeId) :
  Stps (w.alloc (.cells #[.int .i64 x.s.f,.int .i64 x.s.l,.bool x.s.far,.int .i64 x.s.pc,.bool x.over] t)) (some ⟨w.heap.size,0,none⟩) 1 [x]:=by
 refine ⟨⟨rfl,by omega,fun _=>⟨_,_,rfl,by simp,fun j y hy q v hv=>?_⟩⟩,fun e he=>?_⟩
 ·rcases j with _ | j
  ·simp only [List.getElem?_cons_zero,Option.some.injEq] at hy
   subst hy
   rw [Nat.zero_mul,Nat.add_zero,Nat.zero_add,World.cell?_alloc_at _ _ _ _ rfl,←Array.getElem?_toList]
   exact hv
  ·simp at hy
 ·obtain rfl:e=x:=by simpa using he
  exact hx
theorem zDn {x:Int} (h0:0≤x) (h1:x≤1000000):I64 x:=⟨by omega,by omega⟩
theorem std_ok:∀x∈stdF,FgOk x:=fun x hx=>by
 simp only [stdF,List.mem_cons,List.not_mem_nil,or_false] at hx
 rcases hx with rfl | rfl | rfl | rfl | rfl | rfl | rfl | rfl | rfl | rfl<;>exact ⟨⟨by decide,by decide⟩,⟨by decide,by decide⟩⟩
theorem exO_ok:OgOk exO:=⟨zDn (by decide) (by decide),zDn (by decide) (by decide),⟨zDn (by decide) (by decide),zDn (by decide) (by decide),zDn (by decide) (by decide)⟩⟩
theorem build_ex1 (w:World):(Instr.build 29 #[(0,.int .i64 5),(1,.int .i64 1)]).run Tryz.prog w=.ok (.agg #[.int .i64 5,.int .i64 1,.bool false,.int .i64 0]) w:=run_build w _ _ _ (by kernel_rfl)
theorem build_ex2 (w:World):(Instr.build 29 #[(0,.int .i64 6),(1,.int .i64 1)]).run Tryz.prog w=.ok (.agg #[.int .i64 6,.int .i64 1,.bool false,.int .i64 0]) w:=run_build w _ _ _ (by kernel_rfl)
theorem build_ex3 (w:World):(Instr.build 86 #[(0,.agg #[.int .i64 6,.int .i64 1,.bool false,.int .i64 0]),(1,.bool true)]).run Tryz.prog w=.ok (.agg #[.int .i64 6,.int .i64 1,.bool false,.int .i64 0,.bool true]) w:=run_build w _ _ _ (by kernel_rfl)
theorem stpInfo:(Tryz.prog.info? 86).map (fun i=>(i.zero,i.size,i.bytes))=some (some (.agg #[.int .i64 0,.int .i64 0,.bool false,.int .i64 0,.bool false]),5,40):=by kernel_rfl
theorem build_ex4 (w:World):(Instr.buildSlice 30 1 #[(0,.agg #[.int .i64 6,.int .i64 1,.bool false,.int .i64 0,.bool true])]).run Tryz.prog w=.ok (.slice (some ⟨w.heap.size,0,none⟩) 1 1) (w.alloc (.cells #[.int .i64 6,.int .i64 1,.bool false,.int .i64 0,.bool true] 86)):=by
 obtain ⟨i0,hi,hz0,hz1,hz2⟩:=info_parts stpInfo
 refine run_buildSlice w _ _ 1 _ _ i0 _ Tryz.underlying30 hi hz0 (by rw [hz1];omega) (by rw [hz1];omega) ?_
 rw [hz1]
 kernel_rfl
theorem build_ex5 (A:Option Addr) (w:World):(Instr.build 32 #[(0,.int .i64 3),(1,.int .i64 9),(2,.agg #[.int .i64 5,.int .i64 1,.bool false,.int .i64 0]),(3,.slice A 1 1)]).run Tryz.prog w=.ok (.agg #[.int .i64 3,.int .i64 9,.int .i64 5,.int .i64 1,.bool false,.int .i64 0,.slice A 1 1,.bool false]) w:=run_build w _ _ _ (by kernel_rfl)
section
variable {A:Option Addr} {c:Nat} {w:World}
theorem ex_call1 (hA:Fgs w A 10 stdF) (hc:10≤c) (B:Option Addr) (hO:OpIn w exO B 1 1) (ht:Tabs w) :
  Calls Tryz.prog 41 #[frV A 10 c 6 4,opV exO B 1 1] w fun e w'=>e=.returned (.tuple #[.string (bA exLn),.int .i64 0])∧Below w.heap.size w w':=by
 have h:=notes_Words A 10 c stdF 6 4 exO B 1 1 w hA hc hO (by omega) ht
 rw [ex_words.1,if_pos rfl,ex_words.2] at h
 exact h
theorem ex_call2 (hA:Fgs w A 10 stdF) (hc:10≤c) (ht:Tabs w) :
  Calls Tryz.prog 40 #[frV A 10 c 6 4,.string (bA exIt),.int .i64 2,.int .i64 1] w fun e w'=>e=.returned (.tuple #[.string (bA exTr),.int .i64 0])∧Below w.heap.size w w':=by
 have h:=zHd ⟨A,10,c,stdF,6,4⟩ exIt 2 1 w hA hc ht
 simp only at h
 rw [ex_trans.1,ex_trans.2] at h
 exact h
theorem ex_call3 (hA:Fgs w A 10 stdF) (hc:10≤c) (ht:Tabs w) :
  Calls Tryz.prog 37 #[frV A 10 c 6 4,.string (bA exS)] w (RqErr w 10 [exL 1] 0):=by
 have h:=zCF ⟨A,10,c,stdF,6,4⟩ exS w hA hc ht
 simp only at h
 rw [ex_rq] at h
 exact h
theorem ex_call4 (S:List UInt8) (E:Int) (hE:parE stdF S=E) (hS:S.length≤8000) (hA:Fgs w A 10 stdF) (hc:10≤c) (ht:Tabs w) :
  Calls Tryz.prog 17 #[frV A 10 c 6 4,.string (bA S)] w fun e w'=>∃(o:Og) (B:Option Addr) (m d:Nat),e=.returned (.tuple #[opV o B m d,.int .i64 E])∧Below w.heap.size w w':=by
 have h:=zGW ⟨A,10,c,stdF,6,4⟩ S w hA hc ht
 refine h.mono ?_
 rintro e w' ⟨B,m,d,he,_,_,hb⟩
 refine ⟨rdO stdF 6 4 S,B,m,d,?_,hb⟩
 rw [he]
 have h0:zAD stdF 6 4 S=0:=by unfold zAD;rw [if_pos (by decide),if_neg (by omega)]
 have:rdE stdF 6 4 S=E:=by unfold rdE;rw [if_pos h0,hE]
 simp only
 rw [this]
theorem ex_call5 (hA:Fgs w A 10 stdF) (hc:10≤c) {B:Option Addr} {m d:Nat} (hB:Lets w B m (exL 1)) (ht:Tabs w) :
  Calls Tryz.prog 33 #[frV A 10 c 6 4,.agg #[.int .i64 10,.slice B m d]] w fun e w'=>e=.returned (.tuple #[.string (bA exS),.int .i64 0])∧Below w.heap.size w w':=by
 have h:=zEn A 10 c stdF 6 4 10 B m d (exL 1) w hA hc hB ht
 rw [ex_seq.1,ex_seq.2] at h
 exact h
theorem ex_call6 {B:Option Addr} {m d:Nat} (hB:Lets w B m (exL 1)) :
  Calls Tryz.prog 50 #[.agg #[.int .i64 10,.slice B m d]] w fun e w'=>e=.returned (.string (bA exP))∧Below w.heap.size w w':=by
 have h:=cref_PrintA 10 B m d (exL 1) w hB (by have:=hB.len;simp [exL] at this;omega) (zDn (by decide) (by decide))
 rw [ex_print] at h
 exact h
end
theorem one_code {w:World} {base:Nat} {B:Option Addr} {m d:Nat} {Es:List Ce} (h:CodesOwn w base 10 B m d Es) (hE:List.map (fun x:Ce=>x.L) Es=[exL 1]) :
  m=1∧∃(g o:Nat) (e:Ce),B=some ⟨g,o,none⟩∧g < w.heap.size∧w.cell? ⟨g,o,none⟩=some (.int .i64 10)∧w.cell? ⟨g,o+1,none⟩=some (.slice e.A e.n e.c)∧Lets w e.A e.n (exL 1):=by
 have hl:=h.len
 rcases Es with _ | ⟨e,_ | ⟨e2,Es⟩⟩
 ·simp at hE
 ·simp only [List.map_cons,List.map_nil,List.cons.injEq,and_true] at hE
  obtain rfl:m=1:=hl.symm
  obtain ⟨g,o,rfl,_,hlt⟩:=h.row.form (by omega)
  have hL:=(h.ok e (List.mem_singleton.2 rfl)).1
  rw [hE] at hL
  exact ⟨rfl,g,o,e,rfl,hlt,h.row.cell (j:=0) rfl,h.row.cell (j:=1) rfl,hL⟩
 ·simp at hE
set_option maxRecDepth 100000 in
set_option maxHeartbeats 12800000 in
theorem zDU (w:World) (ht:Tabs w):Calls Tryz.prog 16 #[] w fun e w'=>e=.returned (.bool true)∧Below w.heap.size w w':=by
 have b1:=build_ex1
 have b2:=build_ex2
 have b3:=build_ex3
 have b4:=build_ex4
 have b5:=build_ex5
 have HT:=Lib.hid ht
 clear ht
 go_enter Tryz.func16,Tryz.ntmps16
 go_wp2_with fail
 refine (href_Standard _).mono ?_
 rintro e w1 ⟨A,c,rfl,hrow,hb⟩
 have hcap:10≤c:=hrow.cap
 have HF:=Lib.hid (show Fgs w1 A 10 stdF from ⟨(show Row w1 w.heap.size 3 A 10 c (stdF.flatMap encF) from hrow).els (fun _=>rfl) (by omega) (by omega),std_ok⟩)
 replace HT:=Lib.hid (HT.out.below hb)
 have HB:=Lib.hid hb
 have HCP:=Lib.hid hcap
 clear hrow hb hcap
 have hba:=(Below.refl w1.heap.size w1).alloc (Nat.le_refl _) (.cells #[.slice A 10 c,.int .i64 6,.int .i64 4] 24)
 replace HF:=Lib.hid (HF.out.below hba)
 replace HT:=Lib.hid (HT.out.below hba)
 replace HB:=Lib.hid (zAa HB.out hba HB.out.size)
 have kf:=Blk.new w1 24 #[.slice A 10 c,.int .i64 6,.int .i64 4]
 clear hba
 go_upto_region 2 with fail
 generalize w1.alloc (.cells #[.slice A 10 c,.int .i64 6,.int .i64 4] 24)=X1 at HF HT HB kf ⊢
 have hba:=(Below.refl X1.heap.size X1).alloc (Nat.le_refl _) (.cells #[.int .i64 6,.int .i64 1,.bool false,.int .i64 0,.bool true] 86)
 replace HF:=Lib.hid (HF.out.below hba)
 replace HT:=Lib.hid (HT.out.below hba)
 replace HB:=Lib.hid (zAa HB.out hba HB.out.size)
 replace kf:=kf.below hba kf.lt
 have HP:=Lib.hid (Stps.one X1 ⟨⟨6,1,false,0⟩,true⟩ ⟨zDn (by decide) (by decide),zDn (by decide) (by decide),zDn (by decide) (by decide)⟩ 86)
 have ko:Blk ((X1.alloc (.cells #[.int .i64 6,.int .i64 1,.bool false,.int .i64 0,.bool true] 86)).alloc (.cells #[.int .i64 3,.int .i64 9,.int .i64 5,.int .i64 1,.bool false,.int .i64 0,.slice (some ⟨X1.heap.size,0,none⟩) 1 1,.bool false] 32)) (X1.heap.size+1) 32 #[.int .i64 3,.int .i64 9,.int .i64 5,.int .i64 1,.bool false,.int .i64 0,.slice (some ⟨X1.heap.size,0,none⟩) 1 1,.bool false]:=heap_alloc2_new X1 _ _
 clear hba
 have hba:=(Below.refl (X1.alloc (.cells #[.int .i64 6,.int .i64 1,.bool false,.int .i64 0,.bool true] 86)).heap.size (X1.alloc (.cells #[.int .i64 6,.int .i64 1,.bool false,.int .i64 0,.bool true] 86))).alloc (Nat.le_refl _) (.cells #[.int .i64 3,.int .i64 9,.int .i64 5,.int .i64 1,.bool false,.int .i64 0,.slice (some ⟨X1.heap.size,0,none⟩) 1 1,.bool false] 32)
 replace HF:=Lib.hid (HF.out.below hba)
 replace HT:=Lib.hid (HT.out.below hba)
 replace HB:=Lib.hid (zAa HB.out hba HB.out.size)
 replace kf:=kf.below hba kf.lt
 replace HP:=Lib.hid (HP.out.below hba)
 clear hba
 go_upto_region 3 with fail
 generalize (X1.alloc (.cells #[.int .i64 6,.int .i64 1,.bool false,.int .i64 0,.bool true] 86)).alloc (.cells #[.int .i64 3,.int .i64 9,.int .i64 5,.int .i64 1,.bool false,.int .i64 0,.slice (some ⟨X1.heap.size,0,none⟩) 1 1,.bool false] 32)=X2 at HF HT HB kf HP ko ⊢
 have c0:X2.cell? ⟨w1.heap.size,0,none⟩=some (.slice A 10 c):=(kf.cell 0).trans rfl
 have c1:X2.cell? ⟨w1.heap.size,1,none⟩=some (.int .i64 6):=(kf.cell 1).trans rfl
 have c2:X2.cell? ⟨w1.heap.size,2,none⟩=some (.int .i64 4):=(kf.cell 2).trans rfl
 have d0:X2.cell? ⟨X1.heap.size+1,0,none⟩=some (.int .i64 3):=(ko.cell 0).trans rfl
 have d1:X2.cell? ⟨X1.heap.size+1,1,none⟩=some (.int .i64 9):=(ko.cell 1).trans rfl
 have d2:X2.cell? ⟨X1.heap.size+1,2,none⟩=some (.int .i64 5):=(ko.cell 2).trans rfl
 have d3:X2.cell? ⟨X1.heap.size+1,3,none⟩=some (.int .i64 1):=(ko.cell 3).trans rfl
 have d4:X2.cell? ⟨X1.heap.size+1,4,none⟩=some (.bool false):=(ko.cell 4).trans rfl
 have d5:X2.cell? ⟨X1.heap.size+1,5,none⟩=some (.int .i64 0):=(ko.cell 5).trans rfl
 have d6:X2.cell? ⟨X1.heap.size+1,6,none⟩=some (.slice (some ⟨X1.heap.size,0,none⟩) 1 1):=(ko.cell 6).trans rfl
 have d7:X2.cell? ⟨X1.heap.size+1,7,none⟩=some (.bool false):=(ko.cell 7).trans rfl
 go_wp2_with fail
 refine (ex_call1 HF.out HCP.out (some ⟨X1.heap.size,0,none⟩) ⟨exO_ok,HP.out,by omega⟩ HT.out).mono ?_
 rintro e w2 ⟨rfl,hb⟩
 clear c0 c1 c2 d0 d1 d2 d3 d4 d5 d6 d7
 replace HF:=Lib.hid (HF.out.below hb)
 replace HT:=Lib.hid (HT.out.below hb)
 replace HB:=Lib.hid (zAa HB.out hb HB.out.size)
 replace kf:=kf.below hb kf.lt
 replace HP:=Lib.hid (HP.out.below hb)
 replace ko:=ko.below hb ko.lt
 clear hb
 clear ko HP
 have c0:w2.cell? ⟨w1.heap.size,0,none⟩=some (.slice A 10 c):=(kf.cell 0).trans rfl
 have c1:w2.cell? ⟨w1.heap.size,1,none⟩=some (.int .i64 6):=(kf.cell 1).trans rfl
 have c2:w2.cell? ⟨w1.heap.size,2,none⟩=some (.int .i64 4):=(kf.cell 2).trans rfl
 go_wp2_with fail
 refine (ex_call2 HF.out HCP.out HT.out).mono ?_
 rintro e w3 ⟨rfl,hb⟩
 clear c0 c1 c2
 replace HF:=Lib.hid (HF.out.below hb)
 replace HT:=Lib.hid (HT.out.below hb)
 replace HB:=Lib.hid (zAa HB.out hb HB.out.size)
 replace kf:=kf.below hb kf.lt
 clear hb
 have c0:w3.cell? ⟨w1.heap.size,0,none⟩=some (.slice A 10 c):=(kf.cell 0).trans rfl
 have c1:w3.cell? ⟨w1.heap.size,1,none⟩=some (.int .i64 6):=(kf.cell 1).trans rfl
 have c2:w3.cell? ⟨w1.heap.size,2,none⟩=some (.int .i64 4):=(kf.cell 2).trans rfl
 go_wp2_with fail
 refine (ex_call3 HF.out HCP.out HT.out).mono ?_
 rintro e w4 ⟨B,m,d,Es,rfl,hE,hm,hO,hb⟩
 clear c0 c1 c2
 replace HF:=Lib.hid (HF.out.below hb)
 replace HT:=Lib.hid (HT.out.below hb)
 replace HB:=Lib.hid (zAa HB.out hb HB.out.size)
 replace kf:=kf.below hb kf.lt
 obtain ⟨rfl,g,o,⟨eL,eA,en,ec⟩,rfl,hg,q0,q1,hL⟩:=one_code hO hE
 simp only at q1 hL
 have HQ:=Lib.hid (show g < w4.heap.size∧w4.cell? ⟨g,o,none⟩=some (.int .i64 10)∧w4.cell? ⟨g,o+1,none⟩=some (.slice eA en ec) from ⟨hg,q0,q1⟩)
 have HL:=Lib.hid hL
 clear hE hm hO hb hg q0 q1 hL
 have c0:w4.cell? ⟨w1.heap.size,0,none⟩=some (.slice A 10 c):=(kf.cell 0).trans rfl
 have c1:w4.cell? ⟨w1.heap.size,1,none⟩=some (.int .i64 6):=(kf.cell 1).trans rfl
 have c2:w4.cell? ⟨w1.heap.size,2,none⟩=some (.int .i64 4):=(kf.cell 2).trans rfl
 go_wp2_with fail
 refine (ex_call4 exW1 6 (ex_text stdF) (by decide) HF.out HCP.out HT.out).mono ?_
 rintro e w5 ⟨⟨ok,of,⟨off,ofl,ofar,opc⟩,opath,oov⟩,oB,om,od,rfl,hb⟩
 simp only
 clear c0 c1 c2
 replace HF:=Lib.hid (HF.out.below hb)
 replace HT:=Lib.hid (HT.out.below hb)
 replace HB:=Lib.hid (zAa HB.out hb HB.out.size)
 replace kf:=kf.below hb kf.lt
 replace HL:=Lib.hid (HL.out.below hb)
 replace HQ:=Lib.hid (show g < w5.heap.size∧w5.cell? ⟨g,o,none⟩=some (.int .i64 10)∧w5.cell? ⟨g,o+1,none⟩=some (.slice eA en ec) from ⟨Nat.lt_of_lt_of_le HQ.out.1 hb.size,(hb.cell (p:=⟨g,o,none⟩) HQ.out.1).trans HQ.out.2.1,(hb.cell (p:=⟨g,o+1,none⟩) HQ.out.1).trans HQ.out.2.2⟩)
 clear hb
 have hba:=(Below.refl w5.heap.size w5).alloc (Nat.le_refl _) (.cells #[.int .i64 ok,.int .i64 of,.int .i64 off,.int .i64 ofl,.bool ofar,.int .i64 opc,.slice oB om od,.bool oov] 32)
 replace HF:=Lib.hid (HF.out.below hba)
 replace HT:=Lib.hid (HT.out.below hba)
 replace HB:=Lib.hid (zAa HB.out hba HB.out.size)
 replace kf:=kf.below hba kf.lt
 replace HL:=Lib.hid (HL.out.below hba)
 replace HQ:=Lib.hid (show g < (w5.alloc (.cells #[.int .i64 ok,.int .i64 of,.int .i64 off,.int .i64 ofl,.bool ofar,.int .i64 opc,.slice oB om od,.bool oov] 32)).heap.size∧(w5.alloc (.cells #[.int .i64 ok,.int .i64 of,.int .i64 off,.int .i64 ofl,.bool ofar,.int .i64 opc,.slice oB om od,.bool oov] 32)).cell? ⟨g,o,none⟩=some (.int .i64 10)∧(w5.alloc (.cells #[.int .i64 ok,.int .i64 of,.int .i64 off,.int .i64 ofl,.bool ofar,.int .i64 opc,.slice oB om od,.bool oov] 32)).cell? ⟨g,o+1,none⟩=some (.slice eA en ec) from ⟨Nat.lt_of_lt_of_le HQ.out.1 hba.size,(hba.cell (p:=⟨g,o,none⟩) HQ.out.1).trans HQ.out.2.1,(hba.cell (p:=⟨g,o+1,none⟩) HQ.out.1).trans HQ.out.2.2⟩)
 clear hba
 go_upto_region 7 with fail
 generalize w5.alloc (.cells #[.int .i64 ok,.int .i64 of,.int .i64 off,.int .i64 ofl,.bool ofar,.int .i64 opc,.slice oB om od,.bool oov] 32)=Z0 at HF HT HB kf HL HQ ⊢
 have c0:Z0.cell? ⟨w1.heap.size,0,none⟩=some (.slice A 10 c):=(kf.cell 0).trans rfl
 have c1:Z0.cell? ⟨w1.heap.size,1,none⟩=some (.int .i64 6):=(kf.cell 1).trans rfl
 have c2:Z0.cell? ⟨w1.heap.size,2,none⟩=some (.int .i64 4):=(kf.cell 2).trans rfl
 go_wp2_with fail
 refine (ex_call4 exW2 8 (ex_none) (by decide) HF.out HCP.out HT.out).mono ?_
 rintro e w6 ⟨⟨ok,of,⟨off,ofl,ofar,opc⟩,opath,oov⟩,oB,om,od,rfl,hb⟩
 simp only
 clear c0 c1 c2
 replace HF:=Lib.hid (HF.out.below hb)
 replace HT:=Lib.hid (HT.out.below hb)
 replace HB:=Lib.hid (zAa HB.out hb HB.out.size)
 replace kf:=kf.below hb kf.lt
 replace HL:=Lib.hid (HL.out.below hb)
 replace HQ:=Lib.hid (show g < w6.heap.size∧w6.cell? ⟨g,o,none⟩=some (.int .i64 10)∧w6.cell? ⟨g,o+1,none⟩=some (.slice eA en ec) from ⟨Nat.lt_of_lt_of_le HQ.out.1 hb.size,(hb.cell (p:=⟨g,o,none⟩) HQ.out.1).trans HQ.out.2.1,(hb.cell (p:=⟨g,o+1,none⟩) HQ.out.1).trans HQ.out.2.2⟩)
 clear hb
 have hba:=(Below.refl w6.heap.size w6).alloc (Nat.le_refl _) (.cells #[.int .i64 ok,.int .i64 of,.int .i64 off,.int .i64 ofl,.bool ofar,.int .i64 opc,.slice oB om od,.bool oov] 32)
 replace HF:=Lib.hid (HF.out.below hba)
 replace HT:=Lib.hid (HT.out.below hba)
 replace HB:=Lib.hid (zAa HB.out hba HB.out.size)
 replace kf:=kf.below hba kf.lt
 replace HL:=Lib.hid (HL.out.below hba)
 replace HQ:=Lib.hid (show g < (w6.alloc (.cells #[.int .i64 ok,.int .i64 of,.int .i64 off,.int .i64 ofl,.bool ofar,.int .i64 opc,.slice oB om od,.bool oov] 32)).heap.size∧(w6.alloc (.cells #[.int .i64 ok,.int .i64 of,.int .i64 off,.int .i64 ofl,.bool ofar,.int .i64 opc,.slice oB om od,.bool oov] 32)).cell? ⟨g,o,none⟩=some (.int .i64 10)∧(w6.alloc (.cells #[.int .i64 ok,.int .i64 of,.int .i64 off,.int .i64 ofl,.bool ofar,.int .i64 opc,.slice oB om od,.bool oov] 32)).cell? ⟨g,o+1,none⟩=some (.slice eA en ec) from ⟨Nat.lt_of_lt_of_le HQ.out.1 hba.size,(hba.cell (p:=⟨g,o,none⟩) HQ.out.1).trans HQ.out.2.1,(hba.cell (p:=⟨g,o+1,none⟩) HQ.out.1).trans HQ.out.2.2⟩)
 clear hba
 go_upto_region 8 with fail
 generalize w6.alloc (.cells #[.int .i64 ok,.int .i64 of,.int .i64 off,.int .i64 ofl,.bool ofar,.int .i64 opc,.slice oB om od,.bool oov] 32)=Z1 at HF HT HB kf HL HQ ⊢
 go_upto_region 10 with fail
 go_cut [13,4] (fun v13 v4 wv=>v13=.string (bA exS)∧v4=.int .i64 0∧∃V:World,V=wv∧Below Z1.heap.size Z1 V)
 case first =>
  have k0:∀wx,Below Z1.heap.size Z1 wx→(Below Z1.heap.size Z1 wx∧wx.cell? ⟨w1.heap.size,0,none⟩=some (.slice A 10 c)∧wx.cell? ⟨w1.heap.size,1,none⟩=some (.int .i64 6)∧wx.cell? ⟨w1.heap.size,2,none⟩=some (.int .i64 4)∧wx.cell? ⟨g,o,none⟩=some (.int .i64 10)∧wx.cell? ⟨g,o+1,none⟩=some (.slice eA en ec)):=fun wx h=>⟨h,((kf.below h kf.lt).cell 0).trans rfl,((kf.below h kf.lt).cell 1).trans rfl,((kf.below h kf.lt).cell 2).trans rfl,(h.cell (p:=⟨g,o,none⟩) HQ.out.1).trans HQ.out.2.1,(h.cell (p:=⟨g,o+1,none⟩) HQ.out.1).trans HQ.out.2.2⟩
  have KP:=Lib.hid k0
  clear k0
  have g0:=(KP.out Z1 (Below.refl _ _)).2.1
  have g1:=(KP.out Z1 (Below.refl _ _)).2.2.1
  have g2:=(KP.out Z1 (Below.refl _ _)).2.2.2.1
  have g3:=(KP.out Z1 (Below.refl _ _)).2.2.2.2.1
  have g4:=(KP.out Z1 (Below.refl _ _)).2.2.2.2.2
  first
   | go_region_held3 (fun wx=>Below Z1.heap.size Z1 wx∧wx.cell? ⟨w1.heap.size,0,none⟩=some (.slice A 10 c)∧wx.cell? ⟨w1.heap.size,1,none⟩=some (.int .i64 6)∧wx.cell? ⟨w1.heap.size,2,none⟩=some (.int .i64 4)∧wx.cell? ⟨g,o,none⟩=some (.int .i64 10)∧wx.cell? ⟨g,o+1,none⟩=some (.slice eA en ec)) (first | assumption | exact KP.out _ (Below.refl _ _).drew | exact KP.out _ (zAa (And.left (by assumption)) (by assumption) (Below.size (And.left (by assumption)))))
     (first
      | (go_at_call 33;refine (ex_call5 (HF.out.below (And.left (by assumption))) HCP.out (HL.out.below (And.left (by assumption))) (HT.out.below (And.left (by assumption)))).mono ?_;rintro e zz ⟨rfl,hzz⟩))
   | fail
  all_goals
   have hbf:=And.left (show Below Z1.heap.size Z1 _∧_ by assumption)
   clear g0 g1 g2 g3 g4
   go_wp2_with fail
   go_meet
   case rel=>exact ⟨rfl,rfl,_,rfl,hbf⟩
 case rest =>
  obtain ⟨rfl,rfl,V,hV,hb⟩:=hcut
  subst hV
  replace HF:=Lib.hid (HF.out.below hb)
  replace HT:=Lib.hid (HT.out.below hb)
  replace HB:=Lib.hid (zAa HB.out hb HB.out.size)
  replace kf:=kf.below hb kf.lt
  replace HL:=Lib.hid (HL.out.below hb)
  replace HQ:=Lib.hid (show g < V.heap.size∧V.cell? ⟨g,o,none⟩=some (.int .i64 10)∧V.cell? ⟨g,o+1,none⟩=some (.slice eA en ec) from ⟨Nat.lt_of_lt_of_le HQ.out.1 hb.size,(hb.cell (p:=⟨g,o,none⟩) HQ.out.1).trans HQ.out.2.1,(hb.cell (p:=⟨g,o+1,none⟩) HQ.out.1).trans HQ.out.2.2⟩)
  clear hb
  have texLn:((bA exLn).toList==[112,105,99,107,32,82,50,32,111,118,101,114,32,82,53,32,110,101,97,114,32,108,111,111,112,32,49,44,32,102,114,111,109,32,76,53,32,110,101,97,114,32,108,111,111,112,32,49])=true:=by rw [zAG];decide
  have texTr:((bA exTr).toList==[112,105,99,107,32,82,50,32,111,118,101,114,32,82,53,32,110,101,97,114,44,32,102,114,111,109,32,76,53,32,110,101,97,114,10])=true:=by rw [zAG];decide
  have texP:((bA exP).toList==[49,48,58,32,49,46,49,32,48,46,49,32,49,117,43,32,57,46,49,32,49,48,46,49,32,49,111,43])=true:=by rw [zAG];decide
  have texS:((bA exS).toList==[76,49,46,49,60,32,49,117,32,82,49,46,49,62,32,49,111])=true:=by rw [zAG];decide
  have q0:=HQ.out.2.1
  have q1:=HQ.out.2.2
  go_wp2_with fail
  refine (ex_call6 HL.out).mono ?_
  rintro e V2 ⟨rfl,hb⟩
  clear q0 q1
  replace HF:=Lib.hid (HF.out.below hb)
  replace HT:=Lib.hid (HT.out.below hb)
  replace HB:=Lib.hid (zAa HB.out hb HB.out.size)
  replace kf:=kf.below hb kf.lt
  replace HL:=Lib.hid (HL.out.below hb)
  clear hb
  go_wp2_with fail
  go_ret
  exact ⟨rfl,HB.out⟩
end Go.Proofs.YtlmdfmnbcndhoaaGreatDoor
namespace Go.Proofs.YtlmdfmnbcndhoaaGreatDoor
open Go.RowKit
theorem ct_swap {p q p' q':Nat→Bool}:∀{n:Nat},(∀i,i < n→(p i=p' i∧q i=q' i)∨(p i=q' i∧q i=p' i))→zAc p n+zAc q n=zAc p' n+zAc q' n
 | 0,_=>rfl
 | n+1,h=>by
  have ih:=ct_swap (n:=n) (fun i hi=>h i (by omega))
  have hb:∀(r:Nat→Bool),zAc r (n+1)=zAc r n+(if r n then 1 else 0):=fun r=>by
   cases hr:r n with
   | true=>rw [zAj hr];rfl
   | false=>rw [zAi hr];rfl
  rw [hb p,hb q,hb p',hb q']
  rcases h n (by omega) with ⟨e1,e2⟩ | ⟨e1,e2⟩<;>rw [e1,e2]<;>omega
/-- A down pass: it begins an arc below. -/
def dnB (L:List Lt) (i:Nat):Bool:=isP (la L i)&&dwn L i
def liN (L:List Lt) (i:Nat):Nat:=if (la L (i+1)).gate < (la L i).gate then i+1 else i
def riN (L:List Lt) (i:Nat):Nat:=if (la L (i+1)).gate < (la L i).gate then i else i+1
/-- A valid code whose strands below are arcs between neighboring gates. -/
structure PosP (K:Int) (L:List Lt):Prop where
 good:Good K L
 flat:zFq L=true
 arcs:Arcs L
 near:∀i,dnB L i=true→(la L (i+1)).gate-(la L i).gate=1∨(la L i).gate-(la L (i+1)).gate=1
section
variable {K:Int} {L:List Lt}
theorem zCd {i:Nat}:dnB L i=true↔isP (la L i)=true∧dwn L i=true:=by unfold dnB;rw [Bool.and_eq_true]
theorem PosP.up (p:PosP K L) {i:Nat} (h:dnB L i=true):i+1 < L.length∧isP (la L (i+1))=true∧dwn L (i+1)=false:=by
 obtain ⟨h1,h2⟩:=zCd.1 h
 obtain ⟨h3,h4⟩:=p.arcs i (zAH h1) h1 h2
 exact ⟨h3,h4,by rw [dwnP h1,h2];rfl⟩
theorem PosP.up_iff (p:PosP K L) {i:Nat} (hi:i+1 < L.length):(isP (la L (i+1))&&!dwn L (i+1))=dnB L i:=by
 cases h:dnB L i with
 | true=>obtain ⟨_,h2,h3⟩:=p.up h;rw [h2,h3];rfl
 | false =>
  cases h2:isP (la L (i+1)) with
  | false=>rfl
  | true =>
   cases h3:dwn L (i+1) with
   | true=>rfl
   | false =>
    obtain ⟨h4,h5⟩:=p.good.below p.arcs i (by omega) h3
    rw [zCd.2 ⟨h4,h5⟩] at h;cases h
theorem PosP.ups (p:PosP K L) (q:Nat→Bool):∀m,m+1≤L.length→zAc (fun j=>(isP (la L j)&&!dwn L j)&&q j) (m+1)=zAc (fun i=>dnB L i&&q (i+1)) m
 | 0,_=>by
  have h0:dwn L 0=true:=by unfold dwn pN zAc;rfl
  exact zAi (by rw [h0];simp)
 | m+1,hm=>by
  have ih:=p.ups q m (by omega)
  have he:=p.up_iff (i:=m) (by omega)
  have hb:∀(r:Nat→Bool) (n:Nat),zAc r (n+1)=zAc r n+(if r n then 1 else 0):=fun r n=>by
   cases hr:r n with
   | true=>rw [zAj hr];rfl
   | false=>rw [zAi hr];rfl
  rw [hb _ (m+1),ih,hb _ m,he]
/-- Passes are the ends of arcs. -/
theorem PosP.ends (p:PosP K L) (q:Nat→Bool):zAc (fun j=>isP (la L j)&&q j) L.length=zAc (fun i=>dnB L i&&q (liN L i)) L.length+zAc (fun i=>dnB L i&&q (riN L i)) L.length:=by
 have hpos:0 < L.length:=p.good.pos
 obtain ⟨n,hn⟩:∃n,L.length=n+1:=⟨L.length-1,by omega⟩
 have h1:zAc (fun j=>isP (la L j)&&q j) L.length=zAc (fun j=>dnB L j&&q j) L.length+zAc (fun j=>(isP (la L j)&&!dwn L j)&&q j) L.length:=by
  refine zGr (fun j _=>?_) (fun j _ h=>?_)
  ·unfold dnB
   cases isP (la L j)<;>cases dwn L j<;>cases q j<;>rfl
  ·unfold dnB at h
   revert h
   cases isP (la L j)<;>cases dwn L j<;>cases q j<;>simp
 have h2:zAc (fun j=>(isP (la L j)&&!dwn L j)&&q j) L.length=zAc (fun i=>dnB L i&&q (i+1)) L.length:=by
  have hl:(dnB L n&&q (n+1))=false:=by
   cases h:dnB L n with
   | false=>rfl
   | true=>have:=(p.up h).1;omega
  rw [hn,p.ups q n (by omega),zAi (p:=fun i=>dnB L i&&q (i+1)) hl]
 rw [h1,h2]
 refine ct_swap fun i _=>?_
 unfold liN riN
 split
 ·right;exact ⟨rfl,rfl⟩
 ·left;exact ⟨rfl,rfl⟩
theorem left_is (i:Nat):zBf L i=la L (liN L i):=by unfold zBf liN;split<;>rfl
theorem maxG_is (i:Nat):maxG L i=(la L (riN L i)).gate:=by
 unfold maxG riN
 by_cases h:(la L (i+1)).gate < (la L i).gate
 ·rw [if_pos h,if_neg (by omega)]
 ·rw [if_neg h,if_pos (by omega)]
theorem PosP.gates (p:PosP K L) {i:Nat} (h:dnB L i=true):(la L (riN L i)).gate=(la L (liN L i)).gate+1∧isP (la L (liN L i))=true∧isP (la L (riN L i))=true:=by
 have h1:=p.near i h
 have h2:=(p.up h).2.1
 have h3:=(zCd.1 h).1
 unfold liN riN
 split
 ·exact ⟨by omega,h2,h3⟩
 ·exact ⟨by omega,h3,h2⟩
theorem PosP.li_inj (p:PosP K L) {a b:Nat} (ha:dnB L a=true) (hb:dnB L b=true) (x y:Nat) (hx:x=liN L a∨x=riN L a) (hy:y=liN L b∨y=riN L b) (e:x=y):a=b:=by
 have h1:=(p.up ha).2.2
 have h2:=(p.up hb).2.2
 have h3:=(zCd.1 ha).2
 have h4:=(zCd.1 hb).2
 have hxa:x=a∨x=a+1:=by
  unfold liN riN at hx
  split at hx<;>rcases hx with h | h<;>simp [h]
 have hyb:y=b∨y=b+1:=by
  unfold liN riN at hy
  split at hy<;>rcases hy with h | h<;>simp [h]
 subst e
 rcases hxa with rfl | rfl<;>rcases hyb with h | h
 ·exact h
 ·rw [h,h2] at h3;cases h3
 ·rw [←h,h1] at h4;cases h4
 ·omega
theorem PosP.before (p:PosP K L) {x y:Nat} (hx:isP (la L x)=true) (hy:isP (la L y)=true) (h:(la L x).gate < (la L y).gate∨(la L x).gate=(la L y).gate∧(la L x).rank < (la L y).rank):atN L x < atN L y:=by
 have g:=p.good
 have hg:∀i,i < L.length→isP (la L i)=true→0≤(la L i).gate:=fun i hi hp=>(g.gates i hi hp).1
 rw [←zCN hg g.ranks (zAH hx) hx,←zCN hg g.ranks (zAH hy) hy]
 have:=ct_lt (p:=fun j=>isP (la L j)&&lftB (la L j) (la L x)) (q:=fun j=>isP (la L j)&&lftB (la L j) (la L y)) (n:=L.length) (i:=x) (fun m _ hm=>by
  simp only [Bool.and_eq_true,zCC] at hm ⊢
  exact ⟨hm.1,by omega⟩) (zAH hx) (by simp only [Bool.and_eq_true,zCC];exact ⟨hx,h⟩) (by
  cases hh:(isP (la L x)&&lftB (la L x) (la L x)) with
  | false=>rfl
  | true=>simp only [Bool.and_eq_true,zCC] at hh;omega)
 omega
theorem PosP.rank_ne (p:PosP K L) {x y:Nat} (hx:isP (la L x)=true) (hy:isP (la L y)=true) (hne:x≠y) (hg:(la L x).gate=(la L y).gate):(la L x).rank≠(la L y).rank:=by
 rcases Nat.lt_or_ge x y with h | h
 ·exact (zBi.1 (p.good.ranks y (zAH hy)) hy).2 x h hx hg
 ·exact fun e=>(zBi.1 (p.good.ranks x (zAH hx)) hx).2 y (by omega) hy hg.symm e.symm
theorem PosP.cross (p:PosP K L) {a b:Nat} (ha:dnB L a=true) (hb:dnB L b=true) (hab:a≠b):¬(atN L (liN L a) < atN L (liN L b)∧atN L (liN L b) < atN L (riN L a)∧atN L (riN L a) < atN L (riN L b)):=by
 obtain ⟨a1,a2⟩:=zCd.1 ha
 obtain ⟨b1,b2⟩:=zCd.1 hb
 refine p.good.arcs p.flat p.arcs a1 a2 b1 b2 hab ?_ ?_
 ·unfold liN riN;split
  ·right;exact ⟨rfl,rfl⟩
  ·left;exact ⟨rfl,rfl⟩
 ·unfold liN riN;split
  ·right;exact ⟨rfl,rfl⟩
  ·left;exact ⟨rfl,rfl⟩
/-- Right ends lie left of the left ends in a gate. -/
theorem PosP.beside (p:PosP K L) {a b:Nat} (ha:dnB L a=true) (hb:dnB L b=true) (h:(la L (riN L a)).gate=(la L (liN L b)).gate):(la L (riN L a)).rank < (la L (liN L b)).rank:=by
 obtain ⟨g1,g2,g3⟩:=p.gates ha
 obtain ⟨k1,k2,k3⟩:=p.gates hb
 have hne:a≠b:=fun e=>by subst e;omega
 have hd:riN L a≠liN L b:=fun e=>hne (p.li_inj ha hb _ _ (.inr rfl) (.inl rfl) e)
 have hr:=p.rank_ne g3 k2 hd h
 rcases Int.lt_or_gt_of_ne hr with h1 | h1
 ·exact h1
 ·exact absurd ⟨p.before g2 k2 (by omega),p.before k2 g3 (by omega),p.before g3 k3 (by omega)⟩ (p.cross ha hb hne)
/-- Loops of one finger lie inside one another. -/
theorem PosP.nested (p:PosP K L) {a b:Nat} (ha:dnB L a=true) (hb:dnB L b=true) (h:(la L (riN L a)).gate=(la L (riN L b)).gate) (hlt:(la L (liN L a)).rank < (la L (liN L b)).rank):(la L (riN L b)).rank < (la L (riN L a)).rank:=by
 obtain ⟨g1,g2,g3⟩:=p.gates ha
 obtain ⟨k1,k2,k3⟩:=p.gates hb
 have hne:a≠b:=fun e=>by subst e;omega
 have hd:riN L a≠riN L b:=fun e=>hne (p.li_inj ha hb _ _ (.inr rfl) (.inr rfl) e)
 have hr:=p.rank_ne g3 k3 hd h
 rcases Int.lt_or_gt_of_ne hr with h1 | h1
 ·exact absurd ⟨p.before g2 k2 (by omega),p.before k2 g3 (by omega),p.before g3 k3 (by omega)⟩ (p.cross ha hb hne)
 ·exact h1
theorem PosP.nested_iff (p:PosP K L) {a b:Nat} (ha:dnB L a=true) (hb:dnB L b=true) (h:(la L (riN L a)).gate=(la L (riN L b)).gate):(la L (riN L b)).rank≤(la L (riN L a)).rank↔(la L (liN L a)).rank≤(la L (liN L b)).rank:=by
 obtain ⟨g1,g2,g3⟩:=p.gates ha
 obtain ⟨k1,k2,k3⟩:=p.gates hb
 by_cases hab:a=b
 ·subst hab;omega
 ·have hd:liN L a≠liN L b:=fun e=>hab (p.li_inj ha hb _ _ (.inl rfl) (.inl rfl) e)
  have hr:=p.rank_ne g2 k2 hd (by omega)
  rcases Int.lt_or_gt_of_ne hr with h1 | h1
  ·have:=p.nested ha hb h h1;omega
  ·have:=p.nested hb ha h.symm h1;omega
/-- The rank of a pass is the number of passes up to it. -/
theorem PosP.rank_count (p:PosP K L) {x:Nat} (hx:isP (la L x)=true):(la L x).rank=(zAc (fun j=>isP (la L j)&&((la L j).gate==(la L x).gate&&decide ((la L j).rank≤(la L x).rank))) L.length:Int):=by
 have g:=p.good
 have hr:=zBi.1 (g.ranks x (zAH hx)) hx
 have hb:∀m,m < L.length→(isP (la L m)&&(la L m).gate==(la L x).gate)=true→1≤(la L m).rank∧(la L m).rank≤(zAc (fun m=>isP (la L m)&&(la L m).gate==(la L x).gate) L.length:Int):=fun m hm hp=>by
  simp only [Bool.and_eq_true,beq_iff_eq] at hp
  have:=(zBi.1 (g.ranks m hm) hp.1).1
  rw [hp.2] at this
  exact this
 have hd:∀i j,i < L.length→j < L.length→(isP (la L i)&&(la L i).gate==(la L x).gate)=true→(isP (la L j)&&(la L j).gate==(la L x).gate)=true→(la L i).rank=(la L j).rank→i=j:=fun i j hi hj hp hq e=>by
  simp only [Bool.and_eq_true,beq_iff_eq] at hp hq
  by_cases h:i=j
  ·exact h
  ·exact absurd e (p.rank_ne hp.1 hq.1 h (hp.2.trans hq.2.symm))
 have hlow:=ct_low hb hd (la L x).rank.toNat (by have:=hr.1;unfold gN at this;omega)
 rw [zAW (q:=fun m=>(isP (la L m)&&(la L m).gate==(la L x).gate)&&decide ((la L m).rank≤(((la L x).rank.toNat:Nat):Int)))]
 ·rw [hlow];have:=hr.1;omega
 ·intro m _
  rw [Bool.and_assoc]
  congr 2
  have:=hr.1
  rw [show (((la L x).rank.toNat:Nat):Int)=(la L x).rank by omega]
/-- The number of a loop: how many loops of its finger have their left end as far to the left. -/
def nuN (L:List Lt) (i:Nat):Nat:=zAc (fun a=>dnB L a&&((la L (riN L a)).gate==(la L (riN L i)).gate&&decide ((la L (liN L a)).rank≤(la L (liN L i)).rank))) L.length
theorem lpC_is (g:Int):lpC L g L.length=zAc (fun a=>dnB L a&&(la L (riN L a)).gate==g) L.length:=by
 unfold lpC
 refine zAW fun a _=>?_
 rw [maxG_is];rfl
theorem PosP.left_rank (p:PosP K L) {i:Nat} (h:dnB L i=true):(la L (liN L i)).rank=(lpC L (la L (liN L i)).gate L.length:Int)+(nuN L i:Int):=by
 obtain ⟨g1,g2,g3⟩:=p.gates h
 rw [p.rank_count g2,p.ends]
 have e1:zAc (fun a=>dnB L a&&((la L (liN L a)).gate==(la L (liN L i)).gate&&decide ((la L (liN L a)).rank≤(la L (liN L i)).rank))) L.length=nuN L i:=by
  unfold nuN
  refine zAW fun a _=>?_
  cases ha:dnB L a with
  | false=>rfl
  | true =>
   have:=(p.gates ha).1
   have e:((la L (liN L a)).gate==(la L (liN L i)).gate)=((la L (riN L a)).gate==(la L (riN L i)).gate):=by rw [this,g1,Bool.eq_iff_iff];simp
   rw [e]
 have e2:zAc (fun a=>dnB L a&&((la L (riN L a)).gate==(la L (liN L i)).gate&&decide ((la L (riN L a)).rank≤(la L (liN L i)).rank))) L.length=lpC L (la L (liN L i)).gate L.length:=by
  rw [lpC_is]
  refine zAW fun a _=>?_
  cases ha:dnB L a with
  | false=>rfl
  | true =>
   cases he:((la L (riN L a)).gate==(la L (liN L i)).gate) with
   | false=>rfl
   | true =>
    have:=p.beside ha h (by simpa using he)
    simp;omega
 rw [e1,e2]
 omega
theorem PosP.right_rank (p:PosP K L) {i:Nat} (h:dnB L i=true):(la L (riN L i)).rank=(lpC L (la L (riN L i)).gate L.length:Int)-(nuN L i:Int)+1:=by
 obtain ⟨g1,g2,g3⟩:=p.gates h
 have e1:zAc (fun a=>dnB L a&&((la L (liN L a)).gate==(la L (riN L i)).gate&&decide ((la L (liN L a)).rank≤(la L (riN L i)).rank))) L.length=0:=by
  refine zEp fun a _=>?_
  cases ha:dnB L a with
  | false=>rfl
  | true =>
   cases he:((la L (liN L a)).gate==(la L (riN L i)).gate) with
   | false=>rfl
   | true =>
    have he:(la L (liN L a)).gate=(la L (riN L i)).gate:=by simpa using he
    have:=p.beside h ha he.symm
    simp;omega
 have e2:lpC L (la L (riN L i)).gate L.length+1=zAc (fun a=>dnB L a&&((la L (riN L a)).gate==(la L (riN L i)).gate&&decide ((la L (riN L a)).rank≤(la L (riN L i)).rank))) L.length+nuN L i:=by
  have s1:lpC L (la L (riN L i)).gate L.length=zAc (fun a=>dnB L a&&((la L (riN L a)).gate==(la L (riN L i)).gate&&decide ((la L (riN L a)).rank≤(la L (riN L i)).rank))) L.length+zAc (fun a=>(dnB L a&&((la L (riN L a)).gate==(la L (riN L i)).gate&&decide ((la L (liN L a)).rank≤(la L (liN L i)).rank)))&&a != i) L.length:=by
   rw [lpC_is]
   refine zGr (fun a _=>?_) (fun a _ hh=>?_)
   ·cases ha:dnB L a with
    | false=>rfl
    | true =>
     cases he:((la L (riN L a)).gate==(la L (riN L i)).gate) with
     | false=>rfl
     | true =>
      have he:(la L (riN L a)).gate=(la L (riN L i)).gate:=by simpa using he
      have k:=p.nested_iff h ha he.symm
      by_cases hai:a=i
      ·subst hai;simp
      ·by_cases hr:(la L (riN L a)).rank≤(la L (riN L i)).rank
       ·simp [hr]
       ·have:¬(la L (liN L i)).rank≤(la L (liN L a)).rank:=fun e=>hr (k.2 e)
        simp [hai];omega
   ·simp only [Bool.and_eq_true,beq_iff_eq,decide_eq_true_eq,bne_iff_ne] at hh
    obtain ⟨⟨ha,he,hr⟩,⟨_,_,hl⟩,hai⟩:=hh
    have k:=(p.nested_iff h ha he.symm).1 hr
    obtain ⟨a1,a2,a3⟩:=p.gates ha
    have hd:liN L a≠liN L i:=fun e=>hai (p.li_inj ha h _ _ (.inl rfl) (.inl rfl) e)
    exact p.rank_ne a2 g2 hd (by omega) (by omega)
  have s2:nuN L i=zAc (fun a=>(dnB L a&&((la L (riN L a)).gate==(la L (riN L i)).gate&&decide ((la L (liN L a)).rank≤(la L (liN L i)).rank)))&&a != i) L.length+zAc (fun a=>a==i) L.length:=by
   unfold nuN
   refine zGr (fun a _=>?_) (fun a _ hh=>?_)
   ·by_cases hai:a=i
    ·subst hai;simp [h]
    ·have e:(a != i)=true:=by simpa using hai
     have e2:(a==i)=false:=by simpa using hai
     rw [e,e2];simp
   ·simp at hh
    exact hh.1.2 hh.2
  have s3:zAc (fun a=>a==i) L.length=1:=zEF (i:=i) (zAH (zCd.1 h).1) (by simp) (fun m _ e=>by simpa using e)
  omega
 rw [p.rank_count g3,p.ends,e1]
 omega
theorem PosP.nu (_:PosP K L) {i:Nat} (h:dnB L i=true):1≤nuN L i∧nuN L i≤lpC L (la L (riN L i)).gate L.length:=by
 refine ⟨zHD (i:=i) (zAH (zCd.1 h).1) (by simp [h]),?_⟩
 unfold nuN
 rw [lpC_is]
 refine ct_sub fun a _ ha=>?_
 simp only [Bool.and_eq_true] at ha ⊢
 exact ⟨ha.1,ha.2.1⟩
end
end Go.Proofs.YtlmdfmnbcndhoaaGreatDoor
namespace Go.Proofs.YtlmdfmnbcndhoaaGreatDoor
theorem la_map {f:Lt→Lt} {L:List Lt} {i:Nat} (hi:i < L.length):la (L.map f) i=f (la L i):=by
 unfold la
 rw [List.getElem?_map,List.getElem?_eq_getElem hi];rfl
section
variable {K:Int} {L:List Lt}
end
end Go.Proofs.YtlmdfmnbcndhoaaGreatDoor
