/-
  NotesWords returns true. Conditions: the frame and the operation read; the library's tables stand.
  What the row asks behind a call that leaves all old memory as it was and returns true. No condition.
-/
import Derived.Test.YtlmdfmnbcndhoaaGreatDoorWs41
import Derived.Test.YtlmdfmnbcndhoaaGreatDoorWs42
import Derived.Test.YtlmdfmnbcndhoaaGreatDoorWs08
import Derived.Test.YtlmdfmnbcndhoaaGreatDoorRows
import Derived.Test.YtlmdfmnbcndhoaaGreatDoorTie
import Derived.Test.YtlmdfmnbcndhoaaGreatDoorCards
import Derived.Test.YtlmdfmnbcndhoaaGreatDoorWs01
import Derived.ProofKit
import Derived.LaidMore
import Derived.OpenShut
import Derived.Stop.Joined
import Derived.SizedLaws
namespace Go.Proofs.YtlmdfmnbcndhoaaGreatDoor
open Go.RowKit
theorem opInfoD:(Tryz.prog.info? 32).map (fun i=>(i.zero,i.size,i.bytes))=some (some (.agg #[.int .i64 0,.int .i64 0,.int .i64 0,.int .i64 0,.bool false,.int .i64 0,.slice none 0 0,.bool false]),8,80):=by kernel_rfl
theorem buildOD (kk ff gf gl gp:Int) (gx go:Bool) (A:Option Addr) (n c:Nat) (w:World):(Instr.buildSlice 38 1 #[(0,.agg #[.int .i64 kk,.int .i64 ff,.int .i64 gf,.int .i64 gl,.bool gx,.int .i64 gp,.slice A n c,.bool go])]).run Tryz.prog w =
  .ok (.slice (some ⟨w.heap.size,0,none⟩) 1 1) (w.alloc (.cells #[.int .i64 kk,.int .i64 ff,.int .i64 gf,.int .i64 gl,.bool gx,.int .i64 gp,.slice A n c,.bool go] 32)):=by
 obtain ⟨i0,hi,hz0,hz1,hz2⟩:=info_parts opInfoD
 refine run_buildSlice w _ _ 1 _ _ i0 _ Tryz.underlying38 hi hz0 (by rw [hz1];omega) (by rw [hz1];omega) ?_
 rw [hz1]
 kernel_rfl
theorem nwords_is {A:Option Addr} {n c:Nat} {L:List Fg} {re lo:Int} {o:Og} {E:Int} {S:List UInt8} (hE:checkN L re lo [o]=E) (hS:(if E=0 then lineF L o else [])=S) (B:Option Addr) (m d:Nat) (w:World) (hA:Fgs w A n L) (hc:n≤c) (hO:OpIn w o B m d) (hm:m≤10000) (ht:Tabs w) :
  Calls Tryz.prog 41 #[frV A n c re lo,opV o B m d] w fun e w'=>e=.returned (.tuple #[.string (bA S),.int .i64 E])∧Below w.heap.size w w':=by
 subst hE;subst hS;exact notes_Words A n c L re lo o B m d w hA hc hO hm ht
theorem ncan_is {A:Option Addr} {n c:Nat} {L:List Fg} {re lo:Int} {o:Og} {E:Int} {b:Bool} (hE:checkN L re lo [o]=E) (hS:(E==0&&canB L o)=b) (B:Option Addr) (m d:Nat) (w:World) (hA:Fgs w A n L) (hc:n≤c) (hO:OpIn w o B m d) :
  Calls Tryz.prog 42 #[frV A n c re lo,opV o B m d] w fun e w'=>e=.returned (.tuple #[.bool b,.int .i64 E])∧Below w.heap.size w w':=by
 subst hE;subst hS;exact notes_Can A n c L re lo o B m d w hA hc hO
theorem str_eqD (S:List UInt8):((bA S).toList==(bA S).toList)=true:=beq_self_eq_true _
set_option maxRecDepth 100000 in
set_option maxHeartbeats 12800000 in
theorem notesWords_any (A:Option Addr) (n c:Nat) (L:List Fg) (re lo:Int) (o:Og) (B:Option Addr) (m d:Nat) (w:World) (hA:Fgs w A n L) (hc:n≤c) (hO:OpIn w o B m d) (ht:Tabs w) :
  Calls Tryz.prog 11 #[frV A n c re lo,opV o B m d] w fun e w'=>e=.returned (.bool true)∧Below w.heap.size w w':=by
 obtain ⟨kind,f,⟨ff,fl,ffar,fpc⟩,path,over⟩:=o
 have bod:=buildOD
 have HA:=Lib.hid hA
 have HO:=Lib.hid hO
 have HT:=Lib.hid ht
 have HB:=Lib.hid (Below.refl w.heap.size w)
 have HC:=Lib.hid hc
 clear hA hO ht hc
 by_cases h60:n≤60
 ·cases hft:fitB 1 [⟨⟨kind,f,⟨ff,fl,ffar,fpc⟩,path,over⟩,B,m,d⟩] with
  | true =>
   have HS:=Lib.hid (show decide (n≤60)=true by simpa using h60)
   have hm12:m≤12:=(fitB_yes hft).2 _ (List.mem_singleton.2 rfl)
   have HM:=Lib.hid (show m≤10000 by omega)
   have HFT:=Lib.hid hft
   have hcase:=checkN_cases L re lo [(⟨kind,f,⟨ff,fl,ffar,fpc⟩,path,over⟩:Og)]
   obtain ⟨E,hE⟩:∃E,checkN L re lo [(⟨kind,f,⟨ff,fl,ffar,fpc⟩,path,over⟩:Og)]=E:=⟨_,rfl⟩
   rw [hE] at hcase
   obtain ⟨S1,hS1⟩:∃S,(if E=0 then lineF L ⟨kind,f,⟨ff,fl,ffar,fpc⟩,path,over⟩ else [])=S:=⟨_,rfl⟩
   obtain ⟨b,hb1⟩:∃b,(E==0&&canB L ⟨kind,f,⟨ff,fl,ffar,fpc⟩,path,over⟩)=b:=⟨_,rfl⟩
   have HE:=Lib.hid hE
   have HS1:=Lib.hid hS1
   have HB1:=Lib.hid hb1
   have HCS:=Lib.hid hcase
   clear hft h60 hm12 hE hS1 hb1 hcase
   go_enter Tryz.func11,Tryz.ntmps11
   have hba:Below w.heap.size w ((w.alloc (.cells #[.slice A n c,.int .i64 re,.int .i64 lo] 24)).alloc (.cells #[.int .i64 kind,.int .i64 f,.int .i64 ff,.int .i64 fl,.bool ffar,.int .i64 fpc,.slice B m d,.bool over] 32)):=((Below.refl _ _).alloc (Nat.le_refl _) _).alloc (by simp) _
   replace HA:=Lib.hid (HA.out.below hba)
   replace HO:=Lib.hid (HO.out.below hba)
   replace HT:=Lib.hid (HT.out.below hba)
   replace HB:=Lib.hid (below_chain HB.out hba HB.out.size)
   have kf:=(Blk.new w 24 #[.slice A n c,.int .i64 re,.int .i64 lo]).alloc (.cells #[.int .i64 kind,.int .i64 f,.int .i64 ff,.int .i64 fl,.bool ffar,.int .i64 fpc,.slice B m d,.bool over] 32)
   have ks:Blk ((w.alloc (.cells #[.slice A n c,.int .i64 re,.int .i64 lo] 24)).alloc (.cells #[.int .i64 kind,.int .i64 f,.int .i64 ff,.int .i64 fl,.bool ffar,.int .i64 fpc,.slice B m d,.bool over] 32)) (w.heap.size+1) 32 #[.int .i64 kind,.int .i64 f,.int .i64 ff,.int .i64 fl,.bool ffar,.int .i64 fpc,.slice B m d,.bool over]:=heap_alloc2_new w _ _
   clear hba
   go_upto_region 1 with fail
   generalize (w.alloc (.cells #[.slice A n c,.int .i64 re,.int .i64 lo] 24)).alloc (.cells #[.int .i64 kind,.int .i64 f,.int .i64 ff,.int .i64 fl,.bool ffar,.int .i64 fpc,.slice B m d,.bool over] 32)=X at HA HO HT HB kf ks ⊢
   have c0:X.cell? ⟨w.heap.size,0,none⟩=some (.slice A n c):=(kf.cell 0).trans rfl
   have c1:X.cell? ⟨w.heap.size,1,none⟩=some (.int .i64 re):=(kf.cell 1).trans rfl
   have c2:X.cell? ⟨w.heap.size,2,none⟩=some (.int .i64 lo):=(kf.cell 2).trans rfl
   have d0:X.cell? ⟨w.heap.size+1,0,none⟩=some (.int .i64 kind):=(ks.cell 0).trans rfl
   have d1:X.cell? ⟨w.heap.size+1,1,none⟩=some (.int .i64 f):=(ks.cell 1).trans rfl
   have d2:X.cell? ⟨w.heap.size+1,2,none⟩=some (.int .i64 ff):=(ks.cell 2).trans rfl
   have d3:X.cell? ⟨w.heap.size+1,3,none⟩=some (.int .i64 fl):=(ks.cell 3).trans rfl
   have d4:X.cell? ⟨w.heap.size+1,4,none⟩=some (.bool ffar):=(ks.cell 4).trans rfl
   have d5:X.cell? ⟨w.heap.size+1,5,none⟩=some (.int .i64 fpc):=(ks.cell 5).trans rfl
   have d6:X.cell? ⟨w.heap.size+1,6,none⟩=some (.slice B m d):=(ks.cell 6).trans rfl
   have d7:X.cell? ⟨w.heap.size+1,7,none⟩=some (.bool over):=(ks.cell 7).trans rfl
   go_wp2_with fail
   refine (lshort_is HS.out A c re lo _).mono ?_
   rintro e v6 ⟨rfl,hb⟩
   clear c0 c1 c2 d0 d1 d2 d3 d4 d5 d6 d7
   replace HA:=Lib.hid (HA.out.below hb)
   replace HO:=Lib.hid (HO.out.below hb)
   replace HT:=Lib.hid (HT.out.below hb)
   replace HB:=Lib.hid (below_chain HB.out hb HB.out.size)
   replace kf:=kf.below hb kf.lt
   replace ks:=ks.below hb ks.lt
   clear hb
   have c0:v6.cell? ⟨w.heap.size,0,none⟩=some (.slice A n c):=(kf.cell 0).trans rfl
   have c1:v6.cell? ⟨w.heap.size,1,none⟩=some (.int .i64 re):=(kf.cell 1).trans rfl
   have c2:v6.cell? ⟨w.heap.size,2,none⟩=some (.int .i64 lo):=(kf.cell 2).trans rfl
   have d0:v6.cell? ⟨w.heap.size+1,0,none⟩=some (.int .i64 kind):=(ks.cell 0).trans rfl
   have d1:v6.cell? ⟨w.heap.size+1,1,none⟩=some (.int .i64 f):=(ks.cell 1).trans rfl
   have d2:v6.cell? ⟨w.heap.size+1,2,none⟩=some (.int .i64 ff):=(ks.cell 2).trans rfl
   have d3:v6.cell? ⟨w.heap.size+1,3,none⟩=some (.int .i64 fl):=(ks.cell 3).trans rfl
   have d4:v6.cell? ⟨w.heap.size+1,4,none⟩=some (.bool ffar):=(ks.cell 4).trans rfl
   have d5:v6.cell? ⟨w.heap.size+1,5,none⟩=some (.int .i64 fpc):=(ks.cell 5).trans rfl
   have d6:v6.cell? ⟨w.heap.size+1,6,none⟩=some (.slice B m d):=(ks.cell 6).trans rfl
   have d7:v6.cell? ⟨w.heap.size+1,7,none⟩=some (.bool over):=(ks.cell 7).trans rfl
   have HO1:=HO
   go_wp2_with fail
   have hba:=(Below.refl v6.heap.size v6).alloc (Nat.le_refl _) (.cells #[.int .i64 kind,.int .i64 f,.int .i64 ff,.int .i64 fl,.bool ffar,.int .i64 fpc,.slice B m d,.bool over] 32)
   replace HA:=Lib.hid (HA.out.below hba)
   replace HO:=Lib.hid (HO.out.below hba)
   replace HT:=Lib.hid (HT.out.below hba)
   replace HB:=Lib.hid (below_chain HB.out hba HB.out.size)
   replace kf:=kf.below hba kf.lt
   replace ks:=ks.below hba ks.lt
   have HOP:=Lib.hid (Oprs.one v6 ⟨kind,f,⟨ff,fl,ffar,fpc⟩,path,over⟩ B m d 32 (HO1.out))
   clear hba HO1
   refine (lfit_is (most:=1) HFT.out (some ⟨v6.heap.size,0,none⟩) 1 1 _ HOP.out (by omega)).mono ?_
   rintro e v7 ⟨rfl,hb⟩
   clear c0 c1 c2 d0 d1 d2 d3 d4 d5 d6 d7
   replace HA:=Lib.hid (HA.out.below hb)
   replace HO:=Lib.hid (HO.out.below hb)
   replace HT:=Lib.hid (HT.out.below hb)
   replace HB:=Lib.hid (below_chain HB.out hb HB.out.size)
   replace kf:=kf.below hb kf.lt
   replace ks:=ks.below hb ks.lt
   clear hb HOP
   have c0:v7.cell? ⟨w.heap.size,0,none⟩=some (.slice A n c):=(kf.cell 0).trans rfl
   have c1:v7.cell? ⟨w.heap.size,1,none⟩=some (.int .i64 re):=(kf.cell 1).trans rfl
   have c2:v7.cell? ⟨w.heap.size,2,none⟩=some (.int .i64 lo):=(kf.cell 2).trans rfl
   have d0:v7.cell? ⟨w.heap.size+1,0,none⟩=some (.int .i64 kind):=(ks.cell 0).trans rfl
   have d1:v7.cell? ⟨w.heap.size+1,1,none⟩=some (.int .i64 f):=(ks.cell 1).trans rfl
   have d2:v7.cell? ⟨w.heap.size+1,2,none⟩=some (.int .i64 ff):=(ks.cell 2).trans rfl
   have d3:v7.cell? ⟨w.heap.size+1,3,none⟩=some (.int .i64 fl):=(ks.cell 3).trans rfl
   have d4:v7.cell? ⟨w.heap.size+1,4,none⟩=some (.bool ffar):=(ks.cell 4).trans rfl
   have d5:v7.cell? ⟨w.heap.size+1,5,none⟩=some (.int .i64 fpc):=(ks.cell 5).trans rfl
   have d6:v7.cell? ⟨w.heap.size+1,6,none⟩=some (.slice B m d):=(ks.cell 6).trans rfl
   have d7:v7.cell? ⟨w.heap.size+1,7,none⟩=some (.bool over):=(ks.cell 7).trans rfl
   go_wp2_with fail
   refine (nwords_is HE.out HS1.out B m d _ HA.out HC.out HO.out HM.out HT.out).mono ?_
   rintro e v8 ⟨rfl,hb⟩
   clear c0 c1 c2 d0 d1 d2 d3 d4 d5 d6 d7
   replace HA:=Lib.hid (HA.out.below hb)
   replace HO:=Lib.hid (HO.out.below hb)
   replace HT:=Lib.hid (HT.out.below hb)
   replace HB:=Lib.hid (below_chain HB.out hb HB.out.size)
   replace kf:=kf.below hb kf.lt
   replace ks:=ks.below hb ks.lt
   clear hb
   have c0:v8.cell? ⟨w.heap.size,0,none⟩=some (.slice A n c):=(kf.cell 0).trans rfl
   have c1:v8.cell? ⟨w.heap.size,1,none⟩=some (.int .i64 re):=(kf.cell 1).trans rfl
   have c2:v8.cell? ⟨w.heap.size,2,none⟩=some (.int .i64 lo):=(kf.cell 2).trans rfl
   have d0:v8.cell? ⟨w.heap.size+1,0,none⟩=some (.int .i64 kind):=(ks.cell 0).trans rfl
   have d1:v8.cell? ⟨w.heap.size+1,1,none⟩=some (.int .i64 f):=(ks.cell 1).trans rfl
   have d2:v8.cell? ⟨w.heap.size+1,2,none⟩=some (.int .i64 ff):=(ks.cell 2).trans rfl
   have d3:v8.cell? ⟨w.heap.size+1,3,none⟩=some (.int .i64 fl):=(ks.cell 3).trans rfl
   have d4:v8.cell? ⟨w.heap.size+1,4,none⟩=some (.bool ffar):=(ks.cell 4).trans rfl
   have d5:v8.cell? ⟨w.heap.size+1,5,none⟩=some (.int .i64 fpc):=(ks.cell 5).trans rfl
   have d6:v8.cell? ⟨w.heap.size+1,6,none⟩=some (.slice B m d):=(ks.cell 6).trans rfl
   have d7:v8.cell? ⟨w.heap.size+1,7,none⟩=some (.bool over):=(ks.cell 7).trans rfl
   go_wp2_with fail
   refine (ncan_is HE.out HB1.out B m d _ HA.out HC.out HO.out).mono ?_
   rintro e v9 ⟨rfl,hb⟩
   clear c0 c1 c2 d0 d1 d2 d3 d4 d5 d6 d7
   replace HA:=Lib.hid (HA.out.below hb)
   replace HO:=Lib.hid (HO.out.below hb)
   replace HT:=Lib.hid (HT.out.below hb)
   replace HB:=Lib.hid (below_chain HB.out hb HB.out.size)
   replace kf:=kf.below hb kf.lt
   replace ks:=ks.below hb ks.lt
   clear hb
   have c0:v9.cell? ⟨w.heap.size,0,none⟩=some (.slice A n c):=(kf.cell 0).trans rfl
   have c1:v9.cell? ⟨w.heap.size,1,none⟩=some (.int .i64 re):=(kf.cell 1).trans rfl
   have c2:v9.cell? ⟨w.heap.size,2,none⟩=some (.int .i64 lo):=(kf.cell 2).trans rfl
   have d0:v9.cell? ⟨w.heap.size+1,0,none⟩=some (.int .i64 kind):=(ks.cell 0).trans rfl
   have d1:v9.cell? ⟨w.heap.size+1,1,none⟩=some (.int .i64 f):=(ks.cell 1).trans rfl
   have d2:v9.cell? ⟨w.heap.size+1,2,none⟩=some (.int .i64 ff):=(ks.cell 2).trans rfl
   have d3:v9.cell? ⟨w.heap.size+1,3,none⟩=some (.int .i64 fl):=(ks.cell 3).trans rfl
   have d4:v9.cell? ⟨w.heap.size+1,4,none⟩=some (.bool ffar):=(ks.cell 4).trans rfl
   have d5:v9.cell? ⟨w.heap.size+1,5,none⟩=some (.int .i64 fpc):=(ks.cell 5).trans rfl
   have d6:v9.cell? ⟨w.heap.size+1,6,none⟩=some (.slice B m d):=(ks.cell 6).trans rfl
   have d7:v9.cell? ⟨w.heap.size+1,7,none⟩=some (.bool over):=(ks.cell 7).trans rfl
   have HO1:=HO
   go_wp2_with fail
   have hba:=(Below.refl v9.heap.size v9).alloc (Nat.le_refl _) (.cells #[.int .i64 kind,.int .i64 f,.int .i64 ff,.int .i64 fl,.bool ffar,.int .i64 fpc,.slice B m d,.bool over] 32)
   replace HA:=Lib.hid (HA.out.below hba)
   replace HO:=Lib.hid (HO.out.below hba)
   replace HT:=Lib.hid (HT.out.below hba)
   replace HB:=Lib.hid (below_chain HB.out hba HB.out.size)
   replace kf:=kf.below hba kf.lt
   replace ks:=ks.below hba ks.lt
   have HOP:=Lib.hid (Oprs.one v9 ⟨kind,f,⟨ff,fl,ffar,fpc⟩,path,over⟩ B m d 32 (HO1.out))
   clear hba HO1
   refine (refused_is (Es:=[⟨⟨kind,f,⟨ff,fl,ffar,fpc⟩,path,over⟩,B,m,d⟩]) HE.out 1 _ HA.out HOP.out).mono ?_
   rintro e v10 ⟨rfl,hb⟩
   clear c0 c1 c2 d0 d1 d2 d3 d4 d5 d6 d7
   replace HA:=Lib.hid (HA.out.below hb)
   replace HO:=Lib.hid (HO.out.below hb)
   replace HT:=Lib.hid (HT.out.below hb)
   replace HB:=Lib.hid (below_chain HB.out hb HB.out.size)
   replace kf:=kf.below hb kf.lt
   replace ks:=ks.below hb ks.lt
   clear hb HOP
   rcases HCS.out with ⟨rfl,hfr,hro⟩ | rfl
   ·have hri:=hro _ (List.mem_singleton.2 rfl)
    obtain rfl:lineF L ⟨kind,f,⟨ff,fl,ffar,fpc⟩,path,over⟩=S1:=by have:=HS1.out;rwa [if_pos rfl] at this
    obtain rfl:canB L ⟨kind,f,⟨ff,fl,ffar,fpc⟩,path,over⟩=b:=by have:=HB1.out;simpa using this
    obtain ⟨S1,hS1⟩:∃S,lineF L ⟨kind,f,⟨ff,fl,ffar,fpc⟩,path,over⟩=S:=⟨_,rfl⟩
    obtain ⟨b,hb1⟩:∃b,canB L ⟨kind,f,⟨ff,fl,ffar,fpc⟩,path,over⟩=b:=⟨_,rfl⟩
    have HL1:=Lib.hid hS1
    have HL2:=Lib.hid hb1
    have HTK:=Lib.hid hfr.tok
    have HRI:=Lib.hid (show rightB n ⟨kind,f,⟨ff,fl,ffar,fpc⟩,path,over⟩=true by rw [←HA.out.len];exact hri)
    rw [hS1,hb1]
    have t1:=str_eqD S1
    have t2:(b==b)=true:=by simp
    clear HS1 HB1 HCS hfr hro hri hS1 hb1
    have c0:v10.cell? ⟨w.heap.size,0,none⟩=some (.slice A n c):=(kf.cell 0).trans rfl
    have c1:v10.cell? ⟨w.heap.size,1,none⟩=some (.int .i64 re):=(kf.cell 1).trans rfl
    have c2:v10.cell? ⟨w.heap.size,2,none⟩=some (.int .i64 lo):=(kf.cell 2).trans rfl
    have d0:v10.cell? ⟨w.heap.size+1,0,none⟩=some (.int .i64 kind):=(ks.cell 0).trans rfl
    have d1:v10.cell? ⟨w.heap.size+1,1,none⟩=some (.int .i64 f):=(ks.cell 1).trans rfl
    have d2:v10.cell? ⟨w.heap.size+1,2,none⟩=some (.int .i64 ff):=(ks.cell 2).trans rfl
    have d3:v10.cell? ⟨w.heap.size+1,3,none⟩=some (.int .i64 fl):=(ks.cell 3).trans rfl
    have d4:v10.cell? ⟨w.heap.size+1,4,none⟩=some (.bool ffar):=(ks.cell 4).trans rfl
    have d5:v10.cell? ⟨w.heap.size+1,5,none⟩=some (.int .i64 fpc):=(ks.cell 5).trans rfl
    have d6:v10.cell? ⟨w.heap.size+1,6,none⟩=some (.slice B m d):=(ks.cell 6).trans rfl
    have d7:v10.cell? ⟨w.heap.size+1,7,none⟩=some (.bool over):=(ks.cell 7).trans rfl
    go_wp2_with fail
    refine (words_of HL1.out B m d _ HA.out HTK.out HO.out HRI.out HM.out).mono ?_
    rintro e v11 ⟨rfl,hb⟩
    clear c0 c1 c2 d0 d1 d2 d3 d4 d5 d6 d7
    replace HA:=Lib.hid (HA.out.below hb)
    replace HO:=Lib.hid (HO.out.below hb)
    replace HT:=Lib.hid (HT.out.below hb)
    replace HB:=Lib.hid (below_chain HB.out hb HB.out.size)
    replace kf:=kf.below hb kf.lt
    replace ks:=ks.below hb ks.lt
    clear hb
    have c0:v11.cell? ⟨w.heap.size,0,none⟩=some (.slice A n c):=(kf.cell 0).trans rfl
    have c1:v11.cell? ⟨w.heap.size,1,none⟩=some (.int .i64 re):=(kf.cell 1).trans rfl
    have c2:v11.cell? ⟨w.heap.size,2,none⟩=some (.int .i64 lo):=(kf.cell 2).trans rfl
    have d0:v11.cell? ⟨w.heap.size+1,0,none⟩=some (.int .i64 kind):=(ks.cell 0).trans rfl
    have d1:v11.cell? ⟨w.heap.size+1,1,none⟩=some (.int .i64 f):=(ks.cell 1).trans rfl
    have d2:v11.cell? ⟨w.heap.size+1,2,none⟩=some (.int .i64 ff):=(ks.cell 2).trans rfl
    have d3:v11.cell? ⟨w.heap.size+1,3,none⟩=some (.int .i64 fl):=(ks.cell 3).trans rfl
    have d4:v11.cell? ⟨w.heap.size+1,4,none⟩=some (.bool ffar):=(ks.cell 4).trans rfl
    have d5:v11.cell? ⟨w.heap.size+1,5,none⟩=some (.int .i64 fpc):=(ks.cell 5).trans rfl
    have d6:v11.cell? ⟨w.heap.size+1,6,none⟩=some (.slice B m d):=(ks.cell 6).trans rfl
    have d7:v11.cell? ⟨w.heap.size+1,7,none⟩=some (.bool over):=(ks.cell 7).trans rfl
    go_wp2_with fail
    refine (rcan_of HL2.out B m d _ HA.out HO.out HRI.out).mono ?_
    rintro e v12 ⟨rfl,hb⟩
    clear c0 c1 c2 d0 d1 d2 d3 d4 d5 d6 d7
    replace HA:=Lib.hid (HA.out.below hb)
    replace HO:=Lib.hid (HO.out.below hb)
    replace HT:=Lib.hid (HT.out.below hb)
    replace HB:=Lib.hid (below_chain HB.out hb HB.out.size)
    replace kf:=kf.below hb kf.lt
    replace ks:=ks.below hb ks.lt
    clear hb
    go_wp2_with fail
    refine (law_known _ HT.out).mono ?_
    rintro e v13 ⟨rfl,hb⟩
    replace HA:=Lib.hid (HA.out.below hb)
    replace HO:=Lib.hid (HO.out.below hb)
    replace HT:=Lib.hid (HT.out.below hb)
    replace HB:=Lib.hid (below_chain HB.out hb HB.out.size)
    replace kf:=kf.below hb kf.lt
    replace ks:=ks.below hb ks.lt
    clear hb
    go_wp2_with fail
    go_ret
    exact ⟨rfl,HB.out⟩
   ·have hS:S1=[]:=by have:=HS1.out;rw [if_neg (by omega)] at this;exact this.symm
    have hbb:b=false:=by have:=HB1.out;simpa using this.symm
    subst hS;subst hbb
    have e0:(bA ([]:List UInt8)).toList.isEmpty=true:=by rw [bA_toList];rfl
    have e1:((bA ([]:List UInt8)).toList==[])=true:=by rw [bA_toList];rfl
    clear HS1 HB1 HCS
    go_wp2_with fail
    refine (law_known _ HT.out).mono ?_
    rintro e v14 ⟨rfl,hb⟩
    replace HA:=Lib.hid (HA.out.below hb)
    replace HO:=Lib.hid (HO.out.below hb)
    replace HT:=Lib.hid (HT.out.below hb)
    replace HB:=Lib.hid (below_chain HB.out hb HB.out.size)
    replace kf:=kf.below hb kf.lt
    replace ks:=ks.below hb ks.lt
    clear hb
    go_wp2_with fail
    go_ret
    exact ⟨rfl,HB.out⟩
  | false =>
   have HS:=Lib.hid (show decide (n≤60)=true by simpa using h60)
   have HFT:=Lib.hid hft
   clear hft h60
   go_enter Tryz.func11,Tryz.ntmps11
   have hba:Below w.heap.size w ((w.alloc (.cells #[.slice A n c,.int .i64 re,.int .i64 lo] 24)).alloc (.cells #[.int .i64 kind,.int .i64 f,.int .i64 ff,.int .i64 fl,.bool ffar,.int .i64 fpc,.slice B m d,.bool over] 32)):=((Below.refl _ _).alloc (Nat.le_refl _) _).alloc (by simp) _
   replace HA:=Lib.hid (HA.out.below hba)
   replace HO:=Lib.hid (HO.out.below hba)
   replace HT:=Lib.hid (HT.out.below hba)
   replace HB:=Lib.hid (below_chain HB.out hba HB.out.size)
   have kf:=(Blk.new w 24 #[.slice A n c,.int .i64 re,.int .i64 lo]).alloc (.cells #[.int .i64 kind,.int .i64 f,.int .i64 ff,.int .i64 fl,.bool ffar,.int .i64 fpc,.slice B m d,.bool over] 32)
   have ks:Blk ((w.alloc (.cells #[.slice A n c,.int .i64 re,.int .i64 lo] 24)).alloc (.cells #[.int .i64 kind,.int .i64 f,.int .i64 ff,.int .i64 fl,.bool ffar,.int .i64 fpc,.slice B m d,.bool over] 32)) (w.heap.size+1) 32 #[.int .i64 kind,.int .i64 f,.int .i64 ff,.int .i64 fl,.bool ffar,.int .i64 fpc,.slice B m d,.bool over]:=heap_alloc2_new w _ _
   clear hba
   go_upto_region 1 with fail
   generalize (w.alloc (.cells #[.slice A n c,.int .i64 re,.int .i64 lo] 24)).alloc (.cells #[.int .i64 kind,.int .i64 f,.int .i64 ff,.int .i64 fl,.bool ffar,.int .i64 fpc,.slice B m d,.bool over] 32)=X at HA HO HT HB kf ks ⊢
   have c0:X.cell? ⟨w.heap.size,0,none⟩=some (.slice A n c):=(kf.cell 0).trans rfl
   have c1:X.cell? ⟨w.heap.size,1,none⟩=some (.int .i64 re):=(kf.cell 1).trans rfl
   have c2:X.cell? ⟨w.heap.size,2,none⟩=some (.int .i64 lo):=(kf.cell 2).trans rfl
   have d0:X.cell? ⟨w.heap.size+1,0,none⟩=some (.int .i64 kind):=(ks.cell 0).trans rfl
   have d1:X.cell? ⟨w.heap.size+1,1,none⟩=some (.int .i64 f):=(ks.cell 1).trans rfl
   have d2:X.cell? ⟨w.heap.size+1,2,none⟩=some (.int .i64 ff):=(ks.cell 2).trans rfl
   have d3:X.cell? ⟨w.heap.size+1,3,none⟩=some (.int .i64 fl):=(ks.cell 3).trans rfl
   have d4:X.cell? ⟨w.heap.size+1,4,none⟩=some (.bool ffar):=(ks.cell 4).trans rfl
   have d5:X.cell? ⟨w.heap.size+1,5,none⟩=some (.int .i64 fpc):=(ks.cell 5).trans rfl
   have d6:X.cell? ⟨w.heap.size+1,6,none⟩=some (.slice B m d):=(ks.cell 6).trans rfl
   have d7:X.cell? ⟨w.heap.size+1,7,none⟩=some (.bool over):=(ks.cell 7).trans rfl
   go_wp2_with fail
   refine (lshort_is HS.out A c re lo _).mono ?_
   rintro e v3 ⟨rfl,hb⟩
   clear c0 c1 c2 d0 d1 d2 d3 d4 d5 d6 d7
   replace HA:=Lib.hid (HA.out.below hb)
   replace HO:=Lib.hid (HO.out.below hb)
   replace HT:=Lib.hid (HT.out.below hb)
   replace HB:=Lib.hid (below_chain HB.out hb HB.out.size)
   replace kf:=kf.below hb kf.lt
   replace ks:=ks.below hb ks.lt
   clear hb
   have c0:v3.cell? ⟨w.heap.size,0,none⟩=some (.slice A n c):=(kf.cell 0).trans rfl
   have c1:v3.cell? ⟨w.heap.size,1,none⟩=some (.int .i64 re):=(kf.cell 1).trans rfl
   have c2:v3.cell? ⟨w.heap.size,2,none⟩=some (.int .i64 lo):=(kf.cell 2).trans rfl
   have d0:v3.cell? ⟨w.heap.size+1,0,none⟩=some (.int .i64 kind):=(ks.cell 0).trans rfl
   have d1:v3.cell? ⟨w.heap.size+1,1,none⟩=some (.int .i64 f):=(ks.cell 1).trans rfl
   have d2:v3.cell? ⟨w.heap.size+1,2,none⟩=some (.int .i64 ff):=(ks.cell 2).trans rfl
   have d3:v3.cell? ⟨w.heap.size+1,3,none⟩=some (.int .i64 fl):=(ks.cell 3).trans rfl
   have d4:v3.cell? ⟨w.heap.size+1,4,none⟩=some (.bool ffar):=(ks.cell 4).trans rfl
   have d5:v3.cell? ⟨w.heap.size+1,5,none⟩=some (.int .i64 fpc):=(ks.cell 5).trans rfl
   have d6:v3.cell? ⟨w.heap.size+1,6,none⟩=some (.slice B m d):=(ks.cell 6).trans rfl
   have d7:v3.cell? ⟨w.heap.size+1,7,none⟩=some (.bool over):=(ks.cell 7).trans rfl
   have HO1:=HO
   go_wp2_with fail
   have hba:=(Below.refl v3.heap.size v3).alloc (Nat.le_refl _) (.cells #[.int .i64 kind,.int .i64 f,.int .i64 ff,.int .i64 fl,.bool ffar,.int .i64 fpc,.slice B m d,.bool over] 32)
   replace HA:=Lib.hid (HA.out.below hba)
   replace HO:=Lib.hid (HO.out.below hba)
   replace HT:=Lib.hid (HT.out.below hba)
   replace HB:=Lib.hid (below_chain HB.out hba HB.out.size)
   replace kf:=kf.below hba kf.lt
   replace ks:=ks.below hba ks.lt
   have HOP:=Lib.hid (Oprs.one v3 ⟨kind,f,⟨ff,fl,ffar,fpc⟩,path,over⟩ B m d 32 (HO1.out))
   clear hba HO1
   refine (lfit_is (most:=1) HFT.out (some ⟨v3.heap.size,0,none⟩) 1 1 _ HOP.out (by omega)).mono ?_
   rintro e v4 ⟨rfl,hb⟩
   clear c0 c1 c2 d0 d1 d2 d3 d4 d5 d6 d7
   replace HA:=Lib.hid (HA.out.below hb)
   replace HO:=Lib.hid (HO.out.below hb)
   replace HT:=Lib.hid (HT.out.below hb)
   replace HB:=Lib.hid (below_chain HB.out hb HB.out.size)
   replace kf:=kf.below hb kf.lt
   replace ks:=ks.below hb ks.lt
   clear hb HOP
   go_wp2_with fail
   refine (law_known _ HT.out).mono ?_
   rintro e v5 ⟨rfl,hb⟩
   replace HA:=Lib.hid (HA.out.below hb)
   replace HO:=Lib.hid (HO.out.below hb)
   replace HT:=Lib.hid (HT.out.below hb)
   replace HB:=Lib.hid (below_chain HB.out hb HB.out.size)
   replace kf:=kf.below hb kf.lt
   replace ks:=ks.below hb ks.lt
   clear hb
   go_wp2_with fail
   go_ret
   exact ⟨rfl,HB.out⟩
 ·have HS:=Lib.hid (show decide (n≤60)=false by simpa using h60)
  clear h60
  go_enter Tryz.func11,Tryz.ntmps11
  have hba:Below w.heap.size w ((w.alloc (.cells #[.slice A n c,.int .i64 re,.int .i64 lo] 24)).alloc (.cells #[.int .i64 kind,.int .i64 f,.int .i64 ff,.int .i64 fl,.bool ffar,.int .i64 fpc,.slice B m d,.bool over] 32)):=((Below.refl _ _).alloc (Nat.le_refl _) _).alloc (by simp) _
  replace HA:=Lib.hid (HA.out.below hba)
  replace HO:=Lib.hid (HO.out.below hba)
  replace HT:=Lib.hid (HT.out.below hba)
  replace HB:=Lib.hid (below_chain HB.out hba HB.out.size)
  have kf:=(Blk.new w 24 #[.slice A n c,.int .i64 re,.int .i64 lo]).alloc (.cells #[.int .i64 kind,.int .i64 f,.int .i64 ff,.int .i64 fl,.bool ffar,.int .i64 fpc,.slice B m d,.bool over] 32)
  have ks:Blk ((w.alloc (.cells #[.slice A n c,.int .i64 re,.int .i64 lo] 24)).alloc (.cells #[.int .i64 kind,.int .i64 f,.int .i64 ff,.int .i64 fl,.bool ffar,.int .i64 fpc,.slice B m d,.bool over] 32)) (w.heap.size+1) 32 #[.int .i64 kind,.int .i64 f,.int .i64 ff,.int .i64 fl,.bool ffar,.int .i64 fpc,.slice B m d,.bool over]:=heap_alloc2_new w _ _
  clear hba
  go_upto_region 1 with fail
  generalize (w.alloc (.cells #[.slice A n c,.int .i64 re,.int .i64 lo] 24)).alloc (.cells #[.int .i64 kind,.int .i64 f,.int .i64 ff,.int .i64 fl,.bool ffar,.int .i64 fpc,.slice B m d,.bool over] 32)=X at HA HO HT HB kf ks ⊢
  have c0:X.cell? ⟨w.heap.size,0,none⟩=some (.slice A n c):=(kf.cell 0).trans rfl
  have c1:X.cell? ⟨w.heap.size,1,none⟩=some (.int .i64 re):=(kf.cell 1).trans rfl
  have c2:X.cell? ⟨w.heap.size,2,none⟩=some (.int .i64 lo):=(kf.cell 2).trans rfl
  have d0:X.cell? ⟨w.heap.size+1,0,none⟩=some (.int .i64 kind):=(ks.cell 0).trans rfl
  have d1:X.cell? ⟨w.heap.size+1,1,none⟩=some (.int .i64 f):=(ks.cell 1).trans rfl
  have d2:X.cell? ⟨w.heap.size+1,2,none⟩=some (.int .i64 ff):=(ks.cell 2).trans rfl
  have d3:X.cell? ⟨w.heap.size+1,3,none⟩=some (.int .i64 fl):=(ks.cell 3).trans rfl
  have d4:X.cell? ⟨w.heap.size+1,4,none⟩=some (.bool ffar):=(ks.cell 4).trans rfl
  have d5:X.cell? ⟨w.heap.size+1,5,none⟩=some (.int .i64 fpc):=(ks.cell 5).trans rfl
  have d6:X.cell? ⟨w.heap.size+1,6,none⟩=some (.slice B m d):=(ks.cell 6).trans rfl
  have d7:X.cell? ⟨w.heap.size+1,7,none⟩=some (.bool over):=(ks.cell 7).trans rfl
  go_wp2_with fail
  refine (lshort_is HS.out A c re lo _).mono ?_
  rintro e v1 ⟨rfl,hb⟩
  clear c0 c1 c2 d0 d1 d2 d3 d4 d5 d6 d7
  replace HA:=Lib.hid (HA.out.below hb)
  replace HO:=Lib.hid (HO.out.below hb)
  replace HT:=Lib.hid (HT.out.below hb)
  replace HB:=Lib.hid (below_chain HB.out hb HB.out.size)
  replace kf:=kf.below hb kf.lt
  replace ks:=ks.below hb ks.lt
  clear hb
  go_wp2_with fail
  refine (law_known _ HT.out).mono ?_
  rintro e v2 ⟨rfl,hb⟩
  replace HA:=Lib.hid (HA.out.below hb)
  replace HO:=Lib.hid (HO.out.below hb)
  replace HT:=Lib.hid (HT.out.below hb)
  replace HB:=Lib.hid (below_chain HB.out hb HB.out.size)
  replace kf:=kf.below hb kf.lt
  replace ks:=ks.below hb ks.lt
  clear hb
  go_wp2_with fail
  go_ret
  exact ⟨rfl,HB.out⟩
end Go.Proofs.YtlmdfmnbcndhoaaGreatDoor
namespace Go.Proofs.YtlmdfmnbcndhoaaGreatDoor
open Go.ChangeShapes Go.WideShapes Go.ChangeAt Go.WideElems Go.RowKit
section
variable {H:Type} {enc:TypeId×Value→H} {P:Program}
theorem trodAll_stays (hl:laidOutB P=true) {W W':World} {sp':Nat→Bool} (hb:Below W.heap.size W W'):∀(ts:List TypeId) (vs:List Value) (ds:List (DataW H)) (ps:List MemPlace),
  (∀t∈ts,P.readableRec t=true∧t < P.types.size)→DataW.TrodAll enc P W 0 (fun _=>true) true ts vs ds ps→(∀p∈ps,p.block < W.heap.size)→(∀p∈ps,sp' p.block=true)→DataW.TrodAll enc P W' 0 sp' true ts vs ds ps
 | [],[],[],_,_,h,_,_=>h
 | [],[],_ :: _,_,_,h,_,_=>h.elim
 | [],_ :: _,_,_,_,h,_,_=>h.elim
 | _ :: _,[],_,_,_,h,_,_=>h.elim
 | _ :: _,_ :: _,[],_,_,h,_,_=>h.elim
 | t :: ts,v :: vs,d :: ds,ps,ht,h,hlt,hsp=>by
  obtain ⟨p,q,h1,h2,rfl⟩:=h
  refine ⟨p,q,?_,?_,rfl⟩
  ·exact Trod_stays hl (ht t (by simp)).1 (ht t (by simp)).2 h1 (fun x hx=>hb.same (hlt x (by simp [hx]))) (fun x hx=>hsp x (by simp [hx]))
  ·exact trodAll_stays hl hb ts vs ds q (fun t' h'=>ht t' (by simp [h'])) h2 (fun x hx=>hlt x (by simp [hx])) (fun x hx=>hsp x (by simp [hx]))
/-- The call returns a truth value and only makes new memory: what its specification's law says of results and arguments is all. -/
theorem post_of_below {f:Func} {s:ChangeSpec} {apart fresh handsOn again:Bool} {W W':World} {args:Array Value} {v:Value} {ds:List (DataW H)} {before:List MemPlace} (hl:laidOutB P=true) (hb:Below W.heap.size W W')
  (hvs:s.vars=[]) (hfn:(s.fn H ds).args=ds) (hfv:(s.fn H ds).vars=[])
  (hts:∀t∈f.params.toList,P.readableRec t=true∧t < P.types.size)
  (hW:DataW.Whole enc P f.params.toList s.vars apart W args.toList ds [] before)
  (hres:∀(b:Nat) (sp:Nat→Bool) (hd:Bool),DataW.TrodAll enc P W' b sp hd f.resultTypes.toList (v.resultList f.resultTypes.size) (s.fn H ds).results [])
  (hok:∀(j:Nat) (t:TypeId) (r:Value),f.resultTypes[j]? = some t→(v.resultList f.resultTypes.size)[j]? = some r→Value.okWide P W' .any 0 t r) :
  s.post enc P f apart fresh handsOn again W args v W':=by
 have hlt:=hW.lt
 have hW2:=hW
 obtain ⟨pa,pv,hA,hV,rfl,hz,hn⟩:=hW2
 rw [hvs] at hV
 obtain rfl:pv=[]:=hV
 simp only [List.append_nil] at *
 have args_:∀sp:Nat→Bool,(∀p∈pa,sp p.block=true)→DataW.TrodAll enc P W' 0 sp true f.params.toList args.toList (s.fn H (ds++[])).args pa:=fun sp hsp=>by
  rw [List.append_nil,hfn]
  exact trodAll_stays hl hb _ _ _ _ hts hA hlt hsp
 have vars_:∀sp:Nat→Bool,DataW.TrodVars enc P W' sp s.vars (s.fn H (ds++[])).vars []:=fun sp=>by
  rw [List.append_nil,hfv,hvs]
  rfl
 refine ⟨ds,[],pa,[],pa,[],hW,by rw [List.append_nil];exact hres _ _ _,args_ _ (fun p hp=>by simpa using hlt p hp),vars_ _,hb.frame _,fun _=>?_⟩
 refine ⟨hok,_,_,([]++pa)++[],⟨[]++pa,[],trodAll_append (args_ _ (fun _ _=>rfl)) (hres _ _ _),vars_ _,rfl,?_,?_⟩,?_⟩
 ·intro b off hp
  have hp':MemPlace.cell b off∈pa:=by simpa using hp
  rw [hb.frozen (p:=⟨b,off,none⟩) (hlt _ hp')]
  exact hz b off hp'
 ·intro ha
  simpa using hn ha
 ·intro p hp _
  simpa using hp
end
end Go.Proofs.YtlmdfmnbcndhoaaGreatDoor
