/-
  Contract: the program's Translate. Conditions: the frame reads; the library's tables stand.
  Contracts: the program's tests of letters and of the beginning. Conditions: the code's letters read; the diagram's block is known.
-/
import Derived.Test.YtlmdfmnbcndhoaaGreatDoorWr25
import Derived.Test.YtlmdfmnbcndhoaaGreatDoorWr02
namespace Go.Proofs.YtlmdfmnbcndhoaaGreatDoor
open Go.RowKit
/-- What is read in a notation: operations, an error. -/
noncomputable def ntO (L:List Fg) (re lo:Int) (k:Int) (S:List UInt8):List Og:=if k=1 then (rlR L re lo S).1 else rsO L re lo S
noncomputable def ntE (L:List Fg) (re lo:Int) (k:Int) (S:List UInt8):Int:=if k=1 then (rlR L re lo S).2.2 else rsE L re lo S
def ntW (L:List Fg) (k:Int) (O:List Og):List UInt8:=if k=1 then zDr L O else zGy L O
/-- The error of a translation, and what it gives. -/
noncomputable def trE (L:List Fg) (re lo:Int) (S:List UInt8) (from_ to_:Int):Int :=
 if frB L re lo=true∧(from_=1∨from_=2)∧(to_=1∨to_=2) then
  if ntE L re lo from_ S=0 then (if to_=2∧(ntO L re lo from_ S).all (canB L)=false then 8 else 0) else ntE L re lo from_ S
 else 2
noncomputable def trS (L:List Fg) (re lo:Int) (S:List UInt8) (from_ to_:Int):List UInt8:=if trE L re lo S from_ to_=0 then ntW L to_ (ntO L re lo from_ S) else []
theorem nt_good {L:List Fg} {re lo k:Int} {S:List UInt8}:(∀o∈ntO L re lo k S,GoodO L o)∧(ntO L re lo k S).length≤8001:=by
 unfold ntO
 split
 ·exact rl_good
 ·exact rs_good
theorem nt_read (F:Fm) (S:List UInt8) (k:Int) (hk:k=1∨k=2) (w:World) (hA:Fgs w F.A F.n F.L) (hc:F.n≤F.c) (ht:Tabs w) :
  Calls Tryz.prog (if k=1 then 238 else 240) #[.agg #[],frV F.A F.n F.c F.re F.lo,.string (bA S)] w (zFG w (ntO F.L F.re F.lo k S) (ntE F.L F.re F.lo k S)):=by
 rcases hk with rfl | rfl
 ·exact words_read F S w hA hc ht
 ·exact signs_read F S w hA hc ht
theorem meth_wr (w : World) : (method 365 183 (.agg #[]) "catscradle/notes.read").run Tryz.prog w = .ok (238, .agg #[]) w := by kernel_rfl
theorem meth_sr (w : World) : (method 365 184 (.agg #[]) "catscradle/notes.read").run Tryz.prog w = .ok (240, .agg #[]) w := by kernel_rfl
theorem meth_ww (w : World) : (method 365 183 (.agg #[]) "catscradle/notes.write").run Tryz.prog w = .ok (239, .agg #[]) w := by kernel_rfl
theorem meth_sw (w : World) : (method 365 184 (.agg #[]) "catscradle/notes.write").run Tryz.prog w = .ok (241, .agg #[]) w := by kernel_rfl
set_option maxHeartbeats 12800000 in
set_option maxRecDepth 100000 in
theorem zHd (F:Fm) (S:List UInt8) (p q:Int) (w:World) (hA:Fgs w F.A F.n F.L) (hc:F.n≤F.c) (ht:Tabs w) :
  Calls Tryz.prog 40 #[frV F.A F.n F.c F.re F.lo,.string (bA S),.int .i64 p,.int .i64 q] w fun e w'=>e=.returned (.tuple #[.string (bA (trS F.L F.re F.lo S p q)),.int .i64 (trE F.L F.re F.lo S p q)])∧Below w.heap.size w w':=by
 have hb0:Below w.heap.size w (w.alloc (.cells #[.slice F.A F.n F.c,.int .i64 F.re,.int .i64 F.lo] 24)):=(Below.refl _ _).alloc (Nat.le_refl _) _
 have hk0:Blk (w.alloc (.cells #[.slice F.A F.n F.c,.int .i64 F.re,.int .i64 F.lo] 24)) w.heap.size 24 #[.slice F.A F.n F.c,.int .i64 F.re,.int .i64 F.lo]:=Blk.new _ _ _
 obtain ⟨b,hb⟩:∃b,frB F.L F.re F.lo=b:=⟨_,rfl⟩
 obtain ⟨E,hE⟩:∃x,trE F.L F.re F.lo S p q=x:=⟨_,rfl⟩
 obtain ⟨T,hT⟩:∃x,trS F.L F.re F.lo S p q=x:=⟨_,rfl⟩
 rw [hE,hT]
 have HE:=Lib.hid hE
 have HTT:=Lib.hid hT
 have HB:=Lib.hid hb
 have HA:=Lib.hid hA
 have HT:=Lib.hid ht
 have HV:=Lib.hid (zEL hb F.A F.n F.c _ (hA.below hb0) hc)
 have HCH:=Lib.hid (fun k wx=>notes_chosen k wx)
 have BAD:=Lib.hid (fun (h:¬(frB F.L F.re F.lo=true∧(p=1∨p=2)∧(q=1∨q=2)))=>(show E=2∧T=[] by
  have h1:E=2:=by rw [←hE];unfold trE;rw [if_neg h]
  refine ⟨h1,?_⟩
  rw [←hT];unfold trS;rw [hE,h1];rfl))
 clear hE hT hb hA ht
 go_enter Tryz.func40,Tryz.ntmps40
 go_wp2_with fail
 generalize w.alloc (.cells #[.slice F.A F.n F.c,.int .i64 F.re,.int .i64 F.lo] 24)=Y at hb0 hk0 HV ⊢
 refine HV.out.mono ?_
 rintro e Y2 ⟨rfl,hb2⟩
 have hf2:=hk0.below hb2 hk0.lt
 have hb3:=zAa hb0 hb2 hb0.size
 clear hk0 hb0 hb2 HV
 cases b with
 | false =>
  have HF:=Lib.hid (BAD.out (fun h=>by rw [HB.out] at h;cases h.1))
  clear BAD hf2
  go_wp2_with fail
  go_ret2
  exact ⟨by rw [HF.out.1,HF.out.2];rfl,hb3⟩
 | true =>
  go_wp2_with fail
  refine (HCH.out p _).mono ?_
  rintro e Y3 ⟨rfl,rfl⟩
  go_wp2_with fail
  refine (HCH.out q _).mono ?_
  rintro e Y4 ⟨rfl,rfl⟩
  by_cases hp:p=1∨p=2
  ·by_cases hq:q=1∨q=2
   ·have v0:Y4.cell? ⟨w.heap.size,0,none⟩=some (.slice F.A F.n F.c):=(hf2.cell 0).trans rfl
    have v1:Y4.cell? ⟨w.heap.size,1,none⟩=some (.int .i64 F.re):=(hf2.cell 1).trans rfl
    have v2:Y4.cell? ⟨w.heap.size,2,none⟩=some (.int .i64 F.lo):=(hf2.cell 2).trans rfl
    have hNG:=nt_good (L:=F.L) (re:=F.re) (lo:=F.lo) (k:=p) (S:=S)
    have hRD:=nt_read F S p hp Y4 (HA.out.below hb3) hc (HT.out.below hb3)
    have hTE:E=if ntE F.L F.re F.lo p S=0 then (if q=2∧(ntO F.L F.re F.lo p S).all (canB F.L)=false then 8 else 0) else ntE F.L F.re F.lo p S:=by rw [←HE.out];unfold trE;rw [if_pos ⟨HB.out,hp,hq⟩]
    have hTT:T=if E=0 then ntW F.L q (ntO F.L F.re F.lo p S) else []:=by rw [←HTT.out];unfold trS;rw [HE.out]
    obtain ⟨O,hOO⟩:∃x,ntO F.L F.re F.lo p S=x:=⟨_,rfl⟩
    obtain ⟨er,her⟩:∃x,ntE F.L F.re F.lo p S=x:=⟨_,rfl⟩
    rw [hOO,her] at hRD hTE
    rw [hOO] at hTT hNG
    have HNG:=Lib.hid hNG
    have HRD:=Lib.hid hRD
    have HTE:=Lib.hid hTE
    have HTS:=Lib.hid hTT
    have mwr:=meth_wr
    have msr:=meth_sr
    have mww:=meth_ww
    have msw:=meth_sw
    clear BAD hNG hRD hTE hTT hOO her
    rcases hp with rfl | rfl
    ·rcases hq with rfl | rfl
     ·skip
      rw [if_pos rfl] at HRD
      rw [show notV 1=.iface 183 (.agg #[]) from rfl]
      go_wp2_with fail
      refine HRD.out.mono ?_
      rintro e Y5 ⟨B,m,d,Es,rfl,hEs,hm,hO,hb5⟩
      have HEs:=Lib.hid hEs
      have hb6:=zAa hb3 hb5 hb3.size
      have hf5:=hf2.below hb5 hf2.lt
      have u0:Y5.cell? ⟨w.heap.size,0,none⟩=some (.slice F.A F.n F.c):=(hf5.cell 0).trans rfl
      have u1:Y5.cell? ⟨w.heap.size,1,none⟩=some (.int .i64 F.re):=(hf5.cell 1).trans rfl
      have u2:Y5.cell? ⟨w.heap.size,2,none⟩=some (.int .i64 F.lo):=(hf5.cell 2).trans rfl
      by_cases h0:er=0
      ·subst h0
       obtain ⟨hOP,hm2,hfi,hri,hal⟩:=zFc hO hm hEs HNG.out.1 HNG.out.2
       have hnl:F.n=F.L.length:=HA.out.len.symm
       have HAL:=Lib.hid (zFb F.A F.n F.c F.L F.re F.lo 1 (by omega) B m d Es Y5 (HA.out.below hb6) hOP (by rw [hnl];exact hri))
       obtain ⟨av,hav⟩:∃x,allN F.L 1 Es=x:=⟨_,rfl⟩
       rw [hav] at HAL
       have HT2:=Lib.hid (HTE.out.trans (if_pos rfl))
       have HK:=Lib.hid (And.intro hOP (And.intro hm2 (And.intro hfi hal)))
       have HAV:=Lib.hid hav
       clear hO hm hEs hOP hm2 hfi hri hal hav hnl HRD v0 v1 v2
       go_wp2_with fail
       refine HAL.out.mono ?_
       rintro e Y6 ⟨rfl,hb7⟩
       have hb8:=zAa hb6 hb7 hb6.size
       have hf6:=hf5.below hb7 hf5.lt
       have t0:Y6.cell? ⟨w.heap.size,0,none⟩=some (.slice F.A F.n F.c):=(hf6.cell 0).trans rfl
       have t1:Y6.cell? ⟨w.heap.size,1,none⟩=some (.int .i64 F.re):=(hf6.cell 1).trans rfl
       have t2:Y6.cell? ⟨w.heap.size,2,none⟩=some (.int .i64 F.lo):=(hf6.cell 2).trans rfl
       clear u0 u1 u2
       cases av with
       | true =>
        have HEZ:Hid (E=0):=Lib.hid (by rw [HT2.out,if_neg (by omega)])
        have HWR:=Lib.hid (zHb F B m d Es Y6 (HA.out.below hb8) hc (HT.out.below hb8) HB.out (HK.out.1.below hb7) HK.out.2.1 HK.out.2.2.1 HEs.out HK.out.2.2.2)
        have HTZ:=Lib.hid (show T=zDr F.L O by rw [HTS.out,HEZ.out];rfl)
        go_wp2_with fail
        refine HWR.out.mono ?_
        rintro e Y7 ⟨rfl,hb9⟩
        have hb10:=zAa hb8 hb9 hb8.size
        clear t0 t1 t2
        go_wp2_with fail
        go_ret2
        exact ⟨by rw [HEZ.out,HTZ.out];rfl,hb10⟩
       | false =>
        exact absurd HAV.out (by rw [show allN F.L 1 Es=true from rfl];simp)
      ·have HEZ:Hid (E=er):=Lib.hid (by rw [HTE.out,if_neg h0])
       have HTZ:Hid (T=[]):=Lib.hid (by rw [HTS.out,HEZ.out,if_neg h0])
       have k0:(er != 0)=true:=by simpa using h0
       clear h0 hO hm hEs u0 u1 u2 v0 v1 v2
       go_wp2_with fail
       go_ret2
       exact ⟨by rw [HEZ.out,HTZ.out];rfl,hb6⟩
     ·skip
      rw [if_pos rfl] at HRD
      rw [show notV 1=.iface 183 (.agg #[]) from rfl,show notV 2=.iface 184 (.agg #[]) from rfl]
      go_wp2_with fail
      refine HRD.out.mono ?_
      rintro e Y5 ⟨B,m,d,Es,rfl,hEs,hm,hO,hb5⟩
      have HEs:=Lib.hid hEs
      have hb6:=zAa hb3 hb5 hb3.size
      have hf5:=hf2.below hb5 hf2.lt
      have u0:Y5.cell? ⟨w.heap.size,0,none⟩=some (.slice F.A F.n F.c):=(hf5.cell 0).trans rfl
      have u1:Y5.cell? ⟨w.heap.size,1,none⟩=some (.int .i64 F.re):=(hf5.cell 1).trans rfl
      have u2:Y5.cell? ⟨w.heap.size,2,none⟩=some (.int .i64 F.lo):=(hf5.cell 2).trans rfl
      by_cases h0:er=0
      ·subst h0
       obtain ⟨hOP,hm2,hfi,hri,hal⟩:=zFc hO hm hEs HNG.out.1 HNG.out.2
       have hnl:F.n=F.L.length:=HA.out.len.symm
       have HAL:=Lib.hid (zFb F.A F.n F.c F.L F.re F.lo 2 (by omega) B m d Es Y5 (HA.out.below hb6) hOP (by rw [hnl];exact hri))
       obtain ⟨av,hav⟩:∃x,allN F.L 2 Es=x:=⟨_,rfl⟩
       rw [hav] at HAL
       have HT2:=Lib.hid (HTE.out.trans (if_pos rfl))
       have HK:=Lib.hid (And.intro hOP (And.intro hm2 (And.intro hfi hal)))
       have HAV:=Lib.hid hav
       clear hO hm hEs hOP hm2 hfi hri hal hav hnl HRD v0 v1 v2
       go_wp2_with fail
       refine HAL.out.mono ?_
       rintro e Y6 ⟨rfl,hb7⟩
       have hb8:=zAa hb6 hb7 hb6.size
       have hf6:=hf5.below hb7 hf5.lt
       have t0:Y6.cell? ⟨w.heap.size,0,none⟩=some (.slice F.A F.n F.c):=(hf6.cell 0).trans rfl
       have t1:Y6.cell? ⟨w.heap.size,1,none⟩=some (.int .i64 F.re):=(hf6.cell 1).trans rfl
       have t2:Y6.cell? ⟨w.heap.size,2,none⟩=some (.int .i64 F.lo):=(hf6.cell 2).trans rfl
       clear u0 u1 u2
       cases av with
       | true =>
        have hcn:O.all (canB F.L)=true:=by rw [←HEs.out,List.all_map];exact HAV.out
        have HEZ:Hid (E=0):=Lib.hid (by rw [HT2.out,if_neg (by rw [hcn];simp)])
        have HWR:=Lib.hid (zHc F B m d Es Y6 (HA.out.below hb8) hc HB.out (HK.out.1.below hb7) HK.out.2.1 HK.out.2.2.1 HEs.out HK.out.2.2.2 hcn)
        have HTZ:=Lib.hid (show T=zGy F.L O by rw [HTS.out,HEZ.out];rfl)
        clear hcn
        go_wp2_with fail
        refine HWR.out.mono ?_
        rintro e Y7 ⟨rfl,hb9⟩
        have hb10:=zAa hb8 hb9 hb8.size
        clear t0 t1 t2
        go_wp2_with fail
        go_ret2
        exact ⟨by rw [HEZ.out,HTZ.out];rfl,hb10⟩
       | false =>
        have hcn:O.all (canB F.L)=false:=by rw [←HEs.out,List.all_map];exact HAV.out
        have HEZ:Hid (E=8):=Lib.hid (by rw [HT2.out,if_pos (by first | exact ⟨rfl,hcn⟩ | exact ⟨trivial,hcn⟩)])
        have HTZ:=Lib.hid (show T=[] by rw [HTS.out,HEZ.out];rfl)
        clear hcn
        go_wp2_with fail
        go_ret2
        exact ⟨by rw [HEZ.out,HTZ.out];rfl,hb8⟩
      ·have HEZ:Hid (E=er):=Lib.hid (by rw [HTE.out,if_neg h0])
       have HTZ:Hid (T=[]):=Lib.hid (by rw [HTS.out,HEZ.out,if_neg h0])
       have k0:(er != 0)=true:=by simpa using h0
       clear h0 hO hm hEs u0 u1 u2 v0 v1 v2
       go_wp2_with fail
       go_ret2
       exact ⟨by rw [HEZ.out,HTZ.out];rfl,hb6⟩
    ·rcases hq with rfl | rfl
     ·skip
      rw [if_neg (by omega)] at HRD
      rw [show notV 2=.iface 184 (.agg #[]) from rfl,show notV 1=.iface 183 (.agg #[]) from rfl]
      go_wp2_with fail
      refine HRD.out.mono ?_
      rintro e Y5 ⟨B,m,d,Es,rfl,hEs,hm,hO,hb5⟩
      have HEs:=Lib.hid hEs
      have hb6:=zAa hb3 hb5 hb3.size
      have hf5:=hf2.below hb5 hf2.lt
      have u0:Y5.cell? ⟨w.heap.size,0,none⟩=some (.slice F.A F.n F.c):=(hf5.cell 0).trans rfl
      have u1:Y5.cell? ⟨w.heap.size,1,none⟩=some (.int .i64 F.re):=(hf5.cell 1).trans rfl
      have u2:Y5.cell? ⟨w.heap.size,2,none⟩=some (.int .i64 F.lo):=(hf5.cell 2).trans rfl
      by_cases h0:er=0
      ·subst h0
       obtain ⟨hOP,hm2,hfi,hri,hal⟩:=zFc hO hm hEs HNG.out.1 HNG.out.2
       have hnl:F.n=F.L.length:=HA.out.len.symm
       have HAL:=Lib.hid (zFb F.A F.n F.c F.L F.re F.lo 1 (by omega) B m d Es Y5 (HA.out.below hb6) hOP (by rw [hnl];exact hri))
       obtain ⟨av,hav⟩:∃x,allN F.L 1 Es=x:=⟨_,rfl⟩
       rw [hav] at HAL
       have HT2:=Lib.hid (HTE.out.trans (if_pos rfl))
       have HK:=Lib.hid (And.intro hOP (And.intro hm2 (And.intro hfi hal)))
       have HAV:=Lib.hid hav
       clear hO hm hEs hOP hm2 hfi hri hal hav hnl HRD v0 v1 v2
       go_wp2_with fail
       refine HAL.out.mono ?_
       rintro e Y6 ⟨rfl,hb7⟩
       have hb8:=zAa hb6 hb7 hb6.size
       have hf6:=hf5.below hb7 hf5.lt
       have t0:Y6.cell? ⟨w.heap.size,0,none⟩=some (.slice F.A F.n F.c):=(hf6.cell 0).trans rfl
       have t1:Y6.cell? ⟨w.heap.size,1,none⟩=some (.int .i64 F.re):=(hf6.cell 1).trans rfl
       have t2:Y6.cell? ⟨w.heap.size,2,none⟩=some (.int .i64 F.lo):=(hf6.cell 2).trans rfl
       clear u0 u1 u2
       cases av with
       | true =>
        have HEZ:Hid (E=0):=Lib.hid (by rw [HT2.out,if_neg (by omega)])
        have HWR:=Lib.hid (zHb F B m d Es Y6 (HA.out.below hb8) hc (HT.out.below hb8) HB.out (HK.out.1.below hb7) HK.out.2.1 HK.out.2.2.1 HEs.out HK.out.2.2.2)
        have HTZ:=Lib.hid (show T=zDr F.L O by rw [HTS.out,HEZ.out];rfl)
        go_wp2_with fail
        refine HWR.out.mono ?_
        rintro e Y7 ⟨rfl,hb9⟩
        have hb10:=zAa hb8 hb9 hb8.size
        clear t0 t1 t2
        go_wp2_with fail
        go_ret2
        exact ⟨by rw [HEZ.out,HTZ.out];rfl,hb10⟩
       | false =>
        exact absurd HAV.out (by rw [show allN F.L 1 Es=true from rfl];simp)
      ·have HEZ:Hid (E=er):=Lib.hid (by rw [HTE.out,if_neg h0])
       have HTZ:Hid (T=[]):=Lib.hid (by rw [HTS.out,HEZ.out,if_neg h0])
       have k0:(er != 0)=true:=by simpa using h0
       clear h0 hO hm hEs u0 u1 u2 v0 v1 v2
       go_wp2_with fail
       go_ret2
       exact ⟨by rw [HEZ.out,HTZ.out];rfl,hb6⟩
     ·skip
      rw [if_neg (by omega)] at HRD
      rw [show notV 2=.iface 184 (.agg #[]) from rfl]
      go_wp2_with fail
      refine HRD.out.mono ?_
      rintro e Y5 ⟨B,m,d,Es,rfl,hEs,hm,hO,hb5⟩
      have HEs:=Lib.hid hEs
      have hb6:=zAa hb3 hb5 hb3.size
      have hf5:=hf2.below hb5 hf2.lt
      have u0:Y5.cell? ⟨w.heap.size,0,none⟩=some (.slice F.A F.n F.c):=(hf5.cell 0).trans rfl
      have u1:Y5.cell? ⟨w.heap.size,1,none⟩=some (.int .i64 F.re):=(hf5.cell 1).trans rfl
      have u2:Y5.cell? ⟨w.heap.size,2,none⟩=some (.int .i64 F.lo):=(hf5.cell 2).trans rfl
      by_cases h0:er=0
      ·subst h0
       obtain ⟨hOP,hm2,hfi,hri,hal⟩:=zFc hO hm hEs HNG.out.1 HNG.out.2
       have hnl:F.n=F.L.length:=HA.out.len.symm
       have HAL:=Lib.hid (zFb F.A F.n F.c F.L F.re F.lo 2 (by omega) B m d Es Y5 (HA.out.below hb6) hOP (by rw [hnl];exact hri))
       obtain ⟨av,hav⟩:∃x,allN F.L 2 Es=x:=⟨_,rfl⟩
       rw [hav] at HAL
       have HT2:=Lib.hid (HTE.out.trans (if_pos rfl))
       have HK:=Lib.hid (And.intro hOP (And.intro hm2 (And.intro hfi hal)))
       have HAV:=Lib.hid hav
       clear hO hm hEs hOP hm2 hfi hri hal hav hnl HRD v0 v1 v2
       go_wp2_with fail
       refine HAL.out.mono ?_
       rintro e Y6 ⟨rfl,hb7⟩
       have hb8:=zAa hb6 hb7 hb6.size
       have hf6:=hf5.below hb7 hf5.lt
       have t0:Y6.cell? ⟨w.heap.size,0,none⟩=some (.slice F.A F.n F.c):=(hf6.cell 0).trans rfl
       have t1:Y6.cell? ⟨w.heap.size,1,none⟩=some (.int .i64 F.re):=(hf6.cell 1).trans rfl
       have t2:Y6.cell? ⟨w.heap.size,2,none⟩=some (.int .i64 F.lo):=(hf6.cell 2).trans rfl
       clear u0 u1 u2
       cases av with
       | true =>
        have hcn:O.all (canB F.L)=true:=by rw [←HEs.out,List.all_map];exact HAV.out
        have HEZ:Hid (E=0):=Lib.hid (by rw [HT2.out,if_neg (by rw [hcn];simp)])
        have HWR:=Lib.hid (zHc F B m d Es Y6 (HA.out.below hb8) hc HB.out (HK.out.1.below hb7) HK.out.2.1 HK.out.2.2.1 HEs.out HK.out.2.2.2 hcn)
        have HTZ:=Lib.hid (show T=zGy F.L O by rw [HTS.out,HEZ.out];rfl)
        clear hcn
        go_wp2_with fail
        refine HWR.out.mono ?_
        rintro e Y7 ⟨rfl,hb9⟩
        have hb10:=zAa hb8 hb9 hb8.size
        clear t0 t1 t2
        go_wp2_with fail
        go_ret2
        exact ⟨by rw [HEZ.out,HTZ.out];rfl,hb10⟩
       | false =>
        have hcn:O.all (canB F.L)=false:=by rw [←HEs.out,List.all_map];exact HAV.out
        have HEZ:Hid (E=8):=Lib.hid (by rw [HT2.out,if_pos (by first | exact ⟨rfl,hcn⟩ | exact ⟨trivial,hcn⟩)])
        have HTZ:=Lib.hid (show T=[] by rw [HTS.out,HEZ.out];rfl)
        clear hcn
        go_wp2_with fail
        go_ret2
        exact ⟨by rw [HEZ.out,HTZ.out];rfl,hb8⟩
      ·have HEZ:Hid (E=er):=Lib.hid (by rw [HTE.out,if_neg h0])
       have HTZ:Hid (T=[]):=Lib.hid (by rw [HTS.out,HEZ.out,if_neg h0])
       have k0:(er != 0)=true:=by simpa using h0
       clear h0 hO hm hEs u0 u1 u2 v0 v1 v2
       go_wp2_with fail
       go_ret2
       exact ⟨by rw [HEZ.out,HTZ.out];rfl,hb6⟩
   ·have HF:=Lib.hid (BAD.out (fun h=>hq h.2.2))
    have hqn:notV q=.nilIface:=by unfold notV;rw [if_neg (fun e=>hq (.inl e)),if_neg (fun e=>hq (.inr e))]
    rw [hqn]
    clear hq hqn BAD hf2
    rcases hp with rfl | rfl
    ·rw [show notV 1=.iface 183 (.agg #[]) from rfl]
     go_wp2_with fail
     go_ret2
     exact ⟨by rw [HF.out.1,HF.out.2];rfl,hb3⟩
    ·rw [show notV 2=.iface 184 (.agg #[]) from rfl]
     go_wp2_with fail
     go_ret2
     exact ⟨by rw [HF.out.1,HF.out.2];rfl,hb3⟩
  ·have HF:=Lib.hid (BAD.out (fun h=>hp h.2.1))
   have hpn:notV p=.nilIface:=by unfold notV;rw [if_neg (fun e=>hp (.inl e)),if_neg (fun e=>hp (.inr e))]
   rw [hpn]
   clear hp hpn BAD hf2
   go_wp2_with fail
   go_ret2
   exact ⟨by rw [HF.out.1,HF.out.2];rfl,hb3⟩
end Go.Proofs.YtlmdfmnbcndhoaaGreatDoor
namespace Go.Proofs.YtlmdfmnbcndhoaaGreatDoor
open Go.RowKit
/-- A diagram: its block. -/
def Dia (w:World) (p:Nat) (K:Int) (A:Option Addr) (n c:Nat) (v2 v3 v4 v5 v6:Value):Prop:=Blk w p 148 #[.int .i64 K,.slice A n c,v2,v3,v4,v5,v6]
section
variable {w w':World} {p:Nat} {K:Int} {A:Option Addr} {n c:Nat} {v2 v3 v4 v5 v6:Value}
theorem Dia.c0 (h:Dia w p K A n c v2 v3 v4 v5 v6):w.cell? ⟨p,0,none⟩=some (.int .i64 K):=by rw [Blk.cell h];rfl
theorem Dia.c1 (h:Dia w p K A n c v2 v3 v4 v5 v6):w.cell? ⟨p,1,none⟩=some (.slice A n c):=by rw [Blk.cell h];rfl
theorem Dia.c2 (h:Dia w p K A n c v2 v3 v4 v5 v6):w.cell? ⟨p,2,none⟩=some v2:=by rw [Blk.cell h];rfl
theorem Dia.c3 (h:Dia w p K A n c v2 v3 v4 v5 v6):w.cell? ⟨p,3,none⟩=some v3:=by rw [Blk.cell h];rfl
theorem Dia.c4 (h:Dia w p K A n c v2 v3 v4 v5 v6):w.cell? ⟨p,4,none⟩=some v4:=by rw [Blk.cell h];rfl
theorem Dia.c5 (h:Dia w p K A n c v2 v3 v4 v5 v6):w.cell? ⟨p,5,none⟩=some v5:=by rw [Blk.cell h];rfl
theorem Dia.c6 (h:Dia w p K A n c v2 v3 v4 v5 v6):w.cell? ⟨p,6,none⟩=some v6:=by rw [Blk.cell h];rfl
theorem Dia.lt (h:Dia w p K A n c v2 v3 v4 v5 v6):p < w.heap.size:=Blk.lt h
theorem Dia.below {B:Nat} (h:Dia w p K A n c v2 v3 v4 v5 v6) (hb:Below B w w') (hB:p < B):Dia w' p K A n c v2 v3 v4 v5 v6:=Blk.below h hb hB
theorem Dia.next (h:Dia w p K A n c v2 v3 v4 v5 v6) (hb:Below w.heap.size w w'):Dia w' p K A n c v2 v3 v4 v5 v6:=Blk.below h hb h.lt
theorem Dia.frozen (h:Dia w p K A n c v2 v3 v4 v5 v6) (i:Nat):w.frozen? ⟨p,i,none⟩=false:=Blk.frozen h i
end
set_option maxRecDepth 100000 in
set_option maxHeartbeats 1600000 in
theorem zFR (l:Lt) (b p:Nat) (K:Int) (w:World) (hb:w.cell? ⟨b,0,none⟩=some (.pointer (some ⟨p,0,none⟩))) (hp:w.cell? ⟨p,0,none⟩=some (.int .i64 K)) :
  Calls Tryz.prog 198 #[ltV l,.pointer (some ⟨b,0,none⟩)] w fun e w'=>e=.returned (.bool (!lpB K l))∧Below w.heap.size w w':=by
 have hbb:=(Below.refl w.heap.size w).alloc (Nat.le_refl _) (.cells #[.int .i64 l.kind,.int .i64 l.gate,.int .i64 l.rank,.int .i64 l.id,.int .i64 l.sign,.bool l.over] 76)
 have hblt:=World.block_lt_of_cell? w _ hb
 have hplt:=World.block_lt_of_cell? w _ hp
 have hb':=(hbb.cell (p:=⟨b,0,none⟩) hblt).trans hb
 have hp':=(hbb.cell (p:=⟨p,0,none⟩) hplt).trans hp
 unfold ltV
 cases k1:(l.kind==1) with
 | true =>
  cases q1:decide (l.gate < 0) with
  | true =>
   have q1I:l.gate < 0:=by simpa using q1
   have hf:=Lib.hid (show (!lpB K l)=true by unfold lpB;rw [if_pos (show l.kind=1 by simpa using k1)];simp at q1;simp;omega)
   go_enter Tryz.func198,Tryz.ntmps198
   go_wp2_with fail
   go_quiet (fail)
   go_wp2_with fail
   go_ret
   exact ⟨zAg hf.out.symm,zAe ((Below.refl _ _).alloc (Nat.le_refl _) _) _⟩
  | false =>
   cases q2:decide (K < l.gate) with
   | true =>
    have q2I:K < l.gate:=by simpa using q2
    have hf:=Lib.hid (show (!lpB K l)=true by unfold lpB;rw [if_pos (show l.kind=1 by simpa using k1)];simp at q2;simp;omega)
    go_enter Tryz.func198,Tryz.ntmps198
    go_wp2_with fail
    go_quiet (fail)
    go_wp2_with fail
    go_ret
    exact ⟨zAg hf.out.symm,zAe ((Below.refl _ _).alloc (Nat.le_refl _) _) _⟩
   | false =>
    cases q3:(l.id != 0) with
    | true =>
     have hf:=Lib.hid (show (!lpB K l)=true by unfold lpB;rw [if_pos (show l.kind=1 by simpa using k1)];simp at q3;simp;omega)
     go_enter Tryz.func198,Tryz.ntmps198
     go_wp2_with fail
     go_quiet (fail)
     go_wp2_with fail
     go_ret
     exact ⟨zAg hf.out.symm,zAe ((Below.refl _ _).alloc (Nat.le_refl _) _) _⟩
    | false =>
     cases q4:(l.sign != 0) with
     | true =>
      have hf:=Lib.hid (show (!lpB K l)=true by unfold lpB;rw [if_pos (show l.kind=1 by simpa using k1)];simp at q4;simp;omega)
      go_enter Tryz.func198,Tryz.ntmps198
      go_wp2_with fail
      go_quiet (fail)
      go_wp2_with fail
      go_ret
      exact ⟨zAg hf.out.symm,zAe ((Below.refl _ _).alloc (Nat.le_refl _) _) _⟩
     | false =>
      cases q5:l.over with
      | true =>
       have hf:=Lib.hid (show (!lpB K l)=true by unfold lpB;rw [if_pos (show l.kind=1 by simpa using k1)];simp [q5])
       go_enter Tryz.func198,Tryz.ntmps198
       go_wp2_with fail
       go_quiet (fail)
       go_wp2_with fail
       go_ret
       exact ⟨zAg hf.out.symm,zAe ((Below.refl _ _).alloc (Nat.le_refl _) _) _⟩
      | false =>
       have hf:=Lib.hid (show (!lpB K l)=false by unfold lpB;rw [if_pos (show l.kind=1 by simpa using k1)];simp at q1 q2 q3 q4;simp;exact ⟨by omega,by omega,by omega,by omega,q5⟩)
       go_enter Tryz.func198,Tryz.ntmps198
       go_wp2_with fail
       go_quiet (fail)
       go_wp2_with fail
       go_ret
       exact ⟨zAg hf.out.symm,zAe ((Below.refl _ _).alloc (Nat.le_refl _) _) _⟩
 | false =>
  cases k2:(l.kind==2) with
  | true =>
   cases q1:(l.gate != 0) with
   | true =>
    have hf:=Lib.hid (show (!lpB K l)=true by unfold lpB;rw [if_neg (show ¬l.kind=1 by simpa using k1),if_pos (show l.kind=2 by simpa using k2)];simp at q1;simp;omega)
    go_enter Tryz.func198,Tryz.ntmps198
    go_wp2_with fail
    go_ret
    exact ⟨zAg hf.out.symm,(Below.refl _ _).alloc (Nat.le_refl _) _⟩
   | false =>
    cases q2:(l.rank != 0) with
    | true =>
     have hf:=Lib.hid (show (!lpB K l)=true by unfold lpB;rw [if_neg (show ¬l.kind=1 by simpa using k1),if_pos (show l.kind=2 by simpa using k2)];simp at q2;simp;omega)
     go_enter Tryz.func198,Tryz.ntmps198
     go_wp2_with fail
     go_ret
     exact ⟨zAg hf.out.symm,(Below.refl _ _).alloc (Nat.le_refl _) _⟩
    | false =>
     cases q3:(l.sign != 1) with
     | false =>
      have q3':l.sign=1∨l.sign = -1:=by simp at q3;exact .inl q3
      have Q3:=Lib.hid q3';clear q3'
      have hf:=Lib.hid (show (!lpB K l)=false by unfold lpB;rw [if_neg (show ¬l.kind=1 by simpa using k1),if_pos (show l.kind=2 by simpa using k2)];have Q:=Q3.out;simp at q1 q2;simp;omega)
      go_enter Tryz.func198,Tryz.ntmps198
      go_wp2_with fail
      go_ret
      exact ⟨zAg hf.out.symm,(Below.refl _ _).alloc (Nat.le_refl _) _⟩
     | true =>
      cases q4:(l.sign != -1) with
      | false =>
       have q3':l.sign=1∨l.sign = -1:=by simp at q4;exact .inr q4
       have Q3:=Lib.hid q3';clear q3'
       have hf:=Lib.hid (show (!lpB K l)=false by unfold lpB;rw [if_neg (show ¬l.kind=1 by simpa using k1),if_pos (show l.kind=2 by simpa using k2)];have Q:=Q3.out;simp at q1 q2;simp;omega)
       go_enter Tryz.func198,Tryz.ntmps198
       go_wp2_with fail
       go_ret
       exact ⟨zAg hf.out.symm,(Below.refl _ _).alloc (Nat.le_refl _) _⟩
      | true =>
       have hf:=Lib.hid (show (!lpB K l)=true by unfold lpB;rw [if_neg (show ¬l.kind=1 by simpa using k1),if_pos (show l.kind=2 by simpa using k2)];simp at q3 q4;simp;omega)
       go_enter Tryz.func198,Tryz.ntmps198
       go_wp2_with fail
       go_ret
       exact ⟨zAg hf.out.symm,(Below.refl _ _).alloc (Nat.le_refl _) _⟩
  | false =>
   have hf:=Lib.hid (show (!lpB K l)=true by unfold lpB;rw [if_neg (show ¬l.kind=1 by simpa using k1),if_neg (show ¬l.kind=2 by simpa using k2)];rfl)
   go_enter Tryz.func198,Tryz.ntmps198
   go_wp2_with fail
   go_ret
   exact ⟨zAg hf.out.symm,(Below.refl _ _).alloc (Nat.le_refl _) _⟩
def zHu (K:Int) (L:List Lt) (i:Nat):Bool:=!lpB K (la L i)
set_option maxHeartbeats 1600000 in
theorem zFI (b p:Nat) (K:Int) (A:Option Addr) (n c:Nat) (L:List Lt) (w:World) (hA:Lets w A n L) (hb:w.cell? ⟨b,0,none⟩=some (.pointer (some ⟨p,0,none⟩))) (hp:w.cell? ⟨p,0,none⟩=some (.int .i64 K)) :
  Calls Tryz.prog 211 #[.slice A n c,.func (.func 198) #[] #[.pointer (some ⟨b,0,none⟩)]] w fun e w'=>e=.returned (.int .i64 (zDu (zHu K L) n))∧Below w.heap.size w w':=by
 have hle:=hA.le
 have hblt:=World.block_lt_of_cell? w _ hb
 have hplt:=World.block_lt_of_cell? w _ hp
 go_enter Tryz.func211,Tryz.ntmps211
 go_wp2_with fail
 go_loopw [8] (fun i wr=>∃k:Nat,k≤n∧i=.int .i64 k∧Below w.heap.size w wr∧Hid (NoneTo (zHu K L) k)) (fun i _=>n-(intOf i).toNat)
 case atStart=>exact ⟨0,Nat.zero_le _,rfl,Below.refl _ _,NoneTo.zero _⟩
 case round =>
  obtain ⟨k,hk,rfl,hbw,hno⟩:=hrel
  by_cases hlt:k < n
  ·obtain ⟨g,o,rfl,hg,hx,hok⟩:=(hA.below hbw).at_ hlt
   obtain ⟨h0,h1,h2,h3,h4,h5⟩:=hx
   have hbr:=(hbw.cell (p:=⟨b,0,none⟩) hblt).trans hb
   have hpr:=(hbw.cell (p:=⟨p,0,none⟩) hplt).trans hp
   cases hq:lpB K (la L k) with
   | true =>
    have hs:=Lib.hid (hno.out.succ (show zHu K L k=false by unfold zHu;rw [hq];rfl))
    have HQ:=Lib.hid hq
    clear hno hq
    go_wp2_with fail
    refine (zFR (la L k) b p K _ hbr hpr).mono ?_
    rintro e w1 ⟨rfl,hb1⟩
    rw [HQ.out]
    have hbw1:=zAa hbw hb1 hbw.size
    go_wp2_with fail
    go_roundw
    case rel=>exact ⟨k+1,by omega,by go_num,hbw1,hs⟩
    case measure=>simp [intOf];omega
   | false =>
    have hf:=Lib.hid (zCI (n:=n) hno.out (show zHu K L k=true by unfold zHu;rw [hq];rfl) hlt)
    have HQ:=Lib.hid hq
    clear hno hq
    go_wp2_with fail
    refine (zFR (la L k) b p K _ hbr hpr).mono ?_
    rintro e w1 ⟨rfl,hb1⟩
    rw [HQ.out]
    have hbw1:=zAa hbw hb1 hbw.size
    go_wp2_with fail
    go_ret
    exact ⟨zBI hf.out.symm,hbw1⟩
  ·have hkn:k=n:=by omega
   subst hkn
   go_wp2_with fail
   go_ret
   exact ⟨zBI (zCp hno.out).symm,hbw⟩
set_option maxHeartbeats 400000 in
theorem zEh (b p:Nat) (K:Int) (A:Option Addr) (n c:Nat) (L:List Lt) (w:World) (hA:Lets w A n L) (hb:w.cell? ⟨b,0,none⟩=some (.pointer (some ⟨p,0,none⟩))) (hp:w.cell? ⟨p,0,none⟩=some (.int .i64 K)) :
  Calls Tryz.prog 197 #[.slice A n c,.func (.func 198) #[] #[.pointer (some ⟨b,0,none⟩)]] w fun e w'=>e=.returned (.bool (!zAx K L))∧Below w.heap.size w w':=by
 have HL:=Lib.hid hA.len
 have hf:=Lib.hid (show decide (0≤zDu (zHu K L) n) = !zAx K L by
  unfold zAx
  rw [HL.out]
  rcases zFL (zHu K L) n with ⟨h,h'⟩ | ⟨k,hk,h,_,hp⟩
  ·rw [h,zAk.2 (fun i hi=>by have:=h' i hi;unfold zHu at this;simpa using this)];rfl
  ·rw [h,zEE hk (by unfold zHu at hp;simpa using hp)];simp)
 go_enter Tryz.func197,Tryz.ntmps197
 go_wp2_with fail
 refine (zFI b p K A n c L _ hA hb hp).mono ?_
 rintro e w1 ⟨rfl,hb1⟩
 go_wp2_with fail
 go_ret
 exact ⟨zAg hf.out,hb1⟩
theorem zDk {x:Bool} (b p:Nat) (K:Int) (A:Option Addr) (n c:Nat) (L:List Lt) (w:World) (hx:zAx K L=x) (hA:Lets w A n L) (hb:w.cell? ⟨b,0,none⟩=some (.pointer (some ⟨p,0,none⟩))) (hp:w.cell? ⟨p,0,none⟩=some (.int .i64 K)) :
  Calls Tryz.prog 197 #[.slice A n c,.func (.func 198) #[] #[.pointer (some ⟨b,0,none⟩)]] w fun e w'=>e=.returned (.bool (!x))∧Below w.heap.size w w':=by
 subst hx
 exact zEh b p K A n c L w hA hb hp
set_option maxHeartbeats 800000 in
theorem zHe (p:Nat) (K:Int) (A:Option Addr) (n c:Nat) (L:List Lt) (v2 v3 v4 v5 v6:Value) (w:World) (hA:Lets w A n L) (hd:Dia w p K A n c v2 v3 v4 v5 v6) :
  Calls Tryz.prog 175 #[.pointer (some ⟨p,0,none⟩)] w fun e w'=>e=.returned (.bool (zAx K L))∧Below w.heap.size w w':=by
 have HL:=Lib.hid hA.len
 have hbb:=(Below.refl w.heap.size w).alloc (Nat.le_refl _) (.cells #[.pointer (some ⟨p,0,none⟩)] 143)
 have hc0:=(hbb.cell (p:=⟨p,0,none⟩) hd.lt).trans hd.c0
 have hc1:=(hbb.cell (p:=⟨p,1,none⟩) hd.lt).trans hd.c1
 have hbx:(w.alloc (.cells #[.pointer (some ⟨p,0,none⟩)] 143)).cell? ⟨w.heap.size,0,none⟩=some (.pointer (some ⟨p,0,none⟩)):=by rw [World.cell?_alloc_at _ _ _ _ rfl];rfl
 obtain ⟨x,hx⟩:∃x,zAx K L=x:=⟨_,rfl⟩
 have HX:=Lib.hid hx
 rw [hx]
 clear hx
 go_enter Tryz.func175,Tryz.ntmps175
 go_wp2_with fail
 refine (zDk w.heap.size p K A n c L _ HX.out (hA.below hbb) hbx hc0).mono ?_
 rintro e w1 ⟨rfl,hb1⟩
 have hb2:=hbb.trans (hb1.mono (by simp))
 go_wp2_with fail
 go_ret
 exact ⟨zAg (by simp),hb2⟩
set_option maxHeartbeats 800000 in
theorem dia_begins (p:Nat) (K:Int) (A:Option Addr) (n c:Nat) (L:List Lt) (v2 v3 v4 v5 v6:Value) (w:World) (hA:Lets w A n L) (h0:0 < n) (hd:Dia w p K A n c v2 v3 v4 v5 v6) :
  Calls Tryz.prog 176 #[.pointer (some ⟨p,0,none⟩)] w fun e w'=>e=.returned (.bool (isP (la L 0)&&decide (pN L n % 2=0)))∧Below w.heap.size w w':=by
 have hle:=hA.le
 have hc0:=hd.c0
 have hc1:=hd.c1
 obtain ⟨g,o,rfl,hg,hx,_⟩:=hA.at_ h0
 have hz:=hx.kind
 simp only [Nat.zero_mul,Nat.add_zero] at hz
 have hpn:=pN_le L n
 have h0':(0:Int) < (n:Int):=by omega
 by_cases hk:(la L 0).kind=1
 ·have hk1:((la L 0).kind==1)=true:=by simpa using hk
  have hf:=Lib.hid (show (isP (la L 0)&&decide (pN L n % 2=0))=((pN L n:Int) % 2==0) by rw [isP_t hk];rw [Bool.eq_iff_iff];simp;omega)
  clear hk
  go_enter Tryz.func176,Tryz.ntmps176
  go_wp2_with fail
  refine (code_Passes K (some ⟨g,o,none⟩) n c L _ hA).mono ?_
  rintro e w1 ⟨rfl,hb1⟩
  go_wp2_with fail
  go_ret
  exact ⟨zAg hf.out.symm,hb1⟩
 ·have hk1:((la L 0).kind==1)=false:=by simpa using hk
  have hf:=Lib.hid (show (isP (la L 0)&&decide (pN L n % 2=0))=false by rw [isP_f hk];rfl)
  clear hk
  go_enter Tryz.func176,Tryz.ntmps176
  go_wp2_with fail
  go_ret
  exact ⟨zAg hf.out.symm,Below.refl _ _⟩
end Go.Proofs.YtlmdfmnbcndhoaaGreatDoor
