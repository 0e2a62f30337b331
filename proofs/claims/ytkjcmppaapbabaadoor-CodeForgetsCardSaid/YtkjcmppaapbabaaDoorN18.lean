/-
  The law CodeForgets returns true and leaves what was there. Conditions: the arguments read as a code, an int and a place.
-/
import Derived.Test.YtkjcmppaapbabaaDoorJN
import Derived.Test.YtkjcmppaapbabaaDoorJL
import Derived.Test.YtkjcmppaapbabaaDoorKB
import Derived.Test.YtkjcmppaapbabaaDoorNY
import Derived.Test.YtkjcmppaapbabaaDoorJZ
namespace Go.Proofs.YtkjcmppaapbabaaDoor
open Go.RowKit
theorem gives_for {w : World} {K f : Int} {L : List Lt} (h : checkE K L = 0) (h1 : 1 ≤ f) (h2 : f ≤ K) {e : Ending} {w' : World} (hg : ForgetPost w K f L e w') : GivesCE w (K - 1) (forgetL L f) 0 e w' := by
  obtain ⟨a, b, c⟩ := for_ok h h1 h2
  obtain ⟨A', n', c', rfl, hO, hb⟩ := hg
  rw [a, b]; rw [c] at hO
  exact ⟨A', n', c', rfl, hO, hb⟩
theorem gives_ins {w : World} {K g l : Int} {L : List Lt} (h : checkE K L = 0) (hp : placeB K L g l = true) (hK : K < 40) {e : Ending} {w' : World} (hg : GivesCE w (insK K L g l) (insM K L g l) (insE K L g l) e w') : GivesCE w (K + 1) (insertL L g l) 0 e w' := by
  obtain ⟨a, b, c⟩ := ins_ok h hp hK
  rw [a, b, c] at hg
  exact hg
set_option maxRecDepth 100000 in
set_option maxHeartbeats 51200000 in
theorem codeForgets_any (K : Int) (A : Option Addr) (n c : Nat) (L : List Lt) (F pg pl : Int) (w : World) (hA : Lets w A n L) (hc : n ≤ c) (hF : I64 F) (hpg : I64 pg) (hpl : I64 pl) :
    Calls Tryd.prog 15 #[.agg #[.int .i64 K, .slice A n c], .int .i64 F, .agg #[.int .i64 pg, .int .i64 pl]] w fun e w' => e = .returned (.bool true) ∧ Below w.heap.size w w' := by
  have hbx : Boxed w ((w.alloc (.cells #[.int .i64 K, .slice A n c] 24)).alloc (.cells #[.int .i64 pg, .int .i64 pl] 50)) K A n c := (Boxed.refl w K A n c).alloc _
  have bP : Blk ((w.alloc (.cells #[.int .i64 K, .slice A n c] 24)).alloc (.cells #[.int .i64 pg, .int .i64 pl] 50)) (w.heap.size + 1) 50 #[.int .i64 pg, .int .i64 pl] := heap_alloc2_new w _ _
  by_cases h60 : n ≤ 60
  · have HD := Lib.hid (show decide (n ≤ 60) = true by simpa using h60)
    obtain ⟨E, hE⟩ : ∃ E, checkE K L = E := ⟨_, rfl⟩
    have HE := Lib.hid hE
    clear hE
    by_cases hz : E = 0
    · subst hz
      have HKB := Lib.hid (check_parts HE.out)
      cases hPL : placeB K L pg pl with
      | true =>
        have HPL := Lib.hid hPL
        clear hPL
        by_cases hK : K < 40
        · have hk1 : decide (K < 40) = true := by simpa using hK
          have HK := Lib.hid hK
          have hpq := Lib.hid (place_parts HPL.out)
          have vp : IntKind.i64.wrap (pg + 1) = pg + 1 := IntWalk.i64_in _ (by have := hpq.out; have := HKB.out; omega)
          clear hK
          go_enter Tryd.func15, Tryd.ntmps15
          go_wp2_with fail
          generalize (w.alloc (.cells #[.int .i64 K, .slice A n c] 24)).alloc (.cells #[.int .i64 pg, .int .i64 pl] 50) = X at hbx bP ⊢
          have hbx0 := hbx
          clear hbx
          refine (law_small K A n c L _ (hA.below hbx0.below)).mono ?_
          rintro e w1 ⟨rfl, hb⟩
          rw [HD.out]
          replace bP := bP.below hb bP.lt
          have hbx1 := hbx0.more hb
          clear hbx0 hb
          have c0 := hbx1.c0
          have c1 := hbx1.c1
          go_wp2_with fail
          refine (ref_Check K A n c L _ (hA.below hbx1.below)).mono ?_
          rintro e w2 ⟨rfl, hb⟩
          rw [HE.out]
          clear c0 c1
          replace bP := bP.below hb bP.lt
          have hbx2 := hbx1.more hb
          clear hbx1 hb
          have c0 := hbx2.c0
          have c1 := hbx2.c1
          have e0 := ((bP.cell 0).trans rfl : w2.cell? ⟨w.heap.size + 1, 0, none⟩ = some (.int .i64 pg))
          have e1 := ((bP.cell 1).trans rfl : w2.cell? ⟨w.heap.size + 1, 1, none⟩ = some (.int .i64 pl))
          go_wp2_with fail
          clear c0 c1 e0 e1
          refine (cref_Place K pg pl A n c L _ (hA.below hbx2.below)).mono ?_
          rintro e x0 ⟨rfl, hb⟩
          rw [HPL.out]
          replace bP := bP.below hb bP.lt
          have hbx3 := hbx2.more hb
          clear hbx2 hb
          have c0 := hbx3.c0
          have c1 := hbx3.c1
          have e0 := ((bP.cell 0).trans rfl : x0.cell? ⟨w.heap.size + 1, 0, none⟩ = some (.int .i64 pg))
          have e1 := ((bP.cell 1).trans rfl : x0.cell? ⟨w.heap.size + 1, 1, none⟩ = some (.int .i64 pl))
          go_wp2_with fail
          clear c0 c1 e0 e1
          refine (code_Insert K pg pl hpg hpl A n c L _ (hA.below hbx3.below)).mono ?_
          intro e u1 hg
          obtain ⟨A1, n1, r1, rfl, hL1, hb⟩ := gives_ins HE.out HPL.out HK.out hg
          clear hg
          replace bP := (bP.below hb bP.lt).alloc (.cells #[.int .i64 (K + 1), .slice A1 n1 r1] 24)
          have hbn := (hbx3.more hb).alloc (.cells #[.int .i64 (K + 1), .slice A1 n1 r1] 24)
          have hB1 := Blk.new u1 24 #[.int .i64 (K + 1), .slice A1 n1 r1]
          have hM1 := hL1.lets.alloc (.cells #[.int .i64 (K + 1), .slice A1 n1 r1] 24)
          have hc1 := hL1.row.cap
          go_upto_region 5 with fail
          generalize u1.alloc (.cells #[.int .i64 (K + 1), .slice A1 n1 r1] 24) = W1 at bP hbn hB1 hM1 ⊢
          have hbx4 := hbn
          clear hbn hbx3 hL1 hb
          have HC1 := Lib.hid (check_insert HE.out HPL.out HK.out)
          have c0 := ((hB1.cell 0).trans rfl : W1.cell? ⟨u1.heap.size, 0, none⟩ = some (.int .i64 (K + 1)))
          have c1 := ((hB1.cell 1).trans rfl : W1.cell? ⟨u1.heap.size, 1, none⟩ = some (.slice A1 n1 r1))
          have e0 := ((bP.cell 0).trans rfl : W1.cell? ⟨w.heap.size + 1, 0, none⟩ = some (.int .i64 pg))
          have e1 := ((bP.cell 1).trans rfl : W1.cell? ⟨w.heap.size + 1, 1, none⟩ = some (.int .i64 pl))
          go_wp2_with fail
          clear e0 e1 c0 c1
          refine (code_Forget (K + 1) (pg + 1) (by have := hpq.out; have := HKB.out; exact ⟨by omega, by omega⟩) A1 n1 r1 (insertL L pg pl) _ hM1).mono ?_
          intro e u2 hg
          have hg2 := gives_for HC1.out (by have := hpq.out; omega) (by have := hpq.out; omega) hg
          rw [forget_ins HE.out HPL.out, show K + 1 - 1 = K by omega] at hg2
          obtain ⟨A2, n2, r2, rfl, hL2, hb⟩ := hg2
          clear hg
          have hkk : forK (K + 1) (insertL L pg pl) (pg + 1) = K := by rw [(for_ok HC1.out (by have := hpq.out; omega) (by have := hpq.out; omega)).2.1]; omega
          clear hkk
          replace bP := (bP.below hb bP.lt).alloc (.cells #[.int .i64 K, .slice A2 n2 r2] 24)
          replace hB1 := (hB1.below hb hB1.lt).alloc (.cells #[.int .i64 K, .slice A2 n2 r2] 24)
          replace hM1 := (hM1.below hb).alloc (.cells #[.int .i64 K, .slice A2 n2 r2] 24)
          have hbn := (hbx4.more hb).alloc (.cells #[.int .i64 K, .slice A2 n2 r2] 24)
          have hB2 := Blk.new u2 24 #[.int .i64 K, .slice A2 n2 r2]
          have hM2 := hL2.lets.alloc (.cells #[.int .i64 K, .slice A2 n2 r2] 24)
          have hc2 := hL2.row.cap
          go_upto_region 6 with fail
          generalize u2.alloc (.cells #[.int .i64 K, .slice A2 n2 r2] 24) = W2 at bP hB1 hM1 hbn hB2 hM2 ⊢
          have hbx5 := hbn
          clear hbn hbx4 hL2 hb
          have c0 := ((hB1.cell 0).trans rfl : W2.cell? ⟨u1.heap.size, 0, none⟩ = some (.int .i64 (K + 1)))
          have c1 := ((hB1.cell 1).trans rfl : W2.cell? ⟨u1.heap.size, 1, none⟩ = some (.slice A1 n1 r1))
          have e0 := ((hB2.cell 0).trans rfl : W2.cell? ⟨u2.heap.size, 0, none⟩ = some (.int .i64 K))
          have e1 := ((hB2.cell 1).trans rfl : W2.cell? ⟨u2.heap.size, 1, none⟩ = some (.slice A2 n2 r2))
          have i0 := hbx5.c0
          have i1 := hbx5.c1
          go_wp2_with fail
          clear c0 c1 e0 e1 i0 i1
          refine (code_Check (K + 1) A1 n1 r1 (insertL L pg pl) _ hM1).mono ?_
          rintro e x1 ⟨rfl, hb⟩
          rw [HC1.out]
          replace bP := bP.below hb bP.lt
          replace hB1 := hB1.below hb hB1.lt
          replace hM1 := hM1.below hb
          replace hB2 := hB2.below hb hB2.lt
          replace hM2 := hM2.below hb
          have hbx6 := hbx5.more hb
          clear hbx5 hb
          have e0 := ((hB2.cell 0).trans rfl : x1.cell? ⟨u2.heap.size, 0, none⟩ = some (.int .i64 K))
          have e1 := ((hB2.cell 1).trans rfl : x1.cell? ⟨u2.heap.size, 1, none⟩ = some (.slice A2 n2 r2))
          have i0 := hbx6.c0
          have i1 := hbx6.c1
          go_wp2_with fail
          clear e0 e1 i0 i1
          refine (equal_yes K A2 A n2 r2 n c L L _ hM2 (hA.below hbx6.below) rfl).mono ?_
          rintro e x2 ⟨rfl, hb⟩
          replace bP := bP.below hb bP.lt
          replace hB1 := hB1.below hb hB1.lt
          replace hM1 := hM1.below hb
          replace hB2 := hB2.below hb hB2.lt
          replace hM2 := hM2.below hb
          have hbx7 := hbx6.more hb
          clear hbx6 hb
          clear vp
          by_cases hf1 : F < 1
          · have hb1 : decide (F < 1) = true := by simpa using hf1
            clear hf1
            have c0 := hbx7.c0
            have c1 := hbx7.c1
            go_wp2_with fail
            refine (law_known _).mono ?_
            rintro e zz1 ⟨rfl, hb⟩
            go_wp2_with fail
            go_ret
            exact ⟨rfl, (hbx7.more hb).below⟩
          · have hb1 : decide (F < 1) = false := by simpa using hf1
            by_cases hf2 : K < F
            · have hb2 : decide (K < F) = true := by simpa using hf2
              have hb3 : decide (F > K) = true := hb2
              clear hf1 hf2
              have c0 := hbx7.c0
              have c1 := hbx7.c1
              go_wp2_with fail
              refine (law_known _).mono ?_
              rintro e zz2 ⟨rfl, hb⟩
              go_wp2_with fail
              go_ret
              exact ⟨rfl, (hbx7.more hb).below⟩
            · have hb2 : decide (K < F) = false := by simpa using hf2
              have hb3 : decide (F > K) = false := hb2
              have HF1 := Lib.hid (show 1 ≤ F by omega)
              have HF2 := Lib.hid (show F ≤ K by omega)
              clear hf1 hf2
              have c0 := hbx7.c0
              have c1 := hbx7.c1
              go_wp2_with fail
              refine (code_Forget K F hF A n c L _ (hA.below hbx7.below)).mono ?_
              intro e u3 hg
              obtain ⟨A3, n3, r3, rfl, hL3, hb⟩ := gives_for HE.out HF1.out HF2.out hg
              clear hg c0 c1
              replace bP := (bP.below hb bP.lt).alloc (.cells #[.int .i64 (K - 1), .slice A3 n3 r3] 24)
              replace hB1 := (hB1.below hb hB1.lt).alloc (.cells #[.int .i64 (K - 1), .slice A3 n3 r3] 24)
              replace hM1 := (hM1.below hb).alloc (.cells #[.int .i64 (K - 1), .slice A3 n3 r3] 24)
              replace hB2 := (hB2.below hb hB2.lt).alloc (.cells #[.int .i64 (K - 1), .slice A3 n3 r3] 24)
              replace hM2 := (hM2.below hb).alloc (.cells #[.int .i64 (K - 1), .slice A3 n3 r3] 24)
              have hbn := (hbx7.more hb).alloc (.cells #[.int .i64 (K - 1), .slice A3 n3 r3] 24)
              have hB3 := Blk.new u3 24 #[.int .i64 (K - 1), .slice A3 n3 r3]
              have hM3 := hL3.lets.alloc (.cells #[.int .i64 (K - 1), .slice A3 n3 r3] 24)
              have hc3 := hL3.row.cap
              go_upto_region 11 with fail
              generalize u3.alloc (.cells #[.int .i64 (K - 1), .slice A3 n3 r3] 24) = W3 at bP hB1 hM1 hB2 hM2 hbn hB3 hM3 ⊢
              have hbx8 := hbn
              clear hbn hbx7 hL3 hb
              have HC3 := Lib.hid (check_forget HE.out HF1.out HF2.out)
              have c0 := ((hB3.cell 0).trans rfl : W3.cell? ⟨u3.heap.size, 0, none⟩ = some (.int .i64 (K - 1)))
              have c1 := ((hB3.cell 1).trans rfl : W3.cell? ⟨u3.heap.size, 1, none⟩ = some (.slice A3 n3 r3))
              go_wp2_with fail
              clear c0 c1
              refine (w_word (K - 1) A3 n3 r3 (forgetL L F) HC3.out _ hM3 hc3).mono ?_
              rintro e v1 ⟨Q1, q1, z1, rfl, hO1, hb⟩
              have hcI1 := hO1.cap
              have hI1 := hO1.ints
              clear hO1
              replace bP := bP.below hb bP.lt
              replace hB1 := hB1.below hb hB1.lt
              replace hM1 := hM1.below hb
              replace hB2 := hB2.below hb hB2.lt
              replace hM2 := hM2.below hb
              replace hB3 := hB3.below hb hB3.lt
              replace hM3 := hM3.below hb
              have hbx9 := hbx8.more hb
              clear hbx8 hb
              have c0 := hbx9.c0
              have c1 := hbx9.c1
              go_wp2_with fail
              clear c0 c1
              refine (w_word K A n c L HE.out _ (hA.below hbx9.below) hc).mono ?_
              rintro e v2 ⟨Q2, q2, z2, rfl, hO2, hb⟩
              have hcI2 := hO2.cap
              have hI2 := hO2.ints
              clear hO2
              replace hI1 := hI1.below hb
              replace bP := bP.below hb bP.lt
              replace hB1 := hB1.below hb hB1.lt
              replace hM1 := hM1.below hb
              replace hB2 := hB2.below hb hB2.lt
              replace hM2 := hM2.below hb
              replace hB3 := hB3.below hb hB3.lt
              replace hM3 := hM3.below hb
              have hbx10 := hbx9.more hb
              clear hbx9 hb
              have c0 := hbx10.c0
              have c1 := hbx10.c1
              go_wp2_with fail
              clear c0 c1
              refine (w_forget K F Q2 q2 z2 (wd L) (wd_valid HE.out) HF1.out HF2.out _ hI2).mono ?_
              rintro e v3 ⟨Q3, q3, z3, rfl, hO3, hb⟩
              have hcI3 := hO3.cap
              have hI3 := hO3.ints
              clear hO3
              replace hI1 := hI1.below hb
              replace hI2 := hI2.below hb
              replace bP := bP.below hb bP.lt
              replace hB1 := hB1.below hb hB1.lt
              replace hM1 := hM1.below hb
              replace hB2 := hB2.below hb hB2.lt
              replace hM2 := hM2.below hb
              replace hB3 := hB3.below hb hB3.lt
              replace hM3 := hM3.below hb
              have hbx11 := hbx10.more hb
              clear hbx10 hb
              go_wp2_with fail
              refine (w_normal Q1 q1 z1 (wd (forgetL L F)) (word_of HC3.out) _ hI1).mono ?_
              rintro e v4 ⟨Q4, q4, z4, rfl, hO4, hb⟩
              have hcI4 := hO4.cap
              have hI4 := hO4.ints
              clear hO4
              replace hI1 := hI1.below hb
              replace hI2 := hI2.below hb
              replace hI3 := hI3.below hb
              replace bP := bP.below hb bP.lt
              replace hB1 := hB1.below hb hB1.lt
              replace hM1 := hM1.below hb
              replace hB2 := hB2.below hb hB2.lt
              replace hM2 := hM2.below hb
              replace hB3 := hB3.below hb hB3.lt
              replace hM3 := hM3.below hb
              have hbx12 := hbx11.more hb
              clear hbx11 hb
              have c0 := ((hB3.cell 0).trans rfl : v4.cell? ⟨u3.heap.size, 0, none⟩ = some (.int .i64 (K - 1)))
              have c1 := ((hB3.cell 1).trans rfl : v4.cell? ⟨u3.heap.size, 1, none⟩ = some (.slice A3 n3 r3))
              go_wp2_with fail
              clear c0 c1
              refine (code_Check (K - 1) A3 n3 r3 (forgetL L F) _ hM3).mono ?_
              rintro e x5 ⟨rfl, hb⟩
              rw [HC3.out]
              replace hI1 := hI1.below hb
              replace hI2 := hI2.below hb
              replace hI3 := hI3.below hb
              replace hI4 := hI4.below hb
              replace bP := bP.below hb bP.lt
              replace hB1 := hB1.below hb hB1.lt
              replace hM1 := hM1.below hb
              replace hB2 := hB2.below hb hB2.lt
              replace hM2 := hM2.below hb
              replace hB3 := hB3.below hb hB3.lt
              replace hM3 := hM3.below hb
              have hbx13 := hbx12.more hb
              clear hbx12 hb
              go_wp2_with fail
              refine (w_equal Q3 Q4 q3 q4 z3 z4 (normalL ((wd L).map (dropG F))) (normalL (wd (forgetL L F))) (by rw [wd_forget]) _ hI3 hI4).mono ?_
              rintro e x6 ⟨rfl, hb⟩
              replace hI1 := hI1.below hb
              replace hI2 := hI2.below hb
              replace hI3 := hI3.below hb
              replace hI4 := hI4.below hb
              replace bP := bP.below hb bP.lt
              replace hB1 := hB1.below hb hB1.lt
              replace hM1 := hM1.below hb
              replace hB2 := hB2.below hb hB2.lt
              replace hM2 := hM2.below hb
              replace hB3 := hB3.below hb hB3.lt
              replace hM3 := hM3.below hb
              have hbx14 := hbx13.more hb
              clear hbx13 hb
              go_wp2_with fail
              refine (law_known _).mono ?_
              rintro e zz3 ⟨rfl, hb⟩
              go_wp2_with fail
              go_ret
              exact ⟨rfl, (hbx14.more hb).below⟩
        · have hk1 : decide (K < 40) = false := by simpa using hK
          clear hK
          go_enter Tryd.func15, Tryd.ntmps15
          go_wp2_with fail
          generalize (w.alloc (.cells #[.int .i64 K, .slice A n c] 24)).alloc (.cells #[.int .i64 pg, .int .i64 pl] 50) = X at hbx bP ⊢
          have hbx0 := hbx
          clear hbx
          refine (law_small K A n c L _ (hA.below hbx0.below)).mono ?_
          rintro e w1 ⟨rfl, hb⟩
          rw [HD.out]
          replace bP := bP.below hb bP.lt
          have hbx1 := hbx0.more hb
          clear hbx0 hb
          have c0 := hbx1.c0
          have c1 := hbx1.c1
          go_wp2_with fail
          refine (ref_Check K A n c L _ (hA.below hbx1.below)).mono ?_
          rintro e w2 ⟨rfl, hb⟩
          rw [HE.out]
          clear c0 c1
          replace bP := bP.below hb bP.lt
          have hbx2 := hbx1.more hb
          clear hbx1 hb
          have c0 := hbx2.c0
          have c1 := hbx2.c1
          have e0 := ((bP.cell 0).trans rfl : w2.cell? ⟨w.heap.size + 1, 0, none⟩ = some (.int .i64 pg))
          have e1 := ((bP.cell 1).trans rfl : w2.cell? ⟨w.heap.size + 1, 1, none⟩ = some (.int .i64 pl))
          go_wp2_with fail
          clear c0 c1 e0 e1
          refine (cref_Place K pg pl A n c L _ (hA.below hbx2.below)).mono ?_
          rintro e x0 ⟨rfl, hb⟩
          rw [HPL.out]
          replace bP := bP.below hb bP.lt
          have hbx3 := hbx2.more hb
          clear hbx2 hb
          have i0 := hbx3.c0
          have i1 := hbx3.c1
          have i2 := i0
          clear i2
          by_cases hf1 : F < 1
          · have hb1 : decide (F < 1) = true := by simpa using hf1
            clear hf1
            have c0 := hbx3.c0
            have c1 := hbx3.c1
            go_wp2_with fail
            refine (law_known _).mono ?_
            rintro e zz1 ⟨rfl, hb⟩
            go_wp2_with fail
            go_ret
            exact ⟨rfl, (hbx3.more hb).below⟩
          · have hb1 : decide (F < 1) = false := by simpa using hf1
            by_cases hf2 : K < F
            · have hb2 : decide (K < F) = true := by simpa using hf2
              have hb3 : decide (F > K) = true := hb2
              clear hf1 hf2
              have c0 := hbx3.c0
              have c1 := hbx3.c1
              go_wp2_with fail
              refine (law_known _).mono ?_
              rintro e zz2 ⟨rfl, hb⟩
              go_wp2_with fail
              go_ret
              exact ⟨rfl, (hbx3.more hb).below⟩
            · have hb2 : decide (K < F) = false := by simpa using hf2
              have hb3 : decide (F > K) = false := hb2
              have HF1 := Lib.hid (show 1 ≤ F by omega)
              have HF2 := Lib.hid (show F ≤ K by omega)
              clear hf1 hf2
              have c0 := hbx3.c0
              have c1 := hbx3.c1
              go_wp2_with fail
              refine (code_Forget K F hF A n c L _ (hA.below hbx3.below)).mono ?_
              intro e u3 hg
              obtain ⟨A3, n3, r3, rfl, hL3, hb⟩ := gives_for HE.out HF1.out HF2.out hg
              clear hg c0 c1
              replace bP := (bP.below hb bP.lt).alloc (.cells #[.int .i64 (K - 1), .slice A3 n3 r3] 24)
              have hbn := (hbx3.more hb).alloc (.cells #[.int .i64 (K - 1), .slice A3 n3 r3] 24)
              have hB3 := Blk.new u3 24 #[.int .i64 (K - 1), .slice A3 n3 r3]
              have hM3 := hL3.lets.alloc (.cells #[.int .i64 (K - 1), .slice A3 n3 r3] 24)
              have hc3 := hL3.row.cap
              go_upto_region 11 with fail
              generalize u3.alloc (.cells #[.int .i64 (K - 1), .slice A3 n3 r3] 24) = W3 at bP hbn hB3 hM3 ⊢
              have hbx4 := hbn
              clear hbn hbx3 hL3 hb
              have HC3 := Lib.hid (check_forget HE.out HF1.out HF2.out)
              have c0 := ((hB3.cell 0).trans rfl : W3.cell? ⟨u3.heap.size, 0, none⟩ = some (.int .i64 (K - 1)))
              have c1 := ((hB3.cell 1).trans rfl : W3.cell? ⟨u3.heap.size, 1, none⟩ = some (.slice A3 n3 r3))
              go_wp2_with fail
              clear c0 c1
              refine (w_word (K - 1) A3 n3 r3 (forgetL L F) HC3.out _ hM3 hc3).mono ?_
              rintro e v1 ⟨Q1, q1, z1, rfl, hO1, hb⟩
              have hcI1 := hO1.cap
              have hI1 := hO1.ints
              clear hO1
              replace bP := bP.below hb bP.lt
              replace hB3 := hB3.below hb hB3.lt
              replace hM3 := hM3.below hb
              have hbx5 := hbx4.more hb
              clear hbx4 hb
              have c0 := hbx5.c0
              have c1 := hbx5.c1
              go_wp2_with fail
              clear c0 c1
              refine (w_word K A n c L HE.out _ (hA.below hbx5.below) hc).mono ?_
              rintro e v2 ⟨Q2, q2, z2, rfl, hO2, hb⟩
              have hcI2 := hO2.cap
              have hI2 := hO2.ints
              clear hO2
              replace hI1 := hI1.below hb
              replace bP := bP.below hb bP.lt
              replace hB3 := hB3.below hb hB3.lt
              replace hM3 := hM3.below hb
              have hbx6 := hbx5.more hb
              clear hbx5 hb
              have c0 := hbx6.c0
              have c1 := hbx6.c1
              go_wp2_with fail
              clear c0 c1
              refine (w_forget K F Q2 q2 z2 (wd L) (wd_valid HE.out) HF1.out HF2.out _ hI2).mono ?_
              rintro e v3 ⟨Q3, q3, z3, rfl, hO3, hb⟩
              have hcI3 := hO3.cap
              have hI3 := hO3.ints
              clear hO3
              replace hI1 := hI1.below hb
              replace hI2 := hI2.below hb
              replace bP := bP.below hb bP.lt
              replace hB3 := hB3.below hb hB3.lt
              replace hM3 := hM3.below hb
              have hbx7 := hbx6.more hb
              clear hbx6 hb
              go_wp2_with fail
              refine (w_normal Q1 q1 z1 (wd (forgetL L F)) (word_of HC3.out) _ hI1).mono ?_
              rintro e v4 ⟨Q4, q4, z4, rfl, hO4, hb⟩
              have hcI4 := hO4.cap
              have hI4 := hO4.ints
              clear hO4
              replace hI1 := hI1.below hb
              replace hI2 := hI2.below hb
              replace hI3 := hI3.below hb
              replace bP := bP.below hb bP.lt
              replace hB3 := hB3.below hb hB3.lt
              replace hM3 := hM3.below hb
              have hbx8 := hbx7.more hb
              clear hbx7 hb
              have c0 := ((hB3.cell 0).trans rfl : v4.cell? ⟨u3.heap.size, 0, none⟩ = some (.int .i64 (K - 1)))
              have c1 := ((hB3.cell 1).trans rfl : v4.cell? ⟨u3.heap.size, 1, none⟩ = some (.slice A3 n3 r3))
              go_wp2_with fail
              clear c0 c1
              refine (code_Check (K - 1) A3 n3 r3 (forgetL L F) _ hM3).mono ?_
              rintro e x5 ⟨rfl, hb⟩
              rw [HC3.out]
              replace hI1 := hI1.below hb
              replace hI2 := hI2.below hb
              replace hI3 := hI3.below hb
              replace hI4 := hI4.below hb
              replace bP := bP.below hb bP.lt
              replace hB3 := hB3.below hb hB3.lt
              replace hM3 := hM3.below hb
              have hbx9 := hbx8.more hb
              clear hbx8 hb
              go_wp2_with fail
              refine (w_equal Q3 Q4 q3 q4 z3 z4 (normalL ((wd L).map (dropG F))) (normalL (wd (forgetL L F))) (by rw [wd_forget]) _ hI3 hI4).mono ?_
              rintro e x6 ⟨rfl, hb⟩
              replace hI1 := hI1.below hb
              replace hI2 := hI2.below hb
              replace hI3 := hI3.below hb
              replace hI4 := hI4.below hb
              replace bP := bP.below hb bP.lt
              replace hB3 := hB3.below hb hB3.lt
              replace hM3 := hM3.below hb
              have hbx10 := hbx9.more hb
              clear hbx9 hb
              go_wp2_with fail
              refine (law_known _).mono ?_
              rintro e zz3 ⟨rfl, hb⟩
              go_wp2_with fail
              go_ret
              exact ⟨rfl, (hbx10.more hb).below⟩
      | false =>
        have HPL := Lib.hid hPL
        clear hPL
        go_enter Tryd.func15, Tryd.ntmps15
        go_wp2_with fail
        generalize (w.alloc (.cells #[.int .i64 K, .slice A n c] 24)).alloc (.cells #[.int .i64 pg, .int .i64 pl] 50) = X at hbx bP ⊢
        have hbx0 := hbx
        clear hbx
        refine (law_small K A n c L _ (hA.below hbx0.below)).mono ?_
        rintro e w1 ⟨rfl, hb⟩
        rw [HD.out]
        replace bP := bP.below hb bP.lt
        have hbx1 := hbx0.more hb
        clear hbx0 hb
        have c0 := hbx1.c0
        have c1 := hbx1.c1
        go_wp2_with fail
        refine (ref_Check K A n c L _ (hA.below hbx1.below)).mono ?_
        rintro e w2 ⟨rfl, hb⟩
        rw [HE.out]
        clear c0 c1
        replace bP := bP.below hb bP.lt
        have hbx2 := hbx1.more hb
        clear hbx1 hb
        have c0 := hbx2.c0
        have c1 := hbx2.c1
        have e0 := ((bP.cell 0).trans rfl : w2.cell? ⟨w.heap.size + 1, 0, none⟩ = some (.int .i64 pg))
        have e1 := ((bP.cell 1).trans rfl : w2.cell? ⟨w.heap.size + 1, 1, none⟩ = some (.int .i64 pl))
        go_wp2_with fail
        clear c0 c1 e0 e1
        refine (cref_Place K pg pl A n c L _ (hA.below hbx2.below)).mono ?_
        rintro e x0 ⟨rfl, hb⟩
        rw [HPL.out]
        replace bP := bP.below hb bP.lt
        have hbx3 := hbx2.more hb
        clear hbx2 hb
        by_cases hf1 : F < 1
        · have hb1 : decide (F < 1) = true := by simpa using hf1
          clear hf1
          have c0 := hbx3.c0
          have c1 := hbx3.c1
          go_wp2_with fail
          refine (law_known _).mono ?_
          rintro e zz1 ⟨rfl, hb⟩
          go_wp2_with fail
          go_ret
          exact ⟨rfl, (hbx3.more hb).below⟩
        · have hb1 : decide (F < 1) = false := by simpa using hf1
          by_cases hf2 : K < F
          · have hb2 : decide (K < F) = true := by simpa using hf2
            have hb3 : decide (F > K) = true := hb2
            clear hf1 hf2
            have c0 := hbx3.c0
            have c1 := hbx3.c1
            go_wp2_with fail
            refine (law_known _).mono ?_
            rintro e zz2 ⟨rfl, hb⟩
            go_wp2_with fail
            go_ret
            exact ⟨rfl, (hbx3.more hb).below⟩
          · have hb2 : decide (K < F) = false := by simpa using hf2
            have hb3 : decide (F > K) = false := hb2
            have HF1 := Lib.hid (show 1 ≤ F by omega)
            have HF2 := Lib.hid (show F ≤ K by omega)
            clear hf1 hf2
            have c0 := hbx3.c0
            have c1 := hbx3.c1
            go_wp2_with fail
            refine (code_Forget K F hF A n c L _ (hA.below hbx3.below)).mono ?_
            intro e u3 hg
            obtain ⟨A3, n3, r3, rfl, hL3, hb⟩ := gives_for HE.out HF1.out HF2.out hg
            clear hg c0 c1
            replace bP := (bP.below hb bP.lt).alloc (.cells #[.int .i64 (K - 1), .slice A3 n3 r3] 24)
            have hbn := (hbx3.more hb).alloc (.cells #[.int .i64 (K - 1), .slice A3 n3 r3] 24)
            have hB3 := Blk.new u3 24 #[.int .i64 (K - 1), .slice A3 n3 r3]
            have hM3 := hL3.lets.alloc (.cells #[.int .i64 (K - 1), .slice A3 n3 r3] 24)
            have hc3 := hL3.row.cap
            go_upto_region 11 with fail
            generalize u3.alloc (.cells #[.int .i64 (K - 1), .slice A3 n3 r3] 24) = W3 at bP hbn hB3 hM3 ⊢
            have hbx4 := hbn
            clear hbn hbx3 hL3 hb
            have HC3 := Lib.hid (check_forget HE.out HF1.out HF2.out)
            have c0 := ((hB3.cell 0).trans rfl : W3.cell? ⟨u3.heap.size, 0, none⟩ = some (.int .i64 (K - 1)))
            have c1 := ((hB3.cell 1).trans rfl : W3.cell? ⟨u3.heap.size, 1, none⟩ = some (.slice A3 n3 r3))
            go_wp2_with fail
            clear c0 c1
            refine (w_word (K - 1) A3 n3 r3 (forgetL L F) HC3.out _ hM3 hc3).mono ?_
            rintro e v1 ⟨Q1, q1, z1, rfl, hO1, hb⟩
            have hcI1 := hO1.cap
            have hI1 := hO1.ints
            clear hO1
            replace bP := bP.below hb bP.lt
            replace hB3 := hB3.below hb hB3.lt
            replace hM3 := hM3.below hb
            have hbx5 := hbx4.more hb
            clear hbx4 hb
            have c0 := hbx5.c0
            have c1 := hbx5.c1
            go_wp2_with fail
            clear c0 c1
            refine (w_word K A n c L HE.out _ (hA.below hbx5.below) hc).mono ?_
            rintro e v2 ⟨Q2, q2, z2, rfl, hO2, hb⟩
            have hcI2 := hO2.cap
            have hI2 := hO2.ints
            clear hO2
            replace hI1 := hI1.below hb
            replace bP := bP.below hb bP.lt
            replace hB3 := hB3.below hb hB3.lt
            replace hM3 := hM3.below hb
            have hbx6 := hbx5.more hb
            clear hbx5 hb
            have c0 := hbx6.c0
            have c1 := hbx6.c1
            go_wp2_with fail
            clear c0 c1
            refine (w_forget K F Q2 q2 z2 (wd L) (wd_valid HE.out) HF1.out HF2.out _ hI2).mono ?_
            rintro e v3 ⟨Q3, q3, z3, rfl, hO3, hb⟩
            have hcI3 := hO3.cap
            have hI3 := hO3.ints
            clear hO3
            replace hI1 := hI1.below hb
            replace hI2 := hI2.below hb
            replace bP := bP.below hb bP.lt
            replace hB3 := hB3.below hb hB3.lt
            replace hM3 := hM3.below hb
            have hbx7 := hbx6.more hb
            clear hbx6 hb
            go_wp2_with fail
            refine (w_normal Q1 q1 z1 (wd (forgetL L F)) (word_of HC3.out) _ hI1).mono ?_
            rintro e v4 ⟨Q4, q4, z4, rfl, hO4, hb⟩
            have hcI4 := hO4.cap
            have hI4 := hO4.ints
            clear hO4
            replace hI1 := hI1.below hb
            replace hI2 := hI2.below hb
            replace hI3 := hI3.below hb
            replace bP := bP.below hb bP.lt
            replace hB3 := hB3.below hb hB3.lt
            replace hM3 := hM3.below hb
            have hbx8 := hbx7.more hb
            clear hbx7 hb
            have c0 := ((hB3.cell 0).trans rfl : v4.cell? ⟨u3.heap.size, 0, none⟩ = some (.int .i64 (K - 1)))
            have c1 := ((hB3.cell 1).trans rfl : v4.cell? ⟨u3.heap.size, 1, none⟩ = some (.slice A3 n3 r3))
            go_wp2_with fail
            clear c0 c1
            refine (code_Check (K - 1) A3 n3 r3 (forgetL L F) _ hM3).mono ?_
            rintro e x5 ⟨rfl, hb⟩
            rw [HC3.out]
            replace hI1 := hI1.below hb
            replace hI2 := hI2.below hb
            replace hI3 := hI3.below hb
            replace hI4 := hI4.below hb
            replace bP := bP.below hb bP.lt
            replace hB3 := hB3.below hb hB3.lt
            replace hM3 := hM3.below hb
            have hbx9 := hbx8.more hb
            clear hbx8 hb
            go_wp2_with fail
            refine (w_equal Q3 Q4 q3 q4 z3 z4 (normalL ((wd L).map (dropG F))) (normalL (wd (forgetL L F))) (by rw [wd_forget]) _ hI3 hI4).mono ?_
            rintro e x6 ⟨rfl, hb⟩
            replace hI1 := hI1.below hb
            replace hI2 := hI2.below hb
            replace hI3 := hI3.below hb
            replace hI4 := hI4.below hb
            replace bP := bP.below hb bP.lt
            replace hB3 := hB3.below hb hB3.lt
            replace hM3 := hM3.below hb
            have hbx10 := hbx9.more hb
            clear hbx9 hb
            go_wp2_with fail
            refine (law_known _).mono ?_
            rintro e zz3 ⟨rfl, hb⟩
            go_wp2_with fail
            go_ret
            exact ⟨rfl, (hbx10.more hb).below⟩
    · have q : (E != 0) = true := by simpa using hz
      clear hz
      go_enter Tryd.func15, Tryd.ntmps15
      go_wp2_with fail
      generalize (w.alloc (.cells #[.int .i64 K, .slice A n c] 24)).alloc (.cells #[.int .i64 pg, .int .i64 pl] 50) = X at hbx bP ⊢
      have hbx0 := hbx
      clear hbx
      refine (law_small K A n c L _ (hA.below hbx0.below)).mono ?_
      rintro e w1 ⟨rfl, hb⟩
      rw [HD.out]
      replace bP := bP.below hb bP.lt
      have hbx1 := hbx0.more hb
      clear hbx0 hb
      have c0 := hbx1.c0
      have c1 := hbx1.c1
      go_wp2_with fail
      refine (ref_Check K A n c L _ (hA.below hbx1.below)).mono ?_
      rintro e w2 ⟨rfl, hb⟩
      rw [HE.out]
      clear c0 c1
      replace bP := bP.below hb bP.lt
      have hbx2 := hbx1.more hb
      clear hbx1 hb
      go_wp2_with fail
      refine (law_known _).mono ?_
      rintro e w3 ⟨rfl, hb⟩
      go_wp2_with fail
      go_ret
      exact ⟨rfl, (hbx2.more hb).below⟩
  · have HD := Lib.hid (show decide (n ≤ 60) = false by simpa using h60)
    go_enter Tryd.func15, Tryd.ntmps15
    go_wp2_with fail
    generalize (w.alloc (.cells #[.int .i64 K, .slice A n c] 24)).alloc (.cells #[.int .i64 pg, .int .i64 pl] 50) = X at hbx bP ⊢
    have hbx0 := hbx
    clear hbx
    refine (law_small K A n c L _ (hA.below hbx0.below)).mono ?_
    rintro e w1 ⟨rfl, hb⟩
    rw [HD.out]
    replace bP := bP.below hb bP.lt
    have hbx1 := hbx0.more hb
    clear hbx0 hb
    go_wp2_with fail
    refine (law_known _).mono ?_
    rintro e w2 ⟨rfl, hb⟩
    go_wp2_with fail
    go_ret
    exact ⟨rfl, (hbx1.more hb).below⟩
end Go.Proofs.YtkjcmppaapbabaaDoor
