/-
  The law CodeStarts returns true and leaves what was there. Conditions: the arguments read as a code and ints.
-/
import Derived.Test.YtkjcmppaapbabaaDoorJN
import Derived.Test.YtkjcmppaapbabaaDoorJL
import Derived.Test.YtkjcmppaapbabaaDoorJR
import Derived.Test.YtkjcmppaapbabaaDoorJS
import Derived.Test.YtkjcmppaapbabaaDoorKA
import Derived.Test.YtkjcmppaapbabaaDoorNY
namespace Go.Proofs.YtkjcmppaapbabaaDoor
open Go.RowKit
theorem same_yes {K : Int} {L M : List Lt} (h1 : checkE K L = 0) (h2 : checkE K M = 0) (h : normL L = normL M) : samV K L K M = true ∧ samE K L K M = 0 := by
  obtain ⟨a, b⟩ := samV_ok h1 h2
  exact ⟨by rw [b]; simp [h], a⟩
set_option maxRecDepth 100000 in
set_option maxHeartbeats 51200000 in
theorem codeStarts_any (K : Int) (A : Option Addr) (n c : Nat) (L : List Lt) (S Y : Int) (w : World) (hA : Lets w A n L) (hc : n ≤ c) (hS : I64 S) (hY : I64 Y) :
    Calls Tryd.prog 13 #[.agg #[.int .i64 K, .slice A n c], .int .i64 S, .int .i64 Y] w fun e w' => e = .returned (.bool true) ∧ Below w.heap.size w w' := by
  have hLn := Lib.hid hA.len
  have hle := hA.le
  have hbx := Boxed.refl w K A n c
  have hbc0 := build_code0
  by_cases h60 : n ≤ 60
  · have HD := Lib.hid (show decide (n ≤ 60) = true by simpa using h60)
    obtain ⟨E, hE⟩ : ∃ E, checkE K L = E := ⟨_, rfl⟩
    have HE := Lib.hid hE
    clear hE
    by_cases hz : E = 0
    · subst hz
      by_cases t0 : S < 0
      · have b0 : decide (S < 0) = true := by simpa using t0
        go_enter Tryd.func13, Tryd.ntmps13
        go_wp2_with fail
        generalize w.alloc (.cells #[.int .i64 K, .slice A n c] 24) = X at hbx ⊢
        have hbx0 := hbx
        clear hbx
        refine (law_small K A n c L _ (hA.below hbx0.below)).mono ?_
        rintro e w1 ⟨rfl, hb⟩
        rw [HD.out]
        have hbx1 := hbx0.more hb
        clear hbx0 hb
        have c0 := hbx1.c0
        have c1 := hbx1.c1
        go_wp2_with fail
        refine (ref_Check K A n c L _ (hA.below hbx1.below)).mono ?_
        rintro e w2 ⟨rfl, hb⟩
        rw [HE.out]
        clear c0 c1
        have hbx2 := hbx1.more hb
        clear hbx1 hb
        have c0 := hbx2.c0
        have c1 := hbx2.c1
        go_wp2_with fail
        refine (law_known _).mono ?_
        rintro e w3 ⟨rfl, hb⟩
        go_wp2_with fail
        go_ret
        exact ⟨rfl, (hbx2.more hb).below⟩
      · have b0 : decide (S < 0) = false := by simpa using t0
        by_cases t1 : (n : Int) ≤ S
        · have b1 : decide ((n : Int) ≤ S) = true := by simpa using t1
          go_enter Tryd.func13, Tryd.ntmps13
          go_wp2_with fail
          generalize w.alloc (.cells #[.int .i64 K, .slice A n c] 24) = X at hbx ⊢
          have hbx0 := hbx
          clear hbx
          refine (law_small K A n c L _ (hA.below hbx0.below)).mono ?_
          rintro e w1 ⟨rfl, hb⟩
          rw [HD.out]
          have hbx1 := hbx0.more hb
          clear hbx0 hb
          have c0 := hbx1.c0
          have c1 := hbx1.c1
          go_wp2_with fail
          refine (ref_Check K A n c L _ (hA.below hbx1.below)).mono ?_
          rintro e w2 ⟨rfl, hb⟩
          rw [HE.out]
          clear c0 c1
          have hbx2 := hbx1.more hb
          clear hbx1 hb
          have c0 := hbx2.c0
          have c1 := hbx2.c1
          go_wp2_with fail
          refine (law_known _).mono ?_
          rintro e w3 ⟨rfl, hb⟩
          go_wp2_with fail
          go_ret
          exact ⟨rfl, (hbx2.more hb).below⟩
        · have b1 : decide ((n : Int) ≤ S) = false := by simpa using t1
          by_cases t2 : Y < 0
          · have b2 : decide (Y < 0) = true := by simpa using t2
            go_enter Tryd.func13, Tryd.ntmps13
            go_wp2_with fail
            generalize w.alloc (.cells #[.int .i64 K, .slice A n c] 24) = X at hbx ⊢
            have hbx0 := hbx
            clear hbx
            refine (law_small K A n c L _ (hA.below hbx0.below)).mono ?_
            rintro e w1 ⟨rfl, hb⟩
            rw [HD.out]
            have hbx1 := hbx0.more hb
            clear hbx0 hb
            have c0 := hbx1.c0
            have c1 := hbx1.c1
            go_wp2_with fail
            refine (ref_Check K A n c L _ (hA.below hbx1.below)).mono ?_
            rintro e w2 ⟨rfl, hb⟩
            rw [HE.out]
            clear c0 c1
            have hbx2 := hbx1.more hb
            clear hbx1 hb
            have c0 := hbx2.c0
            have c1 := hbx2.c1
            go_wp2_with fail
            refine (law_known _).mono ?_
            rintro e w3 ⟨rfl, hb⟩
            go_wp2_with fail
            go_ret
            exact ⟨rfl, (hbx2.more hb).below⟩
          · have b2 : decide (Y < 0) = false := by simpa using t2
            by_cases t3 : (1000 : Int) < Y
            · have b3 : decide ((1000 : Int) < Y) = true := by simpa using t3
              go_enter Tryd.func13, Tryd.ntmps13
              go_wp2_with fail
              generalize w.alloc (.cells #[.int .i64 K, .slice A n c] 24) = X at hbx ⊢
              have hbx0 := hbx
              clear hbx
              refine (law_small K A n c L _ (hA.below hbx0.below)).mono ?_
              rintro e w1 ⟨rfl, hb⟩
              rw [HD.out]
              have hbx1 := hbx0.more hb
              clear hbx0 hb
              have c0 := hbx1.c0
              have c1 := hbx1.c1
              go_wp2_with fail
              refine (ref_Check K A n c L _ (hA.below hbx1.below)).mono ?_
              rintro e w2 ⟨rfl, hb⟩
              rw [HE.out]
              clear c0 c1
              have hbx2 := hbx1.more hb
              clear hbx1 hb
              have c0 := hbx2.c0
              have c1 := hbx2.c1
              go_wp2_with fail
              refine (law_known _).mono ?_
              rintro e w3 ⟨rfl, hb⟩
              go_wp2_with fail
              go_ret
              exact ⟨rfl, (hbx2.more hb).below⟩
            · have b3 : decide ((1000 : Int) < Y) = false := by simpa using t3
              obtain ⟨j, rfl⟩ : ∃ j : Nat, S = (j : Int) := ⟨S.toNat, by omega⟩
              obtain ⟨y, rfl⟩ : ∃ y : Nat, Y = (y : Int) := ⟨Y.toNat, by omega⟩
              have hjn : j < n := by omega
              have hy1 : (y : Int) ≤ 1000 := by omega
              have j0 : (0 : Int) ≤ (j : Int) := by omega
              have j1 : (j : Int) < (n : Int) := by omega
              have HSM := Lib.hid (tame_of_check HE.out)
              go_enter Tryd.func13, Tryd.ntmps13
              go_wp2_with fail
              generalize w.alloc (.cells #[.int .i64 K, .slice A n c] 24) = X at hbx ⊢
              have hbx0 := hbx
              clear hbx
              refine (law_small K A n c L _ (hA.below hbx0.below)).mono ?_
              rintro e w1 ⟨rfl, hb⟩
              rw [HD.out]
              have hbx1 := hbx0.more hb
              clear hbx0 hb
              have c0 := hbx1.c0
              have c1 := hbx1.c1
              go_wp2_with fail
              refine (ref_Check K A n c L _ (hA.below hbx1.below)).mono ?_
              rintro e w2 ⟨rfl, hb⟩
              rw [HE.out]
              clear c0 c1
              have hbx2 := hbx1.more hb
              clear hbx1 hb
              have c0 := hbx2.c0
              have c1 := hbx2.c1
              go_wp2_with fail
              clear c0 c1
              refine (cref_Copy K A n c L _ (hA.below hbx2.below)).mono ?_
              rintro e u1 ⟨A1, n1, r1, rfl, hL1, hb1⟩
              obtain rfl : n = n1 := by rw [← hL1.len, hLn.out]
              have hsz1 := hb1.size
              have hC0 : Cpy w2 (u1.alloc (.cells #[.int .i64 K, .slice A1 n r1] 24)) u1.heap.size K A1 n r1 L := ⟨hL1.alloc _, Blk.new _ _ _, fun q hq => Nat.ne_of_lt (hL1.row.lt q hq).2, hb1.alloc hsz1 _⟩
              have hr1 := hL1.row.cap
              clear hb1 hL1
              go_upto_region 4 with fail
              generalize u1.alloc (.cells #[.int .i64 K, .slice A1 n r1] 24) = W0 at hC0 ⊢
              have c0 := (hbx2.more hC0.old).c0
              have c1 := (hbx2.more hC0.old).c1
              go_wp2_with fail
              refine (ref_Crossings K A n c L _ (hA.below (hbx2.more hC0.old).below)).mono ?_
              rintro e w3 ⟨rfl, hb⟩
              have hC1 := hC0.next hb
              clear hC0 hb c0 c1
              obtain ⟨N, hN⟩ : ∃ N : Nat, cN L n / 2 = N := ⟨_, rfl⟩
              have HN := Lib.hid hN
              rw [hN]
              have hN2 : N ≤ 1000 := by have := cN_le L n; omega
              clear hN
              have hst : Hid (Upto (nmLt (cycS N (y : Int))) L L 0) := Lib.hid (Upto.zero _ _)
              go_wp2_with fail
              go_loopw [9] (fun v9 wr => ∃ (i : Nat) (Lw : List Lt), i ≤ n ∧ v9 = .int .i64 i ∧ Cpy w2 wr u1.heap.size K A1 n r1 Lw ∧ Hid (Upto (nmLt (cycS N (y : Int))) L Lw i)) (fun v9 _ => n - (intOf v9).toNat)
              case atStart => exact ⟨0, L, Nat.zero_le _, rfl, hC1, hst⟩
              case round =>
                obtain ⟨i, Lw, hi, rfl, hC, HU⟩ := hrel
                clear hC1 hst
                have o1 := hC.c1
                have hszr := hC.old.size
                by_cases hlt : i < n
                · obtain ⟨gg, o, rfl, hgg, hx, hok⟩ := hC.own.lets.at_ hlt
                  have hlw : la Lw i = la L i := by rw [HU.out.2 i (by rw [hLn.out]; exact hlt), if_neg (by omega)]
                  have hgi : Lw[i]? = some (la L i) := by rw [la_get (by rw [hC.own.len]; exact hlt), hlw]
                  rw [hlw] at hx hok
                  obtain ⟨y0, y1, y2, y3, y4, y5⟩ := hx
                  have i0 : (0 : Int) ≤ (i : Int) := by omega
                  have i1 : (i : Int) < (n : Int) := by omega
                  have f3 := hC.free hlt (i := 3) (by omega)
                  have m1 : gg ≠ u1.heap.size := hC.far gg rfl
                  have HOK := Lib.hid hok
                  have HGI := Lib.hid hgi
                  clear hok hgi hlw
                  by_cases hk1 : (la L i).kind = 2
                  · have q1 : ((la L i).kind == 2) = true := by simpa using hk1
                    have hc2 := isC_t hk1
                    obtain ⟨d1, d2⟩ := cross_ids HE.out (by rw [hLn.out]; exact hlt) hc2
                    rw [hLn.out, HN.out] at d2
                    obtain ⟨D, hD⟩ : ∃ D, (la L i).id = D := ⟨_, rfl⟩
                    rw [hD] at d1 d2 y3
                    have hcb := cyc_bd (N := N) (y := (y : Int)) (d := D) (by omega)
                    obtain ⟨t, ht⟩ : ∃ t, cycS N (y : Int) D = t := ⟨_, rfl⟩
                    rw [ht] at hcb
                    have hte : (D + (y : Int)) % (N : Int) = t - 1 := by rw [← ht]; unfold cycS; omega
                    have htm : (D + (y : Int)).tmod (N : Int) = t - 1 := by rw [Int.tmod_eq_emod_of_nonneg (by omega)]; exact hte
                    have v1 : IntKind.i64.wrap (D + (y : Int)) = D + (y : Int) := IntWalk.i64_in _ (by omega)
                    have v2 : IntKind.i64.wrap (t - 1) = t - 1 := IntWalk.i64_in _ (by omega)
                    have v3 : IntKind.i64.wrap (t - 1 + 1) = t := by rw [show t - 1 + 1 = t by omega]; exact IntWalk.i64_in _ (by omega)
                    have v4 : t - 1 + 1 = t := by omega
                    have v5 : IntKind.i64.wrap t = t := IntWalk.i64_in _ (by omega)
                    have z1 : ¬ N = 0 := by omega
                    have z2 : ¬ (N : Int) = 0 := by omega
                    have hok1 : LtOk { la L i with id := t } := ⟨HOK.out.kind, HOK.out.gate, HOK.out.rank, ⟨by simp only []; omega, by simp only []; omega⟩, HOK.out.sign⟩
                    have HU1 := Lib.hid (HU.out.set (by rw [hLn.out]; exact hlt) (x := { la L i with id := t }) (by rw [nm_c hc2, hD, ht]))
                    have hC2 := hC.put (i := 3) (u := .int .i64 t) (x' := { la L i with id := t }) HGI.out (by omega) rfl hok1 rfl
                    clear HU hk1 hc2 hok1 hC hD ht hcb
                    go_wp2_with fail
                    go_region
                    go_wp2_with fail
                    go_roundw
                    case rel => exact ⟨i + 1, _, by omega, by go_num, by first | exact hC2 | exact hC2.next (Below.refl _ _).drew, HU1⟩
                    case measure => simp [intOf]; omega
                  · have q1 : ((la L i).kind == 2) = false := by simpa using hk1
                    have HU1 := Lib.hid (HU.out.skip (nm_n (s := cycS N (y : Int)) (x := la L i) (isC_f hk1)))
                    clear hk1 HU
                    go_wp2_with fail
                    go_roundw
                    case rel => exact ⟨i + 1, Lw, by omega, by go_num, hC, HU1⟩
                    case measure => simp [intOf]; omega
                · have hin : i = n := by omega
                  have hU := HU.out
                  rw [hin, ← hLn.out] at hU
                  have hLf := hU.all
                  rw [hLf] at hC
                  have i1 : ¬ (i : Int) < (n : Int) := by omega
                  have HN2 := Lib.hid (show N = cN L L.length / 2 by rw [hLn.out]; exact HN.out.symm)
                  have HM := Lib.hid (show L.map (nmLt (cycS N (y : Int))) = L.map (nmLt (cycS (cN L L.length / 2) (y : Int))) by rw [← HN2.out])
                  rw [HM.out] at hC
                  have HC1 := Lib.hid (cyc_check HE.out (y : Int))
                  have HY1 := Lib.hid (cyc_norm HE.out (y : Int))
                  obtain ⟨X1, hX1⟩ : ∃ X1, L.map (nmLt (cycS (cN L L.length / 2) (y : Int))) = X1 := ⟨_, rfl⟩
                  rw [hX1] at hC HC1 HY1
                  have hB1 := hC.bk
                  have hM1 := hC.own.lets
                  have hc1 := hr1
                  have hbxR := hbx2.more hC.old
                  have hbx9 := hbxR
                  clear hU hLf hin HU hX1 hC hbxR hbx2
                  go_upto_region 10 with fail
                  clear o1
                  have c0 := ((hB1.cell 0).trans rfl : wr.cell? ⟨u1.heap.size, 0, none⟩ = some (.int .i64 K))
                  have c1 := ((hB1.cell 1).trans rfl : wr.cell? ⟨u1.heap.size, 1, none⟩ = some (.slice A1 n r1))
                  go_wp2_with fail
                  refine (code_back K A1 n r1 X1 _ hM1 hc1).mono ?_
                  intro e u2 hg
                  obtain ⟨A2, n2, r2, rfl, hL2, hb⟩ := givesCE_ok HC1.out hg
                  clear hg c0 c1
                  replace hB1 := (hB1.below hb hB1.lt).alloc (.cells #[.int .i64 K, .slice A2 n2 r2] 24)
                  replace hM1 := (hM1.below hb).alloc (.cells #[.int .i64 K, .slice A2 n2 r2] 24)
                  have hbn := (hbx9.more hb).alloc (.cells #[.int .i64 K, .slice A2 n2 r2] 24)
                  have hB2 := Blk.new u2 24 #[.int .i64 K, .slice A2 n2 r2]
                  have hM2 := hL2.lets.alloc (.cells #[.int .i64 K, .slice A2 n2 r2] 24)
                  have hc2 := hL2.row.cap
                  go_upto_region 11 with fail
                  generalize u2.alloc (.cells #[.int .i64 K, .slice A2 n2 r2] 24) = W2 at hB1 hM1 hbn hB2 hM2 ⊢
                  have hbx10 := hbn
                  clear hbn hbx9 hL2 hb
                  have HC2 := Lib.hid (check_back HC1.out)
                  have HY2 := Lib.hid ((n_back_norm HC1.out).trans HY1.out)
                  have c0 := hbx10.c0
                  have c1 := hbx10.c1
                  go_wp2_with fail
                  refine (code_Normal K A n c L _ (hA.below hbx10.below) hc).mono ?_
                  intro e u3 hg
                  obtain ⟨A3, n3, r3, rfl, hL3, hb⟩ := givesCE_ok HE.out hg
                  clear hg c0 c1
                  replace hB1 := (hB1.below hb hB1.lt).alloc (.cells #[.int .i64 K, .slice A3 n3 r3] 24)
                  replace hM1 := (hM1.below hb).alloc (.cells #[.int .i64 K, .slice A3 n3 r3] 24)
                  replace hB2 := (hB2.below hb hB2.lt).alloc (.cells #[.int .i64 K, .slice A3 n3 r3] 24)
                  replace hM2 := (hM2.below hb).alloc (.cells #[.int .i64 K, .slice A3 n3 r3] 24)
                  have hbn := (hbx10.more hb).alloc (.cells #[.int .i64 K, .slice A3 n3 r3] 24)
                  have hB3 := Blk.new u3 24 #[.int .i64 K, .slice A3 n3 r3]
                  have hM3 := hL3.lets.alloc (.cells #[.int .i64 K, .slice A3 n3 r3] 24)
                  have hc3 := hL3.row.cap
                  go_upto_region 12 with fail
                  generalize u3.alloc (.cells #[.int .i64 K, .slice A3 n3 r3] 24) = W3 at hB1 hM1 hB2 hM2 hbn hB3 hM3 ⊢
                  have hbx11 := hbn
                  clear hbn hbx10 hL3 hb
                  have HC3 := Lib.hid (check_norm HE.out)
                  have c0 := ((hB3.cell 0).trans rfl : W3.cell? ⟨u3.heap.size, 0, none⟩ = some (.int .i64 K))
                  have c1 := ((hB3.cell 1).trans rfl : W3.cell? ⟨u3.heap.size, 1, none⟩ = some (.slice A3 n3 r3))
                  go_wp2_with fail
                  refine (code_Normal K A3 n3 r3 (normL L) _ hM3 hc3).mono ?_
                  intro e u4 hg
                  obtain ⟨A4, n4, r4, rfl, hL4, hb⟩ := givesCE_ok HC3.out hg
                  clear hg c0 c1
                  replace hB1 := (hB1.below hb hB1.lt).alloc (.cells #[.int .i64 K, .slice A4 n4 r4] 24)
                  replace hM1 := (hM1.below hb).alloc (.cells #[.int .i64 K, .slice A4 n4 r4] 24)
                  replace hB2 := (hB2.below hb hB2.lt).alloc (.cells #[.int .i64 K, .slice A4 n4 r4] 24)
                  replace hM2 := (hM2.below hb).alloc (.cells #[.int .i64 K, .slice A4 n4 r4] 24)
                  replace hB3 := (hB3.below hb hB3.lt).alloc (.cells #[.int .i64 K, .slice A4 n4 r4] 24)
                  replace hM3 := (hM3.below hb).alloc (.cells #[.int .i64 K, .slice A4 n4 r4] 24)
                  have hbn := (hbx11.more hb).alloc (.cells #[.int .i64 K, .slice A4 n4 r4] 24)
                  have hB4 := Blk.new u4 24 #[.int .i64 K, .slice A4 n4 r4]
                  have hM4 := hL4.lets.alloc (.cells #[.int .i64 K, .slice A4 n4 r4] 24)
                  have hc4 := hL4.row.cap
                  go_upto_region 13 with fail
                  generalize u4.alloc (.cells #[.int .i64 K, .slice A4 n4 r4] 24) = W4 at hB1 hM1 hB2 hM2 hB3 hM3 hbn hB4 hM4 ⊢
                  have hbx12 := hbn
                  clear hbn hbx11 hL4 hb
                  have c0 := ((hB3.cell 0).trans rfl : W4.cell? ⟨u3.heap.size, 0, none⟩ = some (.int .i64 K))
                  have c1 := ((hB3.cell 1).trans rfl : W4.cell? ⟨u3.heap.size, 1, none⟩ = some (.slice A3 n3 r3))
                  have e0 := ((hB4.cell 0).trans rfl : W4.cell? ⟨u4.heap.size, 0, none⟩ = some (.int .i64 K))
                  have e1 := ((hB4.cell 1).trans rfl : W4.cell? ⟨u4.heap.size, 1, none⟩ = some (.slice A4 n4 r4))
                  go_wp2_with fail
                  clear c0 c1 e0 e1
                  refine (equal_yes K A3 A4 n3 r3 n4 r4 (normL L) (normL (normL L)) _ hM3 hM4 (n_norm_norm HE.out).symm).mono ?_
                  rintro e x1 ⟨rfl, hb⟩
                  replace hB1 := hB1.below hb hB1.lt
                  replace hM1 := hM1.below hb
                  replace hB2 := hB2.below hb hB2.lt
                  replace hM2 := hM2.below hb
                  replace hB3 := hB3.below hb hB3.lt
                  replace hM3 := hM3.below hb
                  replace hB4 := hB4.below hb hB4.lt
                  replace hM4 := hM4.below hb
                  have hbx13 := hbx12.more hb
                  clear hbx12 hb
                  have c0 := ((hB1.cell 0).trans rfl : x1.cell? ⟨u1.heap.size, 0, none⟩ = some (.int .i64 K))
                  have c1 := ((hB1.cell 1).trans rfl : x1.cell? ⟨u1.heap.size, 1, none⟩ = some (.slice A1 n r1))
                  have e0 := hbx13.c0
                  have e1 := hbx13.c1
                  go_wp2_with fail
                  clear c0 c1 e0 e1
                  refine (law_equal_yes K A1 A n r1 n c X1 L _ hM1 (hA.below hbx13.below) hc1 hc HC1.out HE.out (HY1.out)).mono ?_
                  rintro e x2 ⟨rfl, hb⟩
                  replace hB1 := hB1.below hb hB1.lt
                  replace hM1 := hM1.below hb
                  replace hB2 := hB2.below hb hB2.lt
                  replace hM2 := hM2.below hb
                  replace hB3 := hB3.below hb hB3.lt
                  replace hM3 := hM3.below hb
                  replace hB4 := hB4.below hb hB4.lt
                  replace hM4 := hM4.below hb
                  have hbx14 := hbx13.more hb
                  clear hbx13 hb
                  have c0 := ((hB2.cell 0).trans rfl : x2.cell? ⟨u2.heap.size, 0, none⟩ = some (.int .i64 K))
                  have c1 := ((hB2.cell 1).trans rfl : x2.cell? ⟨u2.heap.size, 1, none⟩ = some (.slice A2 n2 r2))
                  have e0 := hbx14.c0
                  have e1 := hbx14.c1
                  go_wp2_with fail
                  clear c0 c1 e0 e1
                  refine (law_equal_yes K A2 A n2 r2 n c (backL X1) L _ hM2 (hA.below hbx14.below) hc2 hc HC2.out HE.out (HY2.out)).mono ?_
                  rintro e x3 ⟨rfl, hb⟩
                  replace hB1 := hB1.below hb hB1.lt
                  replace hM1 := hM1.below hb
                  replace hB2 := hB2.below hb hB2.lt
                  replace hM2 := hM2.below hb
                  replace hB3 := hB3.below hb hB3.lt
                  replace hM3 := hM3.below hb
                  replace hB4 := hB4.below hb hB4.lt
                  replace hM4 := hM4.below hb
                  have hbx15 := hbx14.more hb
                  clear hbx14 hb
                  have c0 := hbx15.c0
                  have c1 := hbx15.c1
                  go_wp2_with fail
                  clear c0 c1
                  by_cases hgood : isP (la L j) = true ∧ dwn L j = true
                  · have HG := Lib.hid hgood
                    have HST := Lib.hid (staE_ok HE.out (i := (j : Int)) ⟨by omega, by rw [hLn.out]; omega, by rw [Int.toNat_natCast]; exact hgood.1, by rw [Int.toNat_natCast]; exact hgood.2⟩)
                    clear hgood
                    refine (code_Start K (j : Int) hS A n c L _ (hA.below hbx15.below) hc).mono ?_
                    intro e u5 hg
                    have hg2 : GivesCE x3 K (rotT L j) 0 e u5 := by
                      unfold staK staM at hg
                      rw [if_pos HST.out, if_pos HST.out, HST.out, Int.toNat_natCast] at hg
                      exact hg
                    obtain ⟨A5, n5, r5, rfl, hL5, hb⟩ := hg2
                    clear hg
                    replace hB1 := (hB1.below hb hB1.lt).alloc (.cells #[.int .i64 K, .slice A5 n5 r5] 24)
                    replace hM1 := (hM1.below hb).alloc (.cells #[.int .i64 K, .slice A5 n5 r5] 24)
                    replace hB2 := (hB2.below hb hB2.lt).alloc (.cells #[.int .i64 K, .slice A5 n5 r5] 24)
                    replace hM2 := (hM2.below hb).alloc (.cells #[.int .i64 K, .slice A5 n5 r5] 24)
                    replace hB3 := (hB3.below hb hB3.lt).alloc (.cells #[.int .i64 K, .slice A5 n5 r5] 24)
                    replace hM3 := (hM3.below hb).alloc (.cells #[.int .i64 K, .slice A5 n5 r5] 24)
                    replace hB4 := (hB4.below hb hB4.lt).alloc (.cells #[.int .i64 K, .slice A5 n5 r5] 24)
                    replace hM4 := (hM4.below hb).alloc (.cells #[.int .i64 K, .slice A5 n5 r5] 24)
                    have hbn := (hbx15.more hb).alloc (.cells #[.int .i64 K, .slice A5 n5 r5] 24)
                    have hB5 := Blk.new u5 24 #[.int .i64 K, .slice A5 n5 r5]
                    have hM5 := hL5.lets.alloc (.cells #[.int .i64 K, .slice A5 n5 r5] 24)
                    have hc5 := hL5.row.cap
                    go_upto_region 16 with fail
                    generalize u5.alloc (.cells #[.int .i64 K, .slice A5 n5 r5] 24) = W5 at hB1 hM1 hB2 hM2 hB3 hM3 hB4 hM4 hbn hB5 hM5 ⊢
                    have hbx16 := hbn
                    clear hbn hbx15 hL5 hb
                    have HC5 := Lib.hid (check_start HE.out (by rw [hLn.out]; exact hjn) HG.out.1 HG.out.2)
                    have HY5 := Lib.hid (n_start_norm HE.out (by rw [hLn.out]; exact hjn) HG.out.1 HG.out.2)
                    obtain ⟨ga, oa, rfl, hga, hxa, _⟩ := Lets.at_ (hA.below hbx16.below) hjn
                    obtain ⟨z0, z1, z2, z3, z4, z5⟩ := hxa
                    have hk1 : (la L j).kind = 1 := by have := HG.out.1; unfold isP at this; simpa using this
                    have q1 : ((la L j).kind != 1) = false := by simpa using hk1
                    clear hk1
                    have c0 := hbx16.c0
                    have c1 := hbx16.c1
                    go_wp2_with fail
                    clear c0 c1 z0 z1 z2 z3 z4 z5 hga
                    refine (cref_Down_at K j (some ⟨ga, oa, none⟩) n c L true HG.out.2 _ (hA.below hbx16.below) (by omega)).mono ?_
                    rintro e x4 ⟨rfl, hb⟩
                    replace hB1 := hB1.below hb hB1.lt
                    replace hM1 := hM1.below hb
                    replace hB2 := hB2.below hb hB2.lt
                    replace hM2 := hM2.below hb
                    replace hB3 := hB3.below hb hB3.lt
                    replace hM3 := hM3.below hb
                    replace hB4 := hB4.below hb hB4.lt
                    replace hM4 := hM4.below hb
                    replace hB5 := hB5.below hb hB5.lt
                    replace hM5 := hM5.below hb
                    have hbx17 := hbx16.more hb
                    clear hbx16 hb
                    have c0 := ((hB5.cell 0).trans rfl : x4.cell? ⟨u5.heap.size, 0, none⟩ = some (.int .i64 K))
                    have c1 := ((hB5.cell 1).trans rfl : x4.cell? ⟨u5.heap.size, 1, none⟩ = some (.slice A5 n5 r5))
                    have e0 := hbx17.c0
                    have e1 := hbx17.c1
                    go_wp2_with fail
                    clear c0 c1 e0 e1
                    have HSY := Lib.hid (same_yes HC5.out HE.out HY5.out)
                    refine (code_Same K K A5 (some ⟨ga, oa, none⟩) n5 r5 n c (rotT L j) L _ hM5 (hA.below hbx17.below) hc5 hc).mono ?_
                    rintro e x5 ⟨rfl, hb⟩
                    rw [HSY.out.1, HSY.out.2]
                    replace hB1 := hB1.below hb hB1.lt
                    replace hM1 := hM1.below hb
                    replace hB2 := hB2.below hb hB2.lt
                    replace hM2 := hM2.below hb
                    replace hB3 := hB3.below hb hB3.lt
                    replace hM3 := hM3.below hb
                    replace hB4 := hB4.below hb hB4.lt
                    replace hM4 := hM4.below hb
                    replace hB5 := hB5.below hb hB5.lt
                    replace hM5 := hM5.below hb
                    have hbx18 := hbx17.more hb
                    clear hbx17 hb
                    go_upto_region 19 with fail
                    have k1 : ∀ wx, Below x5.heap.size x5 wx → Calls Tryd.prog 64 #[.agg #[.int .i64 K, .slice (some ⟨ga, oa, none⟩) n c], .int .i64 j] wx (GivesC wx K (rotT L j)) := fun wx h => cref_Start K j (some ⟨ga, oa, none⟩) n c L wx (hA.below (hbx18.more h).below) hc hjn
                    have k2 : ∀ wx, Below x5.heap.size x5 wx → Calls Tryd.prog 61 #[.agg #[.int .i64 K, .slice A5 n5 r5], .agg #[.int .i64 K, .slice (some ⟨ga, oa, none⟩) n c]] wx fun e w' => e = .returned (.bool true) ∧ Below wx.heap.size wx w' := fun wx h => law_equal_yes K A5 (some ⟨ga, oa, none⟩) n5 r5 n c (rotT L j) L wx (hM5.below h) (hA.below (hbx18.more h).below) hc5 hc HC5.out HE.out HY5.out
                    have k3 : ∀ wx A6 n6 c6 B, Below x5.heap.size x5 wx → OwnL wx B A6 n6 c6 (rotT L j) → Calls Tryd.prog 34 #[.agg #[.int .i64 K, .slice A5 n5 r5], .agg #[.int .i64 K, .slice A6 n6 c6]] wx fun e w' => e = .returned (.bool true) ∧ Below wx.heap.size wx w' := fun wx A6 n6 c6 B h h6 => equal_yes K A5 A6 n5 r5 n6 c6 _ _ wx (hM5.below h) h6.lets rfl
                    have K1 := Lib.hid k1
                    have K2 := Lib.hid k2
                    have K3 := Lib.hid k3
                    clear k1 k2 k3
                    have k0 : ∀ wx, Below x5.heap.size x5 wx → (Below x5.heap.size x5 wx ∧ wx.cell? ⟨w.heap.size, 0, none⟩ = some (.int .i64 K) ∧ wx.cell? ⟨w.heap.size, 1, none⟩ = some (.slice (some ⟨ga, oa, none⟩) n c) ∧ wx.cell? ⟨u5.heap.size, 0, none⟩ = some (.int .i64 K) ∧ wx.cell? ⟨u5.heap.size, 1, none⟩ = some (.slice A5 n5 r5)) := fun wx h => ⟨h, (hbx18.more h).c0, (hbx18.more h).c1, ((hB5.below h hB5.lt).cell 0).trans rfl, ((hB5.below h hB5.lt).cell 1).trans rfl⟩
                    have KP := Lib.hid k0
                    have hbw := hbx18.below
                    clear k0
                    have g0 := (KP.out x5 (Below.refl _ _)).2.1
                    have g1 := (KP.out x5 (Below.refl _ _)).2.2.1
                    have g2 := (KP.out x5 (Below.refl _ _)).2.2.2.1
                    have g3 := (KP.out x5 (Below.refl _ _)).2.2.2.2
                    first
                      | go_region_held3 (fun wx => Below x5.heap.size x5 wx ∧ wx.cell? ⟨w.heap.size, 0, none⟩ = some (.int .i64 K) ∧ wx.cell? ⟨w.heap.size, 1, none⟩ = some (.slice (some ⟨ga, oa, none⟩) n c) ∧ wx.cell? ⟨u5.heap.size, 0, none⟩ = some (.int .i64 K) ∧ wx.cell? ⟨u5.heap.size, 1, none⟩ = some (.slice A5 n5 r5)) (first | assumption | exact KP.out _ (Below.refl _ _).drew | exact KP.out _ (below_chain (And.left (by assumption)) (by assumption) (Below.size (And.left (by assumption)))))
                          (first
                            | ((go_at_call 64; refine (K1.out _ (And.left (by assumption))).mono ?_; rintro e y1 ⟨B1, m1, d1, rfl, hO1, hy1⟩))
                            | ((go_at_call 61; refine (K2.out _ (And.left (by assumption))).mono ?_; rintro e y2 ⟨rfl, hy2⟩))
                            | ((go_at_call 34; ((with_reducible refine (K3.out _ _ _ _ _ (And.left (by assumption)) hO1).mono ?_); rintro e y3 ⟨rfl, hy3⟩)))
                            | ((go_at_call 22; refine (law_known _).mono ?_; rintro e zz ⟨rfl, hzz⟩)))
                      | fail
                    all_goals
                      have hbf := And.left (show Below x5.heap.size x5 _ ∧ _ by assumption)
                      clear g0 g1 g2 g3
                      go_wp2_with fail
                      go_ret
                      exact ⟨rfl, below_chain hbw hbf (by have := hbw.size; omega)⟩
                  · have HST := Lib.hid (staE_bad HE.out (i := (j : Int)) (fun h => hgood (by rw [Int.toNat_natCast] at h; exact h.2.2)))
                    refine (code_Start K (j : Int) hS A n c L _ (hA.below hbx15.below) hc).mono ?_
                    intro e u5 hg
                    have hg2 : GivesCE x3 0 [] 2 e u5 := by
                      unfold staK staM at hg
                      rw [if_neg (by rw [HST.out]; simp), if_neg (by rw [HST.out]; simp), HST.out] at hg
                      exact hg
                    obtain ⟨A5, n5, r5, rfl, hL5, hb⟩ := hg2
                    clear hg
                    replace hB1 := (hB1.below hb hB1.lt).alloc (.cells #[.int .i64 0, .slice A5 n5 r5] 24)
                    replace hM1 := (hM1.below hb).alloc (.cells #[.int .i64 0, .slice A5 n5 r5] 24)
                    replace hB2 := (hB2.below hb hB2.lt).alloc (.cells #[.int .i64 0, .slice A5 n5 r5] 24)
                    replace hM2 := (hM2.below hb).alloc (.cells #[.int .i64 0, .slice A5 n5 r5] 24)
                    replace hB3 := (hB3.below hb hB3.lt).alloc (.cells #[.int .i64 0, .slice A5 n5 r5] 24)
                    replace hM3 := (hM3.below hb).alloc (.cells #[.int .i64 0, .slice A5 n5 r5] 24)
                    replace hB4 := (hB4.below hb hB4.lt).alloc (.cells #[.int .i64 0, .slice A5 n5 r5] 24)
                    replace hM4 := (hM4.below hb).alloc (.cells #[.int .i64 0, .slice A5 n5 r5] 24)
                    have hbn := (hbx15.more hb).alloc (.cells #[.int .i64 0, .slice A5 n5 r5] 24)
                    have hB5 := Blk.new u5 24 #[.int .i64 0, .slice A5 n5 r5]
                    have hM5 := hL5.lets.alloc (.cells #[.int .i64 0, .slice A5 n5 r5] 24)
                    have hc5 := hL5.row.cap
                    go_upto_region 16 with fail
                    generalize u5.alloc (.cells #[.int .i64 0, .slice A5 n5 r5] 24) = W5 at hB1 hM1 hB2 hM2 hB3 hM3 hB4 hM4 hbn hB5 hM5 ⊢
                    have hbx16 := hbn
                    clear hbn hbx15 hL5 hb
                    obtain ⟨ga, oa, rfl, hga, hxa, _⟩ := Lets.at_ (hA.below hbx16.below) hjn
                    obtain ⟨z0, z1, z2, z3, z4, z5⟩ := hxa
                    by_cases hk1 : (la L j).kind = 1
                    · have q1 : ((la L j).kind != 1) = false := by simpa using hk1
                      have HDN := Lib.hid (show dwn L j = false by
                        cases hd : dwn L j with
                        | false => rfl
                        | true => exact absurd ⟨isP_t hk1, hd⟩ hgood)
                      clear hk1 hgood
                      have c0 := hbx16.c0
                      have c1 := hbx16.c1
                      go_wp2_with fail
                      clear c0 c1 z0 z1 z2 z3 z4 z5 hga
                      refine (cref_Down_at K j (some ⟨ga, oa, none⟩) n c L false HDN.out _ (hA.below hbx16.below) (by omega)).mono ?_
                      rintro e x4 ⟨rfl, hb⟩
                      replace hB1 := hB1.below hb hB1.lt
                      replace hM1 := hM1.below hb
                      replace hB2 := hB2.below hb hB2.lt
                      replace hM2 := hM2.below hb
                      replace hB3 := hB3.below hb hB3.lt
                      replace hM3 := hM3.below hb
                      replace hB4 := hB4.below hb hB4.lt
                      replace hM4 := hM4.below hb
                      replace hB5 := hB5.below hb hB5.lt
                      replace hM5 := hM5.below hb
                      have hbx17 := hbx16.more hb
                      clear hbx16 hb
                      have c0 := ((hB5.cell 0).trans rfl : x4.cell? ⟨u5.heap.size, 0, none⟩ = some (.int .i64 0))
                      have c1 := ((hB5.cell 1).trans rfl : x4.cell? ⟨u5.heap.size, 1, none⟩ = some (.slice A5 n5 r5))
                      go_wp2_with fail
                      clear c0 c1
                      refine (equal_z A5 n5 r5 _ hM5).mono ?_
                      rintro e y1 ⟨rfl, hb⟩
                      replace hB1 := hB1.below hb hB1.lt
                      replace hM1 := hM1.below hb
                      replace hB2 := hB2.below hb hB2.lt
                      replace hM2 := hM2.below hb
                      replace hB3 := hB3.below hb hB3.lt
                      replace hM3 := hM3.below hb
                      replace hB4 := hB4.below hb hB4.lt
                      replace hM4 := hM4.below hb
                      replace hB5 := hB5.below hb hB5.lt
                      replace hM5 := hM5.below hb
                      have hbx18 := hbx17.more hb
                      clear hbx17 hb
                      go_wp2_with fail
                      refine (law_known _).mono ?_
                      rintro e zz1 ⟨rfl, hb⟩
                      go_wp2_with fail
                      go_ret
                      exact ⟨rfl, (hbx18.more hb).below⟩
                    · have q1 : ((la L j).kind != 1) = true := by simpa using hk1
                      clear hk1 hgood
                      have e0 := hbx16.c0
                      have e1 := hbx16.c1
                      have c0 := ((hB5.cell 0).trans rfl : W5.cell? ⟨u5.heap.size, 0, none⟩ = some (.int .i64 0))
                      have c1 := ((hB5.cell 1).trans rfl : W5.cell? ⟨u5.heap.size, 1, none⟩ = some (.slice A5 n5 r5))
                      go_wp2_with fail
                      clear c0 c1
                      refine (equal_z A5 n5 r5 _ hM5).mono ?_
                      rintro e y2 ⟨rfl, hb⟩
                      replace hB1 := hB1.below hb hB1.lt
                      replace hM1 := hM1.below hb
                      replace hB2 := hB2.below hb hB2.lt
                      replace hM2 := hM2.below hb
                      replace hB3 := hB3.below hb hB3.lt
                      replace hM3 := hM3.below hb
                      replace hB4 := hB4.below hb hB4.lt
                      replace hM4 := hM4.below hb
                      replace hB5 := hB5.below hb hB5.lt
                      replace hM5 := hM5.below hb
                      have hbx17 := hbx16.more hb
                      clear hbx16 hb
                      go_wp2_with fail
                      refine (law_known _).mono ?_
                      rintro e zz2 ⟨rfl, hb⟩
                      go_wp2_with fail
                      go_ret
                      exact ⟨rfl, (hbx17.more hb).below⟩
    · have q : (E != 0) = true := by simpa using hz
      clear hz
      go_enter Tryd.func13, Tryd.ntmps13
      go_wp2_with fail
      generalize w.alloc (.cells #[.int .i64 K, .slice A n c] 24) = X at hbx ⊢
      have hbx0 := hbx
      clear hbx
      refine (law_small K A n c L _ (hA.below hbx0.below)).mono ?_
      rintro e w1 ⟨rfl, hb⟩
      rw [HD.out]
      have hbx1 := hbx0.more hb
      clear hbx0 hb
      have c0 := hbx1.c0
      have c1 := hbx1.c1
      go_wp2_with fail
      refine (ref_Check K A n c L _ (hA.below hbx1.below)).mono ?_
      rintro e w2 ⟨rfl, hb⟩
      rw [HE.out]
      clear c0 c1
      have hbx2 := hbx1.more hb
      clear hbx1 hb
      go_wp2_with fail
      refine (law_known _).mono ?_
      rintro e w3 ⟨rfl, hb⟩
      go_wp2_with fail
      go_ret
      exact ⟨rfl, (hbx2.more hb).below⟩
  · have HD := Lib.hid (show decide (n ≤ 60) = false by simpa using h60)
    go_enter Tryd.func13, Tryd.ntmps13
    go_wp2_with fail
    generalize w.alloc (.cells #[.int .i64 K, .slice A n c] 24) = X at hbx ⊢
    have hbx0 := hbx
    clear hbx
    refine (law_small K A n c L _ (hA.below hbx0.below)).mono ?_
    rintro e w1 ⟨rfl, hb⟩
    rw [HD.out]
    have hbx1 := hbx0.more hb
    clear hbx0 hb
    go_wp2_with fail
    refine (law_known _).mono ?_
    rintro e w2 ⟨rfl, hb⟩
    go_wp2_with fail
    go_ret
    exact ⟨rfl, (hbx1.more hb).below⟩
end Go.Proofs.YtkjcmppaapbabaaDoor
