/-
  The law CodeFingers returns true and leaves what was there. Condition: the arguments read.
-/
import Derived.Test.YtkjcmppaapbabaaDoorN6
import Derived.Test.YtkjcmppaapbabaaDoorL8
import Derived.Test.YtkjcmppaapbabaaDoorT4
namespace Go.Proofs.YtkjcmppaapbabaaDoor
open Go.RowKit
set_option maxRecDepth 100000 in
set_option maxHeartbeats 6400000 in
theorem codeFingers_walk (K f pg pl : Int) (hf64 : I64 f) (hpg : I64 pg) (hpl : I64 pl) (A : Option Addr) (n c : Nat) (L : List Lt) (w : World) (hA : Lets w A n L) (_hc : n ≤ c) :
    Calls Tryd.prog 7 #[.agg #[.int .i64 K, .slice A n c], .int .i64 f, .agg #[.int .i64 pg, .int .i64 pl]] w fun e w' => e = .returned (.bool true) ∧ Below w.heap.size w w' := by
  have hbc0 := build_code0
  have hLn := Lib.hid hA.len
  have hbx : Boxed w ((w.alloc (.cells #[.int .i64 K, .slice A n c] 24)).alloc (.cells #[.int .i64 pg, .int .i64 pl] 50)) K A n c := (Boxed.refl w K A n c).alloc _
  have hP0 : Blk ((w.alloc (.cells #[.int .i64 K, .slice A n c] 24)).alloc (.cells #[.int .i64 pg, .int .i64 pl] 50)) (w.heap.size + 1) 50 #[.int .i64 pg, .int .i64 pl] := heap_alloc2_new w _ _
  by_cases h60 : n ≤ 60
  · have hd : decide (n ≤ 60) = true := by simpa using h60
    have HD := Lib.hid hd
    clear hd
    obtain ⟨E, hE⟩ : ∃ E, checkE K L = E := ⟨_, rfl⟩
    have HE := Lib.hid hE
    clear hE
    by_cases hz : E = 0
    · subst hz
      have HSM := Lib.hid (tame_of_check HE.out)
      have hK0 := HSM.out.lo
      have hK4 := HSM.out.hi
      go_enter Tryd.func7, Tryd.ntmps7
      go_wp2_with fail
      generalize (w.alloc (.cells #[.int .i64 K, .slice A n c] 24)).alloc (.cells #[.int .i64 pg, .int .i64 pl] 50) = X at hbx hP0 ⊢
      refine (law_small K A n c L _ (hA.below hbx.below)).mono ?_
      rintro e w1 ⟨rfl, hb1⟩
      rw [HD.out]
      have hP1 := hP0.below hb1 hP0.lt
      have hbx1 := hbx.more hb1
      have c0 := hbx1.c0
      have c1 := hbx1.c1
      clear hbx hP0 hb1
      go_wp2_with fail
      refine (ref_Check K A n c L _ (hA.below hbx1.below)).mono ?_
      rintro e w2 ⟨rfl, hb2⟩
      rw [HE.out]
      have hP2 := hP1.below hb2 hP1.lt
      have hbx2 := hbx1.more hb2
      clear hbx1 hP1 hb2 c0 c1
      have c0 := hbx2.c0
      have c1 := hbx2.c1
      go_wp2_with fail
      refine (code_Forget K f hf64 A n c L _ (hA.below hbx2.below)).mono ?_
      rintro e w3 ⟨A3, n3, c3, rfl, hL3, hb3⟩
      have hP3 := hP2.below hb3 hP2.lt
      have hbx3 := hbx2.more hb3
      clear hbx2 hP2 hb3 c0 c1
      have c0 := hbx3.c0
      have c1 := hbx3.c1
      have hA3 : Blk (w3.alloc (.cells #[.int .i64 (forK K L f), .slice A3 n3 c3] 24)) w3.heap.size 24 #[.int .i64 (forK K L f), .slice A3 n3 c3] := Blk.new _ _ _
      have hL3' := hL3.alloc (.cells #[.int .i64 (forK K L f), .slice A3 n3 c3] 24)
      have hP4 := hP3.alloc (.cells #[.int .i64 (forK K L f), .slice A3 n3 c3] 24)
      have hbx4 := hbx3.alloc (.cells #[.int .i64 (forK K L f), .slice A3 n3 c3] 24)
      go_upto_region 4 with fail
      generalize w3.alloc (.cells #[.int .i64 (forK K L f), .slice A3 n3 c3] 24) = W at hA3 hL3' hP4 hbx4 ⊢
      clear hL3 hP3 hbx3 c0 c1
      have c0 := hbx4.c0
      have c1 := hbx4.c1
      have a0 : W.cell? ⟨w3.heap.size, 0, none⟩ = some (.int .i64 (forK K L f)) := (hA3.cell 0).trans rfl
      have a1 : W.cell? ⟨w3.heap.size, 1, none⟩ = some (.slice A3 n3 c3) := (hA3.cell 1).trans rfl
      go_cut [32] (fun v32 wx => v32 = .bool (decide (f < 1 ∨ K < f)) ∧ wx = W)
      case first =>
        by_cases h1 : f < 1
        · have q1 : decide (f < 1) = true := by simpa using h1
          have hf := Lib.hid (show decide (f < 1 ∨ K < f) = true by simp; omega)
          clear h1
          go_wp2_with fail
          go_meet
          case rel => exact ⟨by rw [hf.out], rfl⟩
        · have q1 : decide (f < 1) = false := by simpa using h1
          have hf := Lib.hid (show decide (f < 1 ∨ K < f) = decide (K < f) by simp [h1])
          clear h1
          go_wp2_with fail
          go_meet
          case rel => exact ⟨by rw [hf.out], rfl⟩
      case rest =>
        obtain ⟨rfl, hv⟩ := hcut
        obtain rfl := hv.symm
        go_upto_if 32 with fail
        go_cut [6, 8, 32] (fun v6 _ _ wx => v6 = .bool false ∧ Below W.heap.size W wx)
        case first =>
          cases hfr : decide (f < 1 ∨ K < f) with
          | true =>
            have hE2 := Lib.hid (show forE K L f = 2 by unfold forE; rw [HE.out, if_neg (by simp), if_pos (by simpa using hfr)])
            have hq := Lib.hid (show (forK K L f == 0 && decide (forL K L f = [])) = true by unfold forK forL; rw [hE2.out]; simp)
            have HFR := Lib.hid hfr
            clear hfr
            rw [hE2.out]
            go_wp2_with fail
            refine (cref_Equal (forK K L f) 0 A3 none n3 c3 0 0 (forL K L f) [] _ hL3'.lets (Lets.nil _ _)).mono ?_
            rintro e w5 ⟨rfl, hb5⟩
            rw [hq.out]
            clear c0 c1 a0 a1
            go_wp2_with fail
            go_meet
            case rel => exact ⟨rfl, hb5⟩
          | false =>
            have hE2 := Lib.hid (show forE K L f = 0 by unfold forE; rw [HE.out, if_neg (by simp), if_neg (by simpa using hfr)])
            have hfr' : ¬(f < 1 ∨ K < f) := by simpa using hfr
            obtain ⟨fn, hfn⟩ : ∃ fn : Nat, f = (fn : Int) := ⟨f.toNat, by omega⟩
            subst hfn
            have hq := Lib.hid (show (forK K L fn == K - 1 && decide (forL K L fn = forgetL L fn)) = true by unfold forK forL; rw [hE2.out]; simp)
            have k1 : ∀ wx, Below W.heap.size W wx → Calls Tryd.prog 37 #[.agg #[.int .i64 K, .slice A n c], .int .i64 (fn : Int)] wx (GivesC wx (K - 1) (forgetL L fn)) := fun wx h => cref_Forget K fn A n c L wx (hA.below (hbx4.more h).below) HSM.out (by omega) (by omega)
            have k2 : ∀ wy A5 n5 c5 B, Below W.heap.size W wy → OwnL wy B A5 n5 c5 (forgetL L fn) → Calls Tryd.prog 34 #[.agg #[.int .i64 (forK K L fn), .slice A3 n3 c3], .agg #[.int .i64 (K - 1), .slice A5 n5 c5]] wy fun e w' => e = .returned (.bool true) ∧ Below wy.heap.size wy w' := fun wy A5 n5 c5 B h h5 => by
              have := cref_Equal (forK K L fn) (K - 1) A3 A5 n3 c3 n5 c5 (forL K L fn) (forgetL L fn) wy (hL3'.lets.below h) h5.lets
              rw [hq.out] at this
              exact this
            have k3 : ∀ wx, Below W.heap.size W wx → (Below W.heap.size W wx ∧ wx.cell? ⟨w.heap.size, 0, none⟩ = some (.int .i64 K) ∧ wx.cell? ⟨w.heap.size, 1, none⟩ = some (.slice A n c) ∧ wx.cell? ⟨w3.heap.size, 0, none⟩ = some (.int .i64 (forK K L fn)) ∧ wx.cell? ⟨w3.heap.size, 1, none⟩ = some (.slice A3 n3 c3)) := fun wx h =>
              ⟨h, (hbx4.more h).c0, (hbx4.more h).c1, ((hA3.below h hA3.lt).cell 0).trans rfl, ((hA3.below h hA3.lt).cell 1).trans rfl⟩
            have K1 := Lib.hid k1
            have K2 := Lib.hid k2
            have KP := Lib.hid k3
            clear k1 k2 k3 hfr hfr'
            rw [hE2.out]
            go_wp2_with fail
            first
              | go_region_held3 (fun wx => Below W.heap.size W wx ∧ wx.cell? ⟨w.heap.size, 0, none⟩ = some (.int .i64 K) ∧ wx.cell? ⟨w.heap.size, 1, none⟩ = some (.slice A n c) ∧ wx.cell? ⟨w3.heap.size, 0, none⟩ = some (.int .i64 (forK K L fn)) ∧ wx.cell? ⟨w3.heap.size, 1, none⟩ = some (.slice A3 n3 c3)) (first | assumption | exact KP.out _ (Below.refl _ _).drew | exact KP.out _ (by assumption))
                  (first
                    | ((go_at_call 37; refine (K1.out _ (And.left (by assumption))).mono ?_; rintro e wy ⟨A5, n5, c5, rfl, hL5, hb5⟩; have hbz : Below W.heap.size W wy := below_chain (Below.refl W.heap.size W).drew hb5 (Nat.le_refl _)))
                    | ((go_at_call 34; refine (K2.out _ _ _ _ _ (And.left (by assumption)) (by assumption)).mono ?_; rintro e wz ⟨rfl, hb6⟩; have hby : Below W.heap.size W wz := below_chain hbz hb6 hbz.size)))
              | fail
            all_goals
              have hbf := And.left (show Below W.heap.size W _ ∧ _ by assumption)
              clear c0 c1 a0 a1
              go_wp2_with fail
              go_meet
              case rel => exact ⟨rfl, hbf⟩
        case rest =>
          obtain ⟨rfl, hbV⟩ := hcut
          clear c0 c1 a0 a1
          have hP5 := hP4.below hbV hP4.lt
          have hbx5 := hbx4.more hbV
          clear hP4 hbx4 hbV hA3 hL3'
          have c0 := hbx5.c0
          have c1 := hbx5.c1
          have p0 := (hP5.cell 0).trans rfl
          have p1 := (hP5.cell 1).trans rfl
          go_wp2_with fail
          refine (code_Insert K pg pl hpg hpl A n c L _ (hA.below hbx5.below)).mono ?_
          rintro e w6 ⟨A6, n6, c6, rfl, hL6, hb6⟩
          have hP6 := hP5.below hb6 hP5.lt
          have hbx6 := hbx5.more hb6
          clear hbx5 hP5 hb6 c0 c1 p0 p1
          have c0 := hbx6.c0
          have c1 := hbx6.c1
          have p0 : w6.cell? ⟨w.heap.size + 1, 0, none⟩ = some (.int .i64 pg) := (hP6.cell 0).trans rfl
          have p1 : w6.cell? ⟨w.heap.size + 1, 1, none⟩ = some (.int .i64 pl) := (hP6.cell 1).trans rfl
          have hB6 : Blk (w6.alloc (.cells #[.int .i64 (insK K L pg pl), .slice A6 n6 c6] 24)) w6.heap.size 24 #[.int .i64 (insK K L pg pl), .slice A6 n6 c6] := Blk.new _ _ _
          have hL7 := hL6.alloc (.cells #[.int .i64 (insK K L pg pl), .slice A6 n6 c6] 24)
          have hP7 := hP6.alloc (.cells #[.int .i64 (insK K L pg pl), .slice A6 n6 c6] 24)
          have hbx7 := hbx6.alloc (.cells #[.int .i64 (insK K L pg pl), .slice A6 n6 c6] 24)
          go_upto_region 10 with fail
          generalize w6.alloc (.cells #[.int .i64 (insK K L pg pl), .slice A6 n6 c6] 24) = V at hB6 hL7 hP7 hbx7 ⊢
          clear hL6 hP6 hbx6 c0 c1 p0 p1
          have c0 := hbx7.c0
          have c1 := hbx7.c1
          have p0 : V.cell? ⟨w.heap.size + 1, 0, none⟩ = some (.int .i64 pg) := (hP7.cell 0).trans rfl
          have p1 : V.cell? ⟨w.heap.size + 1, 1, none⟩ = some (.int .i64 pl) := (hP7.cell 1).trans rfl
          have a0 : V.cell? ⟨w6.heap.size, 0, none⟩ = some (.int .i64 (insK K L pg pl)) := (hB6.cell 0).trans rfl
          have a1 : V.cell? ⟨w6.heap.size, 1, none⟩ = some (.slice A6 n6 c6) := (hB6.cell 1).trans rfl
          go_wp2_with fail
          refine (cref_Place K pg pl A n c L _ (hA.below hbx7.below)).mono ?_
          rintro e w8 ⟨rfl, hb8⟩
          have hP8 := hP7.below hb8 hP7.lt
          have hbx8 := hbx7.more hb8
          have hB8 := hB6.below hb8 hB6.lt
          have hL8 := hL7.next hb8
          clear hbx7 hP7 hB6 hL7 hb8 c0 c1 p0 p1 a0 a1
          have c0 := hbx8.c0
          have c1 := hbx8.c1
          have p0 : w8.cell? ⟨w.heap.size + 1, 0, none⟩ = some (.int .i64 pg) := (hP8.cell 0).trans rfl
          have p1 : w8.cell? ⟨w.heap.size + 1, 1, none⟩ = some (.int .i64 pl) := (hP8.cell 1).trans rfl
          have a0 : w8.cell? ⟨w6.heap.size, 0, none⟩ = some (.int .i64 (insK K L pg pl)) := (hB8.cell 0).trans rfl
          have a1 : w8.cell? ⟨w6.heap.size, 1, none⟩ = some (.slice A6 n6 c6) := (hB8.cell 1).trans rfl
          have hbw := hbx8.below
          by_cases hpl2 : placeB K L pg pl = true ∧ K < 40
          · obtain ⟨hpb, hK39⟩ := hpl2
            have hE2 := Lib.hid (insE_ok HE.out hpb hK39)
            have hpi := place_iff.1 hpb
            have hgn : gN L pg L.length ≤ L.length := countTo_le _ _
            have hn60 : L.length ≤ 60 := by rw [hLn.out]; exact h60
            have hq := Lib.hid (show (insK K L pg pl == K + 1 && decide (insM K L pg pl = insertL L pg pl)) = true by unfold insK insM; rw [hE2.out]; simp)
            have q40 : (K == 40) = false := by simp; omega
            have k1 : ∀ wx, Below w8.heap.size w8 wx → Calls Tryd.prog 40 #[.agg #[.int .i64 K, .slice A n c], .agg #[.int .i64 pg, .int .i64 pl]] wx (GivesC wx (K + 1) (insertL L pg pl)) := fun wx h => cref_Insert K pg pl A n c L wx (hA.below (hbx8.more h).below) HSM.out hpi.2.2.1 (by omega)
            have k2 : ∀ wy A5 n5 c5 B, Below w8.heap.size w8 wy → OwnL wy B A5 n5 c5 (insertL L pg pl) → Calls Tryd.prog 34 #[.agg #[.int .i64 (insK K L pg pl), .slice A6 n6 c6], .agg #[.int .i64 (K + 1), .slice A5 n5 c5]] wy fun e w' => e = .returned (.bool true) ∧ Below wy.heap.size wy w' := fun wy A5 n5 c5 B h h5 => by
              have := cref_Equal (insK K L pg pl) (K + 1) A6 A5 n6 c6 n5 c5 (insM K L pg pl) (insertL L pg pl) wy (hL8.lets.below h) h5.lets
              rw [hq.out] at this
              exact this
            have k3 : ∀ wx, Below w8.heap.size w8 wx → (Below w8.heap.size w8 wx ∧ wx.cell? ⟨w.heap.size, 0, none⟩ = some (.int .i64 K) ∧ wx.cell? ⟨w.heap.size, 1, none⟩ = some (.slice A n c) ∧ wx.cell? ⟨w.heap.size + 1, 0, none⟩ = some (.int .i64 pg) ∧ wx.cell? ⟨w.heap.size + 1, 1, none⟩ = some (.int .i64 pl) ∧ wx.cell? ⟨w6.heap.size, 0, none⟩ = some (.int .i64 (insK K L pg pl)) ∧ wx.cell? ⟨w6.heap.size, 1, none⟩ = some (.slice A6 n6 c6)) := fun wx h =>
              ⟨h, (hbx8.more h).c0, (hbx8.more h).c1, ((hP8.below h hP8.lt).cell 0).trans rfl, ((hP8.below h hP8.lt).cell 1).trans rfl, ((hB8.below h hB8.lt).cell 0).trans rfl, ((hB8.below h hB8.lt).cell 1).trans rfl⟩
            have K1 := Lib.hid k1
            have K2 := Lib.hid k2
            have KP := Lib.hid k3
            have HPB := Lib.hid hpb
            clear k1 k2 k3 hpi hgn hn60 hpb
            rw [HPB.out, hE2.out]
            go_wp2_with fail
            first
              | go_region_held3 (fun wx => Below w8.heap.size w8 wx ∧ wx.cell? ⟨w.heap.size, 0, none⟩ = some (.int .i64 K) ∧ wx.cell? ⟨w.heap.size, 1, none⟩ = some (.slice A n c) ∧ wx.cell? ⟨w.heap.size + 1, 0, none⟩ = some (.int .i64 pg) ∧ wx.cell? ⟨w.heap.size + 1, 1, none⟩ = some (.int .i64 pl) ∧ wx.cell? ⟨w6.heap.size, 0, none⟩ = some (.int .i64 (insK K L pg pl)) ∧ wx.cell? ⟨w6.heap.size, 1, none⟩ = some (.slice A6 n6 c6)) (first | assumption | exact KP.out _ (Below.refl _ _).drew | exact KP.out _ (by assumption))
                  (first
                    | ((go_at_call 40; refine (K1.out _ (And.left (by assumption))).mono ?_; rintro e wy ⟨A5, n5, c5, rfl, hL5, hb5⟩; have hbz : Below w8.heap.size w8 wy := below_chain (Below.refl w8.heap.size w8).drew hb5 (Nat.le_refl _)))
                    | ((go_at_call 34; refine (K2.out _ _ _ _ _ (And.left (by assumption)) (by assumption)).mono ?_; rintro e wz ⟨rfl, hb6⟩; have hby : Below w8.heap.size w8 wz := below_chain hbz hb6 hbz.size))
                    | ((go_at_call 22; refine (law_known _).mono ?_; rintro e wq ⟨rfl, hb9⟩; have hbq : Below w8.heap.size w8 wq := below_chain hby hb9 hby.size)))
              | fail
            all_goals
              have hbf := And.left (show Below w8.heap.size w8 _ ∧ _ by assumption)
              clear c0 c1 a0 a1 p0 p1
              go_wp2_with fail
              go_ret
              exact ⟨rfl, below_chain hbw hbf (by have := hbw.size; omega)⟩
          · have hE2 := Lib.hid (insE_bad HE.out hpl2)
            have hq := Lib.hid (show (insK K L pg pl == 0 && decide (insM K L pg pl = [])) = true by unfold insK insM; rw [hE2.out]; simp)
            have hall : placeB K L pg pl = false ∨ (placeB K L pg pl = true ∧ (K == 40) = true) := by
              cases hb : placeB K L pg pl with
              | false => exact .inl rfl
              | true => right; refine ⟨rfl, ?_⟩; simp; rw [hb] at hpl2; simp at hpl2; omega
            clear hpl2
            rcases hall with hpb | ⟨hpb, q40⟩
            all_goals
              rw [hpb, hE2.out]
              have HPB := Lib.hid hpb
              clear hpb
              go_wp2_with fail
              refine (cref_Equal (insK K L pg pl) 0 A6 none n6 c6 0 0 (insM K L pg pl) [] _ hL8.lets (Lets.nil _ _)).mono ?_
              rintro e w9 ⟨rfl, hb9⟩
              rw [hq.out]
              go_wp2_with fail
              refine (law_known _).mono ?_
              rintro e w10 ⟨rfl, hb10⟩
              clear c0 c1 a0 a1 p0 p1
              go_wp2_with fail
              go_ret
              exact ⟨rfl, below_chain hbw (below_chain hb9 hb10 hb9.size) (by have := hbw.size; omega)⟩
    · have q : (E != 0) = true := by simpa using hz
      clear hz
      go_enter Tryd.func7, Tryd.ntmps7
      go_wp2_with fail
      generalize (w.alloc (.cells #[.int .i64 K, .slice A n c] 24)).alloc (.cells #[.int .i64 pg, .int .i64 pl] 50) = X at hbx hP0 ⊢
      refine (law_small K A n c L _ (hA.below hbx.below)).mono ?_
      rintro e w1 ⟨rfl, hb1⟩
      rw [HD.out]
      have hbx1 := hbx.more hb1
      have c0 := hbx1.c0
      have c1 := hbx1.c1
      clear hbx hP0 hb1
      go_wp2_with fail
      refine (ref_Check K A n c L _ (hA.below hbx1.below)).mono ?_
      rintro e w2 ⟨rfl, hb2⟩
      rw [HE.out]
      have hbx2 := hbx1.more hb2
      clear hbx1 hb2 c0 c1
      go_wp2_with fail
      refine (law_known _).mono ?_
      rintro e w3 ⟨rfl, hb3⟩
      go_wp2_with fail
      go_ret
      exact ⟨rfl, (hbx2.more hb3).below⟩
  · have hd : decide (n ≤ 60) = false := by simpa using h60
    have HD := Lib.hid hd
    clear hd
    go_enter Tryd.func7, Tryd.ntmps7
    go_wp2_with fail
    generalize (w.alloc (.cells #[.int .i64 K, .slice A n c] 24)).alloc (.cells #[.int .i64 pg, .int .i64 pl] 50) = X at hbx hP0 ⊢
    refine (law_small K A n c L _ (hA.below hbx.below)).mono ?_
    rintro e w1 ⟨rfl, hb1⟩
    rw [HD.out]
    have hbx1 := hbx.more hb1
    clear hbx hP0 hb1
    go_wp2_with fail
    refine (law_known _).mono ?_
    rintro e w2 ⟨rfl, hb2⟩
    go_wp2_with fail
    go_ret
    exact ⟨rfl, (hbx1.more hb2).below⟩
theorem codeFingers_any (K : Int) (A : Option Addr) (n c : Nat) (L : List Lt) (f pg pl : Int) (w : World) (hA : Lets w A n L) (hc : n ≤ c) (hf64 : I64 f) (hpg : I64 pg) (hpl : I64 pl) :
    Calls Tryd.prog 7 #[.agg #[.int .i64 K, .slice A n c], .int .i64 f, .agg #[.int .i64 pg, .int .i64 pl]] w fun e w' => e = .returned (.bool true) ∧ Below w.heap.size w w' := codeFingers_walk K f pg pl hf64 hpg hpl A n c L w hA hc
end Go.Proofs.YtkjcmppaapbabaaDoor
