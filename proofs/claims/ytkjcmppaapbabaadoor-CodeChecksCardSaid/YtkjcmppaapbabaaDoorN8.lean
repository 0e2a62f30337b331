/-
  The law CodeChecks returns true and leaves what was there. Condition: the argument reads as a code.
-/
import Derived.Test.YtkjcmppaapbabaaDoorN6
import Derived.Test.YtkjcmppaapbabaaDoorL8
namespace Go.Proofs.YtkjcmppaapbabaaDoor
open Go.RowKit
set_option maxRecDepth 100000 in
set_option maxHeartbeats 6400000 in
theorem codeChecks_any (K : Int) (A : Option Addr) (n c : Nat) (L : List Lt) (w : World) (hA : Lets w A n L) (_hc : n ≤ c) :
    Calls Tryd.prog 4 #[.agg #[.int .i64 K, .slice A n c]] w fun e w' => e = .returned (.bool true) ∧ Below w.heap.size w w' := by
  have hbx := Boxed.refl w K A n c
  have hle := hA.le
  have hcn := cN_le L n
  have hpn := pN_le L n
  by_cases h60 : n ≤ 60
  · have hd : decide (n ≤ 60) = true := by simpa using h60
    have HD := Lib.hid hd
    clear hd
    go_enter Tryd.func4, Tryd.ntmps4
    go_wp2_with fail
    refine (law_small K A n c L _ (hA.below hbx.below)).mono ?_
    rintro e w1 ⟨rfl, hb1⟩
    rw [HD.out]
    have hb2 := hbx.more hb1
    have c0 := hb2.c0
    have c1 := hb2.c1
    clear hbx hb1
    go_wp2_with fail
    obtain ⟨E, hE⟩ : ∃ E, E = checkE K L := ⟨_, rfl⟩
    obtain ⟨p, hp⟩ : ∃ p : Int, p = (pN L n : Int) := ⟨_, rfl⟩
    obtain ⟨x, hx⟩ : ∃ x : Int, x = ((cN L n / 2 : Nat) : Int) := ⟨_, rfl⟩
    have k1 : ∀ w, Lets w A n L → Calls Tryd.prog 26 #[.agg #[.int .i64 K, .slice A n c]] w fun e w' => e = .returned (.int .i64 E) ∧ Below w.heap.size w w' := fun w h => by rw [hE]; exact code_Check K A n c L w h
    have k2 : ∀ w, Lets w A n L → Calls Tryd.prog 21 #[.agg #[.int .i64 K, .slice A n c]] w fun e w' => e = .returned (.int .i64 E) ∧ Below w.heap.size w w' := fun w h => by rw [hE]; exact ref_Check K A n c L w h
    have k3 : ∀ w, Lets w A n L → Calls Tryd.prog 27 #[.agg #[.int .i64 K, .slice A n c]] w fun e w' => e = .returned (.int .i64 p) ∧ Below w.heap.size w w' := fun w h => by rw [hp]; exact code_Passes K A n c L w h
    have k4 : ∀ w, Lets w A n L → Calls Tryd.prog 28 #[.agg #[.int .i64 K, .slice A n c]] w fun e w' => e = .returned (.int .i64 p) ∧ Below w.heap.size w w' := fun w h => by rw [hp]; exact ref_Passes K A n c L w h
    have k5 : ∀ w, Lets w A n L → Calls Tryd.prog 29 #[.agg #[.int .i64 K, .slice A n c]] w fun e w' => e = .returned (.int .i64 x) ∧ Below w.heap.size w w' := fun w h => by rw [hx]; exact code_Crossings K A n c L w h
    have k6 : ∀ w, Lets w A n L → Calls Tryd.prog 30 #[.agg #[.int .i64 K, .slice A n c]] w fun e w' => e = .returned (.int .i64 x) ∧ Below w.heap.size w w' := fun w h => by rw [hx]; exact ref_Crossings K A n c L w h
    have K1 := Lib.hid k1
    have K2 := Lib.hid k2
    have K3 := Lib.hid k3
    have K4 := Lib.hid k4
    have K5 := Lib.hid k5
    have K6 := Lib.hid k6
    have hA1 := hA.below hb2.below
    clear k1 k2 k3 k4 k5 k6 hE hp hx
    have KP := Lib.hid (show ∀ wx, Below w1.heap.size w1 wx → (Below w1.heap.size w1 wx ∧ wx.cell? ⟨w.heap.size, 0, none⟩ = some (.int .i64 K) ∧ wx.cell? ⟨w.heap.size, 1, none⟩ = some (.slice A n c)) from fun wx h => ⟨h, (hb2.more h).c0, (hb2.more h).c1⟩)
    first
      | go_region_held3 (fun wx => Below w1.heap.size w1 wx ∧ wx.cell? ⟨w.heap.size, 0, none⟩ = some (.int .i64 K) ∧ wx.cell? ⟨w.heap.size, 1, none⟩ = some (.slice A n c)) (first | assumption | exact KP.out _ (Below.refl _ _).drew | exact KP.out _ (below_chain (And.left (by assumption)) (by assumption) (Below.size (And.left (by assumption)))))
          (first
            | (go_at_call 26; refine (K1.out _ (hA1.below (And.left (by assumption)))).mono ?_; rintro e wx ⟨rfl, hb5⟩)
            | (go_at_call 21; refine (K2.out _ (hA1.below (And.left (by assumption)))).mono ?_; rintro e wx ⟨rfl, hb5⟩)
            | (go_at_call 27; refine (K3.out _ (hA1.below (And.left (by assumption)))).mono ?_; rintro e wx ⟨rfl, hb5⟩)
            | (go_at_call 28; refine (K4.out _ (hA1.below (And.left (by assumption)))).mono ?_; rintro e wx ⟨rfl, hb5⟩)
            | (go_at_call 29; refine (K5.out _ (hA1.below (And.left (by assumption)))).mono ?_; rintro e wx ⟨rfl, hb5⟩)
            | (go_at_call 30; refine (K6.out _ (hA1.below (And.left (by assumption)))).mono ?_; rintro e wx ⟨rfl, hb5⟩)
            | (go_at_call 22; refine (law_known _).mono ?_; rintro e wx ⟨rfl, hb5⟩))
      | fail
    all_goals
      have hbf := below_chain hb2.below (And.left (show Below w1.heap.size w1 _ ∧ _ by assumption)) (by have := hb2.size; omega)
      go_wp2_with fail
      go_ret
      exact ⟨rfl, hbf⟩
  · have hd : decide (n ≤ 60) = false := by simpa using h60
    have HD := Lib.hid hd
    clear hd
    by_cases h400 : n ≤ 400
    · have q : (n : Int) ≤ 400 := by omega
      go_enter Tryd.func4, Tryd.ntmps4
      go_wp2_with fail
      refine (law_small K A n c L _ (hA.below hbx.below)).mono ?_
      rintro e w1 ⟨rfl, hb1⟩
      rw [HD.out]
      have hb2 := hbx.more hb1
      have c0 := hb2.c0
      have c1 := hb2.c1
      clear hbx hb1
      go_wp2_with fail
      refine (law_known _).mono ?_
      rintro e w2 ⟨rfl, hb3⟩
      have hb4 := hb2.more hb3
      go_wp2_with fail
      go_ret
      exact ⟨rfl, hb4.below⟩
    · have q : decide ((n : Int) ≤ 400) = false := by simp; omega
      go_enter Tryd.func4, Tryd.ntmps4
      go_wp2_with fail
      refine (law_small K A n c L _ (hA.below hbx.below)).mono ?_
      rintro e w1 ⟨rfl, hb1⟩
      rw [HD.out]
      have hb2 := hbx.more hb1
      have c0 := hb2.c0
      have c1 := hb2.c1
      clear hbx hb1
      go_wp2_with fail
      obtain ⟨E, hE⟩ : ∃ E, E = checkE K L := ⟨_, rfl⟩
      obtain ⟨p, hp⟩ : ∃ p : Int, p = (pN L n : Int) := ⟨_, rfl⟩
      obtain ⟨x, hx⟩ : ∃ x : Int, x = ((cN L n / 2 : Nat) : Int) := ⟨_, rfl⟩
      have k1 : ∀ w, Lets w A n L → Calls Tryd.prog 26 #[.agg #[.int .i64 K, .slice A n c]] w fun e w' => e = .returned (.int .i64 E) ∧ Below w.heap.size w w' := fun w h => by rw [hE]; exact code_Check K A n c L w h
      have k2 : ∀ w, Lets w A n L → Calls Tryd.prog 21 #[.agg #[.int .i64 K, .slice A n c]] w fun e w' => e = .returned (.int .i64 E) ∧ Below w.heap.size w w' := fun w h => by rw [hE]; exact ref_Check K A n c L w h
      have k3 : ∀ w, Lets w A n L → Calls Tryd.prog 27 #[.agg #[.int .i64 K, .slice A n c]] w fun e w' => e = .returned (.int .i64 p) ∧ Below w.heap.size w w' := fun w h => by rw [hp]; exact code_Passes K A n c L w h
      have k4 : ∀ w, Lets w A n L → Calls Tryd.prog 28 #[.agg #[.int .i64 K, .slice A n c]] w fun e w' => e = .returned (.int .i64 p) ∧ Below w.heap.size w w' := fun w h => by rw [hp]; exact ref_Passes K A n c L w h
      have k5 : ∀ w, Lets w A n L → Calls Tryd.prog 29 #[.agg #[.int .i64 K, .slice A n c]] w fun e w' => e = .returned (.int .i64 x) ∧ Below w.heap.size w w' := fun w h => by rw [hx]; exact code_Crossings K A n c L w h
      have k6 : ∀ w, Lets w A n L → Calls Tryd.prog 30 #[.agg #[.int .i64 K, .slice A n c]] w fun e w' => e = .returned (.int .i64 x) ∧ Below w.heap.size w w' := fun w h => by rw [hx]; exact ref_Crossings K A n c L w h
      have K1 := Lib.hid k1
      have K2 := Lib.hid k2
      have K3 := Lib.hid k3
      have K4 := Lib.hid k4
      have K5 := Lib.hid k5
      have K6 := Lib.hid k6
      have hA1 := hA.below hb2.below
      clear k1 k2 k3 k4 k5 k6 hE hp hx
      have KP := Lib.hid (show ∀ wx, Below w1.heap.size w1 wx → (Below w1.heap.size w1 wx ∧ wx.cell? ⟨w.heap.size, 0, none⟩ = some (.int .i64 K) ∧ wx.cell? ⟨w.heap.size, 1, none⟩ = some (.slice A n c)) from fun wx h => ⟨h, (hb2.more h).c0, (hb2.more h).c1⟩)
      first
        | go_region_held3 (fun wx => Below w1.heap.size w1 wx ∧ wx.cell? ⟨w.heap.size, 0, none⟩ = some (.int .i64 K) ∧ wx.cell? ⟨w.heap.size, 1, none⟩ = some (.slice A n c)) (first | assumption | exact KP.out _ (Below.refl _ _).drew | exact KP.out _ (below_chain (And.left (by assumption)) (by assumption) (Below.size (And.left (by assumption)))))
            (first
              | (go_at_call 26; refine (K1.out _ (hA1.below (And.left (by assumption)))).mono ?_; rintro e wx ⟨rfl, hb5⟩)
              | (go_at_call 21; refine (K2.out _ (hA1.below (And.left (by assumption)))).mono ?_; rintro e wx ⟨rfl, hb5⟩)
              | (go_at_call 27; refine (K3.out _ (hA1.below (And.left (by assumption)))).mono ?_; rintro e wx ⟨rfl, hb5⟩)
              | (go_at_call 28; refine (K4.out _ (hA1.below (And.left (by assumption)))).mono ?_; rintro e wx ⟨rfl, hb5⟩)
              | (go_at_call 29; refine (K5.out _ (hA1.below (And.left (by assumption)))).mono ?_; rintro e wx ⟨rfl, hb5⟩)
              | (go_at_call 30; refine (K6.out _ (hA1.below (And.left (by assumption)))).mono ?_; rintro e wx ⟨rfl, hb5⟩)
              | (go_at_call 22; refine (law_known _).mono ?_; rintro e wx ⟨rfl, hb5⟩))
        | fail
      all_goals
        have hbf := below_chain hb2.below (And.left (show Below w1.heap.size w1 _ ∧ _ by assumption)) (by have := hb2.size; omega)
        go_wp2_with fail
        go_ret
        exact ⟨rfl, hbf⟩
end Go.Proofs.YtkjcmppaapbabaaDoor
