/-
  The law CodePrints returns true and leaves what was there. Conditions: the argument reads as a code; the library's tables stand as they were laid.
-/
import Derived.Test.YtkjcmppaapbabaaDoorJN
import Derived.Test.YtkjcmppaapbabaaDoorJL
import Derived.Test.YtkjcmppaapbabaaDoorKH
namespace Go.Proofs.YtkjcmppaapbabaaDoor
open Go.RowKit
theorem parse_print {K : Int} {L : List Lt} (h : checkE K L = 0) (hL : L.length ≤ 60) (hK : I64 K) (hok : ∀ x ∈ L, LtOk x) : parseR (printS K L) = (K, L, 0) := by
  have hl := printS_len hK hok
  unfold parseR
  rw [if_neg (by omega), parseF_print hK (nice_of_check h hok)]
  simp only []
  unfold errP
  rw [if_pos h]
theorem same_code (K : Int) (A B : Option Addr) (n c m d : Nat) (L : List Lt) (w : World) (hA : Lets w A n L) (hB : Lets w B m L) :
    Calls Tryd.prog 34 #[.agg #[.int .i64 K, .slice A n c], .agg #[.int .i64 K, .slice B m d]] w fun e w' => e = .returned (.bool true) ∧ Below w.heap.size w w' := by
  have := cref_Equal K K A B n c m d L L w hA hB
  rw [show (K == K && decide (L = L)) = true by simp] at this
  exact this
set_option maxRecDepth 100000 in
set_option maxHeartbeats 12800000 in
theorem codePrints_any (K : Int) (hK : I64 K) (A : Option Addr) (n c : Nat) (L : List Lt) (w : World) (hA : Lets w A n L) (ht : Tabs w) :
    Calls Tryd.prog 18 #[.agg #[.int .i64 K, .slice A n c]] w fun e w' => e = .returned (.bool true) ∧ Below w.heap.size w w' := by
  have hLn := Lib.hid hA.len
  have hbx := Boxed.refl w K A n c
  have HKI := Lib.hid hK
  have HFT := Lib.hid hA.fits
  clear hK
  by_cases h60 : n ≤ 60
  · have hd : decide (n ≤ 60) = true := by simpa using h60
    have HD := Lib.hid hd
    clear hd
    obtain ⟨E, hE⟩ : ∃ E, checkE K L = E := ⟨_, rfl⟩
    have HE := Lib.hid hE
    clear hE
    have n0 : ((bA (printS K L)).toList == (bA (printS K L)).toList) = true := beq_self_eq_true _
    obtain ⟨T, hT⟩ : ∃ T, T = bA (printS K L) := ⟨_, rfl⟩
    rw [← hT] at n0
    have HT := Lib.hid hT
    clear hT
    have n1 : (!(T.toList == T.toList)) = false := by rw [n0]; rfl
    by_cases hz : E = 0
    · subst hz
      go_enter Tryd.func18, Tryd.ntmps18
      go_wp2_with fail
      generalize w.alloc (.cells #[.int .i64 K, .slice A n c] 24) = X at hbx ⊢
      have hbx0 := hbx
      clear hbx
      refine (law_small K A n c L _ (hA.below hbx0.below)).mono ?_
      rintro e w1 ⟨rfl, hb⟩
      rw [HD.out]
      have hbx1 := hbx0.more hb
      clear hbx0 hb
      have c0 := hbx1.c0
      have c1 := hbx1.c1
      go_wp2_with fail
      clear c0 c1
      refine (code_PrintA K A n c L _ (hA.below hbx1.below) (by omega) HKI.out (ht.below hbx1.below)).mono ?_
      rintro e w2 ⟨rfl, hb⟩
      rw [← HT.out]
      have hbx2 := hbx1.more hb
      clear hbx1 hb
      have c0 := hbx2.c0
      have c1 := hbx2.c1
      go_wp2_with fail
      clear c0 c1
      refine (cref_PrintA K A n c L _ (hA.below hbx2.below) (by omega) HKI.out).mono ?_
      rintro e w3 ⟨rfl, hb⟩
      rw [← HT.out]
      have hbx3 := hbx2.more hb
      clear hbx2 hb
      have c0 := hbx3.c0
      have c1 := hbx3.c1
      go_wp2_with fail
      clear c0 c1
      refine (ref_Check K A n c L _ (hA.below hbx3.below)).mono ?_
      rintro e w4 ⟨rfl, hb⟩
      rw [HE.out]
      have hbx4 := hbx3.more hb
      clear hbx3 hb
      have c0 := hbx4.c0
      have c1 := hbx4.c1
      have hpp := parse_print HE.out (by rw [hLn.out]; exact h60) HKI.out HFT.out
      have hcp := code_ParseA (printS K L) _ (ht.below hbx4.below)
      rw [hpp, ← HT.out] at hcp
      have HCP := Lib.hid hcp
      clear hpp hcp
      go_wp2_with fail
      clear c0 c1
      refine HCP.out.mono ?_
      rintro e w5 ⟨A5, n5, c5, rfl, hO5, hb⟩
      have hL5 := hO5.lets
      simp only [] at hL5
      have hbx5 := hbx4.more hb
      clear hbx4 hb
      have hL6 := hL5.alloc (.cells #[.int .i64 K, .slice A5 n5 c5] 24)
      have hb6 := hbx5.alloc (.cells #[.int .i64 K, .slice A5 n5 c5] 24)
      have hk6 := Blk.new w5 24 #[.int .i64 K, .slice A5 n5 c5]
      clear HCP hO5 hL5 hbx5
      go_upto_region 9 with fail
      generalize w5.alloc (.cells #[.int .i64 K, .slice A5 n5 c5] 24) = V at hL6 hb6 hk6 ⊢
      have c0 := hb6.c0
      have c1 := hb6.c1
      obtain ⟨d0, d1, _, _⟩ := hk6.two
      go_wp2_with fail
      clear c0 c1 d0 d1 hk6
      refine (same_code K A5 A n5 c5 n c L _ hL6 (hA.below hb6.below)).mono ?_
      rintro e w6 ⟨rfl, hb⟩
      have hb7 := hb6.more hb
      clear hb hb6 hL6
      go_wp2_with fail
      refine (law_known _).mono ?_
      rintro e w7 ⟨rfl, hb⟩
      go_wp2_with fail
      go_ret
      exact ⟨rfl, (hb7.more hb).below⟩
    · have q : (E != 0) = true := by simpa using hz
      clear hz
      go_enter Tryd.func18, Tryd.ntmps18
      go_wp2_with fail
      generalize w.alloc (.cells #[.int .i64 K, .slice A n c] 24) = X at hbx ⊢
      have hbx0 := hbx
      clear hbx
      refine (law_small K A n c L _ (hA.below hbx0.below)).mono ?_
      rintro e w1 ⟨rfl, hb⟩
      rw [HD.out]
      have hbx1 := hbx0.more hb
      clear hbx0 hb
      have c0 := hbx1.c0
      have c1 := hbx1.c1
      go_wp2_with fail
      clear c0 c1
      refine (code_PrintA K A n c L _ (hA.below hbx1.below) (by omega) HKI.out (ht.below hbx1.below)).mono ?_
      rintro e w2 ⟨rfl, hb⟩
      rw [← HT.out]
      have hbx2 := hbx1.more hb
      clear hbx1 hb
      have c0 := hbx2.c0
      have c1 := hbx2.c1
      go_wp2_with fail
      clear c0 c1
      refine (cref_PrintA K A n c L _ (hA.below hbx2.below) (by omega) HKI.out).mono ?_
      rintro e w3 ⟨rfl, hb⟩
      rw [← HT.out]
      have hbx3 := hbx2.more hb
      clear hbx2 hb
      have c0 := hbx3.c0
      have c1 := hbx3.c1
      go_wp2_with fail
      clear c0 c1
      refine (ref_Check K A n c L _ (hA.below hbx3.below)).mono ?_
      rintro e w4 ⟨rfl, hb⟩
      rw [HE.out]
      have hbx4 := hbx3.more hb
      clear hbx3 hb
      have c0 := hbx4.c0
      have c1 := hbx4.c1
      go_wp2_with fail
      refine (law_known _).mono ?_
      rintro e w5 ⟨rfl, hb⟩
      go_wp2_with fail
      go_ret
      exact ⟨rfl, (hbx4.more hb).below⟩
  · have hd : decide (n ≤ 60) = false := by simpa using h60
    have HD := Lib.hid hd
    clear hd
    go_enter Tryd.func18, Tryd.ntmps18
    go_wp2_with fail
    generalize w.alloc (.cells #[.int .i64 K, .slice A n c] 24) = X at hbx ⊢
    have hbx0 := hbx
    clear hbx
    refine (law_small K A n c L _ (hA.below hbx0.below)).mono ?_
    rintro e w1 ⟨rfl, hb⟩
    rw [HD.out]
    have hbx1 := hbx0.more hb
    clear hbx0 hb
    go_wp2_with fail
    refine (law_known _).mono ?_
    rintro e w2 ⟨rfl, hb⟩
    go_wp2_with fail
    go_ret
    exact ⟨rfl, (hbx1.more hb).below⟩
end Go.Proofs.YtkjcmppaapbabaaDoor
