/-
  The law CodeSame returns true and leaves what was there. Condition: the arguments read as codes.
-/
import Derived.Test.YtkjcmppaapbabaaDoorJN
import Derived.Test.YtkjcmppaapbabaaDoorJL
import Derived.Test.YtkjcmppaapbabaaDoorJS
import Derived.Test.YtkjcmppaapbabaaDoorJR
namespace Go.Proofs.YtkjcmppaapbabaaDoor
open Go.RowKit
set_option maxRecDepth 100000 in
set_option maxHeartbeats 12800000 in
theorem codeSame_any (K1 : Int) (A : Option Addr) (n c : Nat) (L : List Lt) (K2 : Int) (B : Option Addr) (m d : Nat) (M : List Lt) (w : World) (hA : Lets w A n L) (hc : n ≤ c) (hB : Lets w B m M) (hd : m ≤ d) :
    Calls Tryd.prog 10 #[.agg #[.int .i64 K1, .slice A n c], .agg #[.int .i64 K2, .slice B m d]] w fun e w' => e = .returned (.bool true) ∧ Below w.heap.size w w' := by
  have hb2 : Below w.heap.size w ((w.alloc (.cells #[.int .i64 K1, .slice A n c] 24)).alloc (.cells #[.int .i64 K2, .slice B m d] 24)) := ((Below.refl _ _).alloc (Nat.le_refl _) _).alloc (by simp) _
  have bB : Blk ((w.alloc (.cells #[.int .i64 K1, .slice A n c] 24)).alloc (.cells #[.int .i64 K2, .slice B m d] 24)) (w.heap.size + 1) 24 #[.int .i64 K2, .slice B m d] := heap_alloc2_new w _ _
  have bA := (Blk.new w 24 #[.int .i64 K1, .slice A n c]).alloc (.cells #[.int .i64 K2, .slice B m d] 24)
  obtain ⟨E, hE⟩ : ∃ E, checkE K1 L = E := ⟨_, rfl⟩
  have HE := Lib.hid hE
  obtain ⟨F, hF⟩ : ∃ F, checkE K2 M = F := ⟨_, rfl⟩
  have HF := Lib.hid hF
  clear hE hF
  by_cases h0 : n ≤ 60
  · have HD1 := Lib.hid (show decide (n ≤ 60) = true by simpa using h0)
    clear h0
    by_cases h1 : m ≤ 60
    · have HD2 := Lib.hid (show decide (m ≤ 60) = true by simpa using h1)
      clear h1
      by_cases h2 : E = 0
      · subst h2
        by_cases h3 : F = 0
        · subst h3
          go_enter Tryd.func10, Tryd.ntmps10
          go_wp2_with fail
          generalize (w.alloc (.cells #[.int .i64 K1, .slice A n c] 24)).alloc (.cells #[.int .i64 K2, .slice B m d] 24) = X at hb2 bA bB ⊢
          refine (law_small K1 A n c L _ (hA.below hb2)).mono ?_
          rintro e w1 ⟨rfl, hb⟩
          rw [HD1.out]
          replace hb2 := below_chain hb2 hb hb2.size
          replace bA := bA.below hb bA.lt
          replace bB := bB.below hb bB.lt
          clear hb
          have a0 : w1.cell? ⟨w.heap.size, 0, none⟩ = some (.int .i64 K1) := (bA.cell 0).trans rfl
          have a1 : w1.cell? ⟨w.heap.size, 1, none⟩ = some (.slice A n c) := (bA.cell 1).trans rfl
          have b0 : w1.cell? ⟨w.heap.size + 1, 0, none⟩ = some (.int .i64 K2) := (bB.cell 0).trans rfl
          have b1 : w1.cell? ⟨w.heap.size + 1, 1, none⟩ = some (.slice B m d) := (bB.cell 1).trans rfl
          go_wp2_with fail
          clear a0 a1 b0 b1
          refine (law_small K2 B m d M _ (hB.below hb2)).mono ?_
          rintro e w2 ⟨rfl, hb⟩
          rw [HD2.out]
          replace hb2 := below_chain hb2 hb hb2.size
          replace bA := bA.below hb bA.lt
          replace bB := bB.below hb bB.lt
          clear hb
          have a0 : w2.cell? ⟨w.heap.size, 0, none⟩ = some (.int .i64 K1) := (bA.cell 0).trans rfl
          have a1 : w2.cell? ⟨w.heap.size, 1, none⟩ = some (.slice A n c) := (bA.cell 1).trans rfl
          have b0 : w2.cell? ⟨w.heap.size + 1, 0, none⟩ = some (.int .i64 K2) := (bB.cell 0).trans rfl
          have b1 : w2.cell? ⟨w.heap.size + 1, 1, none⟩ = some (.slice B m d) := (bB.cell 1).trans rfl
          go_wp2_with fail
          clear a0 a1 b0 b1
          refine (ref_Check K1 A n c L _ (hA.below hb2)).mono ?_
          rintro e w3 ⟨rfl, hb⟩
          rw [HE.out]
          replace hb2 := below_chain hb2 hb hb2.size
          replace bA := bA.below hb bA.lt
          replace bB := bB.below hb bB.lt
          clear hb
          have a0 : w3.cell? ⟨w.heap.size, 0, none⟩ = some (.int .i64 K1) := (bA.cell 0).trans rfl
          have a1 : w3.cell? ⟨w.heap.size, 1, none⟩ = some (.slice A n c) := (bA.cell 1).trans rfl
          have b0 : w3.cell? ⟨w.heap.size + 1, 0, none⟩ = some (.int .i64 K2) := (bB.cell 0).trans rfl
          have b1 : w3.cell? ⟨w.heap.size + 1, 1, none⟩ = some (.slice B m d) := (bB.cell 1).trans rfl
          go_wp2_with fail
          clear a0 a1 b0 b1
          refine (ref_Check K2 B m d M _ (hB.below hb2)).mono ?_
          rintro e w4 ⟨rfl, hb⟩
          rw [HF.out]
          replace hb2 := below_chain hb2 hb hb2.size
          replace bA := bA.below hb bA.lt
          replace bB := bB.below hb bB.lt
          clear hb
          have a0 : w4.cell? ⟨w.heap.size, 0, none⟩ = some (.int .i64 K1) := (bA.cell 0).trans rfl
          have a1 : w4.cell? ⟨w.heap.size, 1, none⟩ = some (.slice A n c) := (bA.cell 1).trans rfl
          have b0 : w4.cell? ⟨w.heap.size + 1, 0, none⟩ = some (.int .i64 K2) := (bB.cell 0).trans rfl
          have b1 : w4.cell? ⟨w.heap.size + 1, 1, none⟩ = some (.slice B m d) := (bB.cell 1).trans rfl
          have hok := Lib.hid (samV_ok HE.out HF.out)
          go_wp2_with fail
          clear a0 a1 b0 b1
          refine (code_Same K1 K2 A B n c m d L M _ (hA.below hb2) (hB.below hb2) hc hd).mono ?_
          rintro e w5 ⟨rfl, hb⟩
          rw [hok.out.1, hok.out.2]
          replace hb2 := below_chain hb2 hb hb2.size
          replace bA := bA.below hb bA.lt
          replace bB := bB.below hb bB.lt
          clear hb
          obtain ⟨V, hV⟩ : ∃ V, (K1 == K2 && decide (normL L = normL M)) = V := ⟨_, rfl⟩
          have hsr := fun wx h1 h2 => cref_Same K1 K2 A B n c m d L M wx h1 h2 hc hd HE.out HF.out
          rw [hV] at hsr ⊢
          have HSR := Lib.hid hsr
          have hvv : (V == V) = true := beq_self_eq_true V
          clear hV hsr
          have a0 : w5.cell? ⟨w.heap.size, 0, none⟩ = some (.int .i64 K1) := (bA.cell 0).trans rfl
          have a1 : w5.cell? ⟨w.heap.size, 1, none⟩ = some (.slice A n c) := (bA.cell 1).trans rfl
          have b0 : w5.cell? ⟨w.heap.size + 1, 0, none⟩ = some (.int .i64 K2) := (bB.cell 0).trans rfl
          have b1 : w5.cell? ⟨w.heap.size + 1, 1, none⟩ = some (.slice B m d) := (bB.cell 1).trans rfl
          go_wp2_with fail
          clear a0 a1 b0 b1
          refine (HSR.out _ (hA.below hb2) (hB.below hb2)).mono ?_
          rintro e w6 ⟨rfl, hb⟩
          replace hb2 := below_chain hb2 hb hb2.size
          replace bA := bA.below hb bA.lt
          replace bB := bB.below hb bB.lt
          clear hb
          go_wp2_with fail
          refine (law_known _).mono ?_
          rintro e zz ⟨rfl, hb⟩
          go_wp2_with fail
          go_ret
          exact ⟨rfl, below_chain hb2 hb hb2.size⟩
        · have q3 : (F != 0) = true := by simpa using h3
          clear h3
          go_enter Tryd.func10, Tryd.ntmps10
          go_wp2_with fail
          generalize (w.alloc (.cells #[.int .i64 K1, .slice A n c] 24)).alloc (.cells #[.int .i64 K2, .slice B m d] 24) = X at hb2 bA bB ⊢
          refine (law_small K1 A n c L _ (hA.below hb2)).mono ?_
          rintro e w1 ⟨rfl, hb⟩
          rw [HD1.out]
          replace hb2 := below_chain hb2 hb hb2.size
          replace bA := bA.below hb bA.lt
          replace bB := bB.below hb bB.lt
          clear hb
          have a0 : w1.cell? ⟨w.heap.size, 0, none⟩ = some (.int .i64 K1) := (bA.cell 0).trans rfl
          have a1 : w1.cell? ⟨w.heap.size, 1, none⟩ = some (.slice A n c) := (bA.cell 1).trans rfl
          have b0 : w1.cell? ⟨w.heap.size + 1, 0, none⟩ = some (.int .i64 K2) := (bB.cell 0).trans rfl
          have b1 : w1.cell? ⟨w.heap.size + 1, 1, none⟩ = some (.slice B m d) := (bB.cell 1).trans rfl
          go_wp2_with fail
          clear a0 a1 b0 b1
          refine (law_small K2 B m d M _ (hB.below hb2)).mono ?_
          rintro e w2 ⟨rfl, hb⟩
          rw [HD2.out]
          replace hb2 := below_chain hb2 hb hb2.size
          replace bA := bA.below hb bA.lt
          replace bB := bB.below hb bB.lt
          clear hb
          have a0 : w2.cell? ⟨w.heap.size, 0, none⟩ = some (.int .i64 K1) := (bA.cell 0).trans rfl
          have a1 : w2.cell? ⟨w.heap.size, 1, none⟩ = some (.slice A n c) := (bA.cell 1).trans rfl
          have b0 : w2.cell? ⟨w.heap.size + 1, 0, none⟩ = some (.int .i64 K2) := (bB.cell 0).trans rfl
          have b1 : w2.cell? ⟨w.heap.size + 1, 1, none⟩ = some (.slice B m d) := (bB.cell 1).trans rfl
          go_wp2_with fail
          clear a0 a1 b0 b1
          refine (ref_Check K1 A n c L _ (hA.below hb2)).mono ?_
          rintro e w3 ⟨rfl, hb⟩
          rw [HE.out]
          replace hb2 := below_chain hb2 hb hb2.size
          replace bA := bA.below hb bA.lt
          replace bB := bB.below hb bB.lt
          clear hb
          have a0 : w3.cell? ⟨w.heap.size, 0, none⟩ = some (.int .i64 K1) := (bA.cell 0).trans rfl
          have a1 : w3.cell? ⟨w.heap.size, 1, none⟩ = some (.slice A n c) := (bA.cell 1).trans rfl
          have b0 : w3.cell? ⟨w.heap.size + 1, 0, none⟩ = some (.int .i64 K2) := (bB.cell 0).trans rfl
          have b1 : w3.cell? ⟨w.heap.size + 1, 1, none⟩ = some (.slice B m d) := (bB.cell 1).trans rfl
          go_wp2_with fail
          clear a0 a1 b0 b1
          refine (ref_Check K2 B m d M _ (hB.below hb2)).mono ?_
          rintro e w4 ⟨rfl, hb⟩
          rw [HF.out]
          replace hb2 := below_chain hb2 hb hb2.size
          replace bA := bA.below hb bA.lt
          replace bB := bB.below hb bB.lt
          clear hb
          go_wp2_with fail
          refine (law_known _).mono ?_
          rintro e zz ⟨rfl, hb⟩
          go_wp2_with fail
          go_ret
          exact ⟨rfl, below_chain hb2 hb hb2.size⟩
      · have q2 : (E != 0) = true := by simpa using h2
        clear h2
        go_enter Tryd.func10, Tryd.ntmps10
        go_wp2_with fail
        generalize (w.alloc (.cells #[.int .i64 K1, .slice A n c] 24)).alloc (.cells #[.int .i64 K2, .slice B m d] 24) = X at hb2 bA bB ⊢
        refine (law_small K1 A n c L _ (hA.below hb2)).mono ?_
        rintro e w1 ⟨rfl, hb⟩
        rw [HD1.out]
        replace hb2 := below_chain hb2 hb hb2.size
        replace bA := bA.below hb bA.lt
        replace bB := bB.below hb bB.lt
        clear hb
        have a0 : w1.cell? ⟨w.heap.size, 0, none⟩ = some (.int .i64 K1) := (bA.cell 0).trans rfl
        have a1 : w1.cell? ⟨w.heap.size, 1, none⟩ = some (.slice A n c) := (bA.cell 1).trans rfl
        have b0 : w1.cell? ⟨w.heap.size + 1, 0, none⟩ = some (.int .i64 K2) := (bB.cell 0).trans rfl
        have b1 : w1.cell? ⟨w.heap.size + 1, 1, none⟩ = some (.slice B m d) := (bB.cell 1).trans rfl
        go_wp2_with fail
        clear a0 a1 b0 b1
        refine (law_small K2 B m d M _ (hB.below hb2)).mono ?_
        rintro e w2 ⟨rfl, hb⟩
        rw [HD2.out]
        replace hb2 := below_chain hb2 hb hb2.size
        replace bA := bA.below hb bA.lt
        replace bB := bB.below hb bB.lt
        clear hb
        have a0 : w2.cell? ⟨w.heap.size, 0, none⟩ = some (.int .i64 K1) := (bA.cell 0).trans rfl
        have a1 : w2.cell? ⟨w.heap.size, 1, none⟩ = some (.slice A n c) := (bA.cell 1).trans rfl
        have b0 : w2.cell? ⟨w.heap.size + 1, 0, none⟩ = some (.int .i64 K2) := (bB.cell 0).trans rfl
        have b1 : w2.cell? ⟨w.heap.size + 1, 1, none⟩ = some (.slice B m d) := (bB.cell 1).trans rfl
        go_wp2_with fail
        clear a0 a1 b0 b1
        refine (ref_Check K1 A n c L _ (hA.below hb2)).mono ?_
        rintro e w3 ⟨rfl, hb⟩
        rw [HE.out]
        replace hb2 := below_chain hb2 hb hb2.size
        replace bA := bA.below hb bA.lt
        replace bB := bB.below hb bB.lt
        clear hb
        go_wp2_with fail
        refine (law_known _).mono ?_
        rintro e zz ⟨rfl, hb⟩
        go_wp2_with fail
        go_ret
        exact ⟨rfl, below_chain hb2 hb hb2.size⟩
    · have HD2 := Lib.hid (show decide (m ≤ 60) = false by simpa using h1)
      clear h1
      go_enter Tryd.func10, Tryd.ntmps10
      go_wp2_with fail
      generalize (w.alloc (.cells #[.int .i64 K1, .slice A n c] 24)).alloc (.cells #[.int .i64 K2, .slice B m d] 24) = X at hb2 bA bB ⊢
      refine (law_small K1 A n c L _ (hA.below hb2)).mono ?_
      rintro e w1 ⟨rfl, hb⟩
      rw [HD1.out]
      replace hb2 := below_chain hb2 hb hb2.size
      replace bA := bA.below hb bA.lt
      replace bB := bB.below hb bB.lt
      clear hb
      have a0 : w1.cell? ⟨w.heap.size, 0, none⟩ = some (.int .i64 K1) := (bA.cell 0).trans rfl
      have a1 : w1.cell? ⟨w.heap.size, 1, none⟩ = some (.slice A n c) := (bA.cell 1).trans rfl
      have b0 : w1.cell? ⟨w.heap.size + 1, 0, none⟩ = some (.int .i64 K2) := (bB.cell 0).trans rfl
      have b1 : w1.cell? ⟨w.heap.size + 1, 1, none⟩ = some (.slice B m d) := (bB.cell 1).trans rfl
      go_wp2_with fail
      clear a0 a1 b0 b1
      refine (law_small K2 B m d M _ (hB.below hb2)).mono ?_
      rintro e w2 ⟨rfl, hb⟩
      rw [HD2.out]
      replace hb2 := below_chain hb2 hb hb2.size
      replace bA := bA.below hb bA.lt
      replace bB := bB.below hb bB.lt
      clear hb
      go_wp2_with fail
      refine (law_known _).mono ?_
      rintro e zz ⟨rfl, hb⟩
      go_wp2_with fail
      go_ret
      exact ⟨rfl, below_chain hb2 hb hb2.size⟩
  · have HD1 := Lib.hid (show decide (n ≤ 60) = false by simpa using h0)
    clear h0
    go_enter Tryd.func10, Tryd.ntmps10
    go_wp2_with fail
    generalize (w.alloc (.cells #[.int .i64 K1, .slice A n c] 24)).alloc (.cells #[.int .i64 K2, .slice B m d] 24) = X at hb2 bA bB ⊢
    refine (law_small K1 A n c L _ (hA.below hb2)).mono ?_
    rintro e w1 ⟨rfl, hb⟩
    rw [HD1.out]
    replace hb2 := below_chain hb2 hb hb2.size
    replace bA := bA.below hb bA.lt
    replace bB := bB.below hb bB.lt
    clear hb
    go_wp2_with fail
    refine (law_known _).mono ?_
    rintro e zz ⟨rfl, hb⟩
    go_wp2_with fail
    go_ret
    exact ⟨rfl, below_chain hb2 hb hb2.size⟩
end Go.Proofs.YtkjcmppaapbabaaDoor
