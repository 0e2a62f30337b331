/-
  Contracts: Bare, Circle, pass, cross, circle, small. Conditions: bounds on the arguments' size alone.
-/
import Derived.Test.YtkjcmppaapbabaaDoorOwnP
namespace Go.Proofs.YtkjcmppaapbabaaDoor
open Go.RowKit
def lpass (g r : Int) : Lt := ⟨1, g, r, 0, 0, false⟩
def lcross (i : Int) (o : Bool) (s : Int) : Lt := ⟨2, 0, 0, i, s, o⟩
theorem ltok_pass {g r : Int} (hg : I64 g) (hr : I64 r) : LtOk (lpass g r) := ⟨(by unfold I64 lpass; simp), hg, hr, (by unfold I64 lpass; simp), (by unfold I64 lpass; simp)⟩
theorem ltok_cross {i s : Int} {o : Bool} (hi : I64 i) (hs : I64 s) : LtOk (lcross i o s) := ⟨(by unfold I64 lcross; simp), (by unfold I64 lcross; simp), (by unfold I64 lcross; simp), hi, hs⟩
set_option maxHeartbeats 800000 in
theorem law_pass (g r : Int) (w : World) :
    Calls Tryd.prog 35 #[.int .i64 g, .int .i64 r] w fun e w' => e = .returned (ltV (lpass g r)) ∧ Below w.heap.size w w' := by
  have hb := fun w => build_pass g r w
  go_enter Tryd.func35, Tryd.ntmps35
  go_wp2_with fail
  (try simp only [Exit.inBlock, Exit.then])
  refine ret_cellB rfl rfl (heap_alloc_new _ _) Tryd.underlying46 rfl (by kernel_rfl) rfl ?_
  exact ⟨rfl, (Below.refl _ _).alloc (Nat.le_refl _) _⟩
set_option maxHeartbeats 800000 in
theorem law_cross (i s : Int) (o : Bool) (w : World) :
    Calls Tryd.prog 79 #[.int .i64 i, .bool o, .int .i64 s] w fun e w' => e = .returned (ltV (lcross i o s)) ∧ Below w.heap.size w w' := by
  have hb := fun w => build_cross i s o w
  go_enter Tryd.func79, Tryd.ntmps79
  go_wp2_with fail
  (try simp only [Exit.inBlock, Exit.then])
  refine ret_cellB rfl rfl (heap_alloc_new _ _) Tryd.underlying46 rfl (by kernel_rfl) rfl ?_
  exact ⟨rfl, (Below.refl _ _).alloc (Nat.le_refl _) _⟩
set_option maxHeartbeats 800000 in
theorem law_small (K : Int) (A : Option Addr) (n c : Nat) (L : List Lt) (w : World) (hA : Lets w A n L) :
    Calls Tryd.prog 20 #[.agg #[.int .i64 K, .slice A n c]] w fun e w' => e = .returned (.bool (decide (n ≤ 60))) ∧ Below w.heap.size w w' := by
  have hle := hA.le
  go_enter Tryd.func20, Tryd.ntmps20
  go_wp2_with fail
  go_ret
  exact ⟨ret_bool (by simp; omega), (Below.refl _ _).alloc (Nat.le_refl _) _⟩
def badK (K : Int) : Bool := decide (K < 0) || decide (40 < K)
def bareK (K : Int) : Int := if badK K then 0 else K
def bareE (K : Int) : Int := if badK K then 2 else 0
set_option maxHeartbeats 800000 in
theorem code_Bare (K : Int) (w : World) :
    Calls Tryd.prog 32 #[.int .i64 K] w fun e w' => e = .returned (.tuple #[.agg #[.int .i64 (bareK K), .slice none 0 0], .int .i64 (bareE K)]) ∧ Below w.heap.size w w' := by
  have hb0 := build_code0
  have hb1 := fun w => build_code1 K w
  cases h1 : decide (K < 0) with
  | true =>
    have hb : badK K = true := by unfold badK; rw [h1]; rfl
    have hf := Lib.hid (show bareK K = 0 ∧ bareE K = 2 by unfold bareK bareE; rw [hb]; exact ⟨rfl, rfl⟩)
    clear hb
    go_enter Tryd.func32, Tryd.ntmps32
    go_wp2_with fail
    (try simp only [Exit.inBlock, Exit.then])
    refine ret_cellT rfl rfl rfl (heap_alloc_new _ _) Tryd.underlying24 rfl (by kernel_rfl) rfl ?_
    exact ⟨by rw [hf.out.1, hf.out.2]; rfl, (Below.refl _ _).alloc (Nat.le_refl _) _⟩
  | false =>
    cases h2 : decide (40 < K) with
    | true =>
      have hb : badK K = true := by unfold badK; rw [h1, h2]; rfl
      have hf := Lib.hid (show bareK K = 0 ∧ bareE K = 2 by unfold bareK bareE; rw [hb]; exact ⟨rfl, rfl⟩)
      clear hb
      go_enter Tryd.func32, Tryd.ntmps32
      go_wp2_with fail
      (try simp only [Exit.inBlock, Exit.then])
      refine ret_cellT rfl rfl rfl (heap_alloc_new _ _) Tryd.underlying24 rfl (by kernel_rfl) rfl ?_
      exact ⟨by rw [hf.out.1, hf.out.2]; rfl, (Below.refl _ _).alloc (Nat.le_refl _) _⟩
    | false =>
      have hb : badK K = false := by unfold badK; rw [h1, h2]; rfl
      have hf := Lib.hid (show bareK K = K ∧ bareE K = 0 by unfold bareK bareE; rw [hb]; exact ⟨rfl, rfl⟩)
      clear hb
      go_enter Tryd.func32, Tryd.ntmps32
      go_wp2_with fail
      (try simp only [Exit.inBlock, Exit.then])
      refine ret_cellT rfl rfl rfl (heap_alloc_new _ _) Tryd.underlying24 rfl (by kernel_rfl) rfl ?_
      exact ⟨by rw [hf.out.1, hf.out.2]; rfl, (Below.refl _ _).alloc (Nat.le_refl _) _⟩
def circE (K i j : Int) : Int := if K < 0 ∨ 40 < K ∨ i < 1 ∨ j < i ∨ K < j then 2 else 0
def circL (K i j : Int) : List Lt := if K < 0 ∨ 40 < K ∨ i < 1 ∨ j < i ∨ K < j then [] else [lpass (i - 1) 1, lpass j 1]
def circK (K i j : Int) : Int := if K < 0 ∨ 40 < K ∨ i < 1 ∨ j < i ∨ K < j then 0 else K
set_option maxHeartbeats 1600000 in
theorem code_Circle (K i j : Int) (_hK : I64 K) (hi : I64 i) (hj : I64 j) (w : World) :
    Calls Tryd.prog 33 #[.int .i64 K, .int .i64 i, .int .i64 j] w fun e w' => ∃ A n, e = .returned (.tuple #[.agg #[.int .i64 (circK K i j), .slice A n n], .int .i64 (circE K i j)]) ∧ OwnL w' w.heap.size A n n (circL K i j) ∧ Below w.heap.size w w' := by
  have hb0 := build_code0
  by_cases hbad : K < 0 ∨ 40 < K ∨ i < 1 ∨ j < i ∨ K < j
  · have hf := Lib.hid (show circK K i j = 0 ∧ circE K i j = 2 ∧ circL K i j = [] by unfold circK circE circL; rw [if_pos hbad, if_pos hbad, if_pos hbad]; exact ⟨rfl, rfl, rfl⟩)
    have hall : K < 0 ∨ (decide (K < 0) = false ∧ (40 < K ∨ (decide (40 < K) = false ∧ (i < 1 ∨ (decide (i < 1) = false ∧ (j < i ∨ (decide (j < i) = false ∧ K < j))))))) := by simp; omega
    clear hbad
    rcases hall with h1 | ⟨h1, h2 | ⟨h2, h3 | ⟨h3, h4 | ⟨h4, h5⟩⟩⟩⟩
    all_goals
      go_enter Tryd.func33, Tryd.ntmps33
      go_wp2_with fail
      (try simp only [Exit.inBlock, Exit.then])
      refine ret_cellT rfl rfl rfl (heap_alloc_new _ _) Tryd.underlying24 rfl (by kernel_rfl) rfl ?_
      exact ⟨none, 0, by rw [hf.out.1, hf.out.2.1]; rfl, by rw [hf.out.2.2]; exact OwnL.nil _ _, (Below.refl _ _).alloc (Nat.le_refl _) _⟩
  · have hf := Lib.hid (show circK K i j = K ∧ circE K i j = 0 ∧ circL K i j = [lpass (i - 1) 1, lpass j 1] by unfold circK circE circL; rw [if_neg hbad, if_neg hbad, if_neg hbad]; exact ⟨rfl, rfl, rfl⟩)
    have h1 : decide (K < 0) = false := by simp; omega
    have h2 : decide (40 < K) = false := by simp; omega
    have h3 : decide (i < 1) = false := by simp; omega
    have h4 : decide (j < i) = false := by simp; omega
    have h5 : decide (K < j) = false := by simp; omega
    have hw : IntKind.i64.wrap (i - 1) = i - 1 := IntWalk.i64_in _ (by omega)
    have hbp1 := fun w => build_pass (i - 1) 1 w
    have hbp2 := fun w => build_pass j 1 w
    have hbl := fun w => buildL2 (lpass (i - 1) 1) (lpass j 1) w
    have hbc := fun b w => build_code2 K (some ⟨b, 0, none⟩) 2 2 w
    have hok : ∀ x ∈ [lpass (i - 1) 1, lpass j 1], LtOk x := by
      intro x hx
      unfold I64 at hi hj
      simp only [List.mem_cons, List.not_mem_nil, or_false] at hx
      rcases hx with rfl | rfl
      · exact ltok_pass (by unfold I64; omega) (by unfold I64; omega)
      · exact ltok_pass hj (by unfold I64; omega)
    have HOK := Lib.hid hok
    clear hok hbad
    simp only [lpass] at hbl
    go_enter Tryd.func33, Tryd.ntmps33
    go_wp2_with fail
    (try simp only [Exit.inBlock, Exit.then])
    refine ret_cellT rfl rfl rfl ((Blk.new w _ _).alloc _) Tryd.underlying24 rfl (by kernel_rfl) rfl ?_
    refine ⟨some ⟨w.heap.size + 1, 0, none⟩, 2, by rw [hf.out.1, hf.out.2.1]; rfl, ?_, ((Below.refl _ _).alloc (Nat.le_refl _) _).alloc (by simp) _⟩
    rw [hf.out.2.2]
    exact OwnL.block (L := [lpass (i - 1) 1, lpass j 1]) (heap_alloc2_new w _ _) (by omega) HOK.out (by simp)
end Go.Proofs.YtkjcmppaapbabaaDoor
