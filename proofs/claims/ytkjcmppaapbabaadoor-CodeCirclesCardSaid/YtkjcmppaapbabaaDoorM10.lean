/-
  Contracts: the program's read, Check. Conditions: the letters read.
-/
import Derived.Test.YtkjcmppaapbabaaDoorM9
namespace Go.Proofs.YtkjcmppaapbabaaDoor
open Go.RowKit
/-- What read leaves where the code is valid. -/
def ReadOk (w : World) (K : Int) (A : Option Addr) (n c : Nat) (L : List Lt) (p : Nat) (w' : World) : Prop :=
  ∃ k : Nat, K = (k : Int) ∧ k ≤ 40 ∧ n ≤ 400 ∧ w.heap.size ≤ p ∧
    ((n = 0 ∧ Dia w' p K A n c (.slice none 0 0) (.slice none 0 0) (.slice none 0 0) (.map none) (.slice none 0 0)) ∨ (0 < n ∧ ∃ base b g2 g3 g4 g6 s P C ids, w.heap.size ≤ base ∧ DiaF w' base p k A n c L b g2 g3 g4 g6 s P C ids))
def ReadPost (w : World) (K : Int) (A : Option Addr) (n c : Nat) (L : List Lt) (e : Ending) (w' : World) : Prop :=
  ∃ v, e = .returned (.tuple #[v, .int .i64 (checkE K L)]) ∧ Below w.heap.size w w' ∧ (checkE K L = 0 → ∃ p, v = .pointer (some ⟨p, 0, none⟩) ∧ ReadOk w K A n c L p w')
theorem chk_7 {K : Int} {L : List Lt} (h : 400 < L.length ∨ 200 < cN L L.length) : checkE K L = 7 := by unfold checkE; rw [if_pos h]
theorem chk_2 {K : Int} {L : List Lt} (h : ¬(400 < L.length ∨ 200 < cN L L.length)) (h2 : K < 0 ∨ 40 < K) : checkE K L = 2 := by unfold checkE; rw [if_neg h, if_pos h2]
theorem chk_v {K : Int} {L : List Lt} {n : Nat} (hL : L.length = n) (h : ¬(400 < L.length ∨ 200 < cN L L.length)) (h2 : ¬(K < 0 ∨ 40 < K)) : checkE K L = if (decide (n = 0) || validB2 K L) = true then 0 else 3 := by
  unfold checkE
  rw [if_neg h, if_neg h2]
  subst hL
  by_cases h3 : L.length = 0
  · rw [if_pos h3, if_pos (by simp [h3])]
  · rw [if_neg h3]
    cases validB2 K L <;> simp [h3]
set_option maxRecDepth 100000 in
set_option maxHeartbeats 6400000 in
theorem code_read (K : Int) (A : Option Addr) (n c : Nat) (L : List Lt) (w : World) (hA : Lets w A n L) :
    Calls Tryd.prog 80 #[.agg #[.int .i64 K, .slice A n c]] w (ReadPost w K A n c L) := by
  have hle := hA.le
  have hLn : L.length = n := hA.len
  have hbx := Boxed.refl w K A n c
  have hcn := cN_le L n
  have hbd := build_dia K A n c
  by_cases h400 : 400 < n
  · have hf := Lib.hid (chk_7 (K := K) (L := L) (.inl (by omega)))
    have q : (400 : Int) < (n : Int) := by omega
    clear hLn
    go_enter Tryd.func80, Tryd.ntmps80
    go_wp2_with fail
    go_ret2
    exact ⟨.pointer none, by rw [hf.out]; rfl, hbx.below, fun h => by rw [hf.out] at h; cases h⟩
  · have q : decide ((400 : Int) < (n : Int)) = false := by simp; omega
    by_cases h200 : 200 < cN L n
    · have hf := Lib.hid (chk_7 (K := K) (L := L) (.inr (by rw [hLn]; exact h200)))
      have q2 : (200 : Int) < (cN L n : Int) := by omega
      clear hLn
      go_enter Tryd.func80, Tryd.ntmps80
      go_wp2_with fail
      refine (code_crosses K A n c L _ (hA.below hbx.below)).mono ?_
      rintro e w1 ⟨rfl, hb1⟩
      have hb2 := hbx.more hb1
      go_wp2_with fail
      go_ret2
      exact ⟨.pointer none, by rw [hf.out]; rfl, hb2.below, fun h => by rw [hf.out] at h; cases h⟩
    · have q2 : decide ((200 : Int) < (cN L n : Int)) = false := by simp; omega
      have hno : ¬(400 < L.length ∨ 200 < cN L L.length) := by rw [hLn]; omega
      by_cases hK : K < 0 ∨ 40 < K
      · have hf := Lib.hid (chk_2 (K := K) (L := L) hno hK)
        have hall : K < 0 ∨ (decide (K < 0) = false ∧ 40 < K) := by simp; omega
        clear hK hLn hno
        rcases hall with k1 | ⟨k1, k2⟩
        all_goals
          go_enter Tryd.func80, Tryd.ntmps80
          go_wp2_with fail
          refine (code_crosses K A n c L _ (hA.below hbx.below)).mono ?_
          rintro e w1 ⟨rfl, hb1⟩
          have hb2 := hbx.more hb1
          have x0 := hb2.c0
          have x1 := hb2.c1
          go_wp2_with fail
          go_ret2
          exact ⟨.pointer none, by rw [hf.out]; rfl, hb2.below, fun h => by rw [hf.out] at h; cases h⟩
      · have k1 : decide (K < 0) = false := by simp; omega
        have k2 : decide (40 < K) = false := by simp; omega
        have hf := chk_v hLn hno hK
        obtain ⟨k, rfl⟩ : ∃ k : Nat, K = (k : Int) := ⟨K.toNat, by omega⟩
        have hk40 : k ≤ 40 := by omega
        have hHL := Lib.hid hLn
        have HK : Hid (¬(k : Int) < 0) := Lib.hid (by omega)
        clear hno hK hLn
        cases hv : (decide (n = 0) || validB2 (k : Int) L) with
        | true =>
          rw [hv, if_pos rfl] at hf
          have HF := Lib.hid hf
          have HV := Lib.hid hv
          clear hf hv
          go_enter Tryd.func80, Tryd.ntmps80
          go_wp2_with fail
          refine (code_crosses (k : Int) A n c L _ (hA.below hbx.below)).mono ?_
          rintro e w1 ⟨rfl, hb1⟩
          have hb2 := hbx.more hb1
          have x0 := hb2.c0
          have x1 := hb2.c1
          have hAw := hA.below hb2.below
          have hs2 := hb2.size
          have hpA : 0 < n → ∀ a, A = some a → w1.heap.size ≠ a.block := fun hn a ha => by
            obtain ⟨g, o, e, hg, _⟩ := hAw.2.2.2 hn
            rw [ha] at e
            injection e with e
            subst e
            simp
            omega
          have HPA := Lib.hid hpA
          clear hpA
          go_wp2_with fail
          refine (dia_valid w1.heap.size k A n c L (.slice none 0 0) (.slice none 0 0) (.slice none 0 0) (.map none) (.slice none 0 0) _ (hAw.alloc _) (by omega) hk40 HPA.out (Blk.new w1 _ _)).mono ?_
          rintro e w2 ⟨rfl, hg2, hz, hF2⟩
          have h5 : Below w1.heap.size w1 w2 := ((Below.refl _ _).alloc (Nat.le_refl _) _).trans (below_of_only hg2 (Nat.le_refl _) (by simp))
          have h6 := below_chain hb2.below h5 (by omega)
          rw [HV.out]
          have HZ := Lib.hid hz
          have HF2 := Lib.hid hF2
          clear x0 x1 hb2 hb1 hbx hg2 hz hF2 hAw h5
          go_wp2_with fail
          go_ret2
          refine ⟨.pointer (some ⟨w1.heap.size, 0, none⟩), by rw [HF.out]; rfl, h6, fun _ => ⟨w1.heap.size, rfl, k, rfl, hk40, by omega, by omega, ?_⟩⟩
          rcases Nat.eq_zero_or_pos n with h0 | h0
          · exact .inl ⟨h0, HZ.out h0⟩
          · have hv := HV.out
            rw [show decide (n = 0) = false by simp; omega, Bool.false_or] at hv
            obtain ⟨base, b, g2, g3, g4, g6, s, P, C, ids, hbase, hF⟩ := HF2.out h0 hv
            have hsz : (w1.alloc (.cells #[.int .i64 (k : Int), .slice A n c, .slice none 0 0, .slice none 0 0, .slice none 0 0, .map none, .slice none 0 0] 87)).heap.size = w1.heap.size + 1 := by simp
            exact .inr ⟨h0, base, b, g2, g3, g4, g6, s, P, C, ids, by omega, hF⟩
        | false =>
          rw [hv] at hf
          have HF := Lib.hid (show checkE (k : Int) L = 3 from hf)
          have HV := Lib.hid hv
          clear hf hv
          go_enter Tryd.func80, Tryd.ntmps80
          go_wp2_with fail
          refine (code_crosses (k : Int) A n c L _ (hA.below hbx.below)).mono ?_
          rintro e w1 ⟨rfl, hb1⟩
          have hb2 := hbx.more hb1
          have x0 := hb2.c0
          have x1 := hb2.c1
          have hAw := hA.below hb2.below
          have hs2 := hb2.size
          have hpA : 0 < n → ∀ a, A = some a → w1.heap.size ≠ a.block := fun hn a ha => by
            obtain ⟨g, o, e, hg, _⟩ := hAw.2.2.2 hn
            rw [ha] at e
            injection e with e
            subst e
            simp
            omega
          have HPA := Lib.hid hpA
          clear hpA
          go_wp2_with fail
          refine (dia_valid w1.heap.size k A n c L (.slice none 0 0) (.slice none 0 0) (.slice none 0 0) (.map none) (.slice none 0 0) _ (hAw.alloc _) (by omega) hk40 HPA.out (Blk.new w1 _ _)).mono ?_
          rintro e w2 ⟨rfl, hg2, hz, hF2⟩
          have h5 : Below w1.heap.size w1 w2 := ((Below.refl _ _).alloc (Nat.le_refl _) _).trans (below_of_only hg2 (Nat.le_refl _) (by simp))
          have h6 := below_chain hb2.below h5 (by omega)
          rw [HV.out]
          have HZ := Lib.hid hz
          have HF2 := Lib.hid hF2
          clear x0 x1 hb2 hb1 hbx hg2 hz hF2 hAw h5
          go_wp2_with fail
          go_ret2
          exact ⟨.pointer none, by rw [HF.out]; rfl, h6, fun h => by rw [HF.out] at h; cases h⟩
set_option maxHeartbeats 800000 in
/-- The program's Check. -/
theorem code_Check (K : Int) (A : Option Addr) (n c : Nat) (L : List Lt) (w : World) (hA : Lets w A n L) :
    Calls Tryd.prog 26 #[.agg #[.int .i64 K, .slice A n c]] w fun e w' => e = .returned (.int .i64 (checkE K L)) ∧ Below w.heap.size w w' := by
  have hbx := Boxed.refl w K A n c
  have x0 := hbx.c0
  have x1 := hbx.c1
  go_enter Tryd.func26, Tryd.ntmps26
  go_wp2_with fail
  refine (code_read K A n c L _ (hA.below hbx.below)).mono ?_
  rintro e w1 ⟨v, rfl, hb1, _⟩
  have hb2 := hbx.more hb1
  clear x0 x1 hbx hb1
  go_wp2_with fail
  go_ret
  exact ⟨rfl, hb2.below⟩
end Go.Proofs.YtkjcmppaapbabaaDoor
