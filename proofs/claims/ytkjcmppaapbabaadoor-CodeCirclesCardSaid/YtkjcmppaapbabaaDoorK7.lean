/-
  Plain: the bare loop and a circle around fingers are valid codes. No walk of the program.
-/
import Derived.Test.YtkjcmppaapbabaaDoorK4
import Derived.Test.YtkjcmppaapbabaaDoorN1
namespace Go.Proofs.YtkjcmppaapbabaaDoor
theorem bare_check {K : Int} (h0 : 0 ≤ K) (h1 : K ≤ 40) : checkE K [] = 0 := by
  unfold checkE
  rw [if_neg (by simp [cN, countTo]), if_neg (by omega), if_pos (show ([] : List Lt).length = 0 from rfl)]
theorem two_la {a b : Lt} (v : Nat) : la [a, b] v = if v = 0 then a else if v = 1 then b else dl := by
  match v with
  | 0 => rfl
  | 1 => rfl
  | v + 2 => rfl
theorem pN_two {a b c d : Lt} (ha : isP a = isP c) (hb : isP b = isP d) (v : Nat) : pN [a, b] v = pN [c, d] v := by
  unfold pN
  refine ct_congr fun m _ => ?_
  rw [two_la, two_la]
  split
  · exact ha
  · split
    · exact hb
    · rfl
theorem left_two {a b c d : Lt} (ha : isP a = isP c) (hb : isP b = isP d) (ca : isC a = false) (cb : isC b = false) (cc : isC c = false) (cd : isC d = false) (X : List Nat) (x : Nat) : leftF [a, b] X x = leftF [c, d] X x := by
  have hd : ∀ v, dwn [a, b] v = dwn [c, d] v := fun v => by unfold dwn; rw [pN_two ha hb]
  have h1 : ∀ v, isC (la [a, b] v) = false := fun v => by rw [two_la]; split <;> (try split) <;> first | assumption | rfl
  have h2 : ∀ v, isC (la [c, d] v) = false := fun v => by rw [two_la]; split <;> (try split) <;> first | assumption | rfl
  unfold leftF
  simp only [h1, h2, hd]
  rfl
theorem circ_axis {a b : Lt} (ha : isP a = true) (hb : isP b = true) (h : a.gate < b.gate) : axL [a, b] = [0, 1] := by
  have e0 : la [a, b] 0 = a := rfl
  have e1 : la [a, b] 1 = b := rfl
  show axTo [a, b] 2 = _
  simp [axTo, e0, e1, ha, hb, insX, lftB, h]
theorem circ_check {K i j : Int} (h0 : 1 ≤ i) (h1 : i ≤ j) (h2 : j ≤ K) (h3 : K ≤ 40) : checkE K [lpass (i - 1) 1, lpass j 1] = 0 := by
  have e0 : la [lpass (i - 1) 1, lpass j 1] 0 = lpass (i - 1) 1 := rfl
  have e1 : la [lpass (i - 1) 1, lpass j 1] 1 = lpass j 1 := rfl
  have ax : axL [lpass (i - 1) 1, lpass j 1] = [0, 1] := circ_axis rfl rfl (by simp [lpass]; omega)
  have ax2 : axL [lpass 0 1, lpass 1 1] = [0, 1] := circ_axis rfl rfl (by simp [lpass])
  have hw : walksL [lpass (i - 1) 1, lpass j 1] = walksL [lpass 0 1, lpass 1 1] := by
    unfold walksL dartsN
    rw [ax, ax2]
    have : leftF [lpass (i - 1) 1, lpass j 1] [0, 1] = leftF [lpass 0 1, lpass 1 1] [0, 1] := funext fun x => left_two (a := lpass (i - 1) 1) (b := lpass j 1) (c := lpass 0 1) (d := lpass 1 1) rfl rfl rfl rfl rfl rfl _ x
    rw [this]; rfl
  have hp : pN [lpass (i - 1) 1, lpass j 1] 2 = 2 := by rw [pN_two (a := lpass (i - 1) 1) (b := lpass j 1) (c := lpass 0 1) (d := lpass 1 1) rfl rfl]; rfl
  have hc : cN [lpass (i - 1) 1, lpass j 1] 2 = 0 := rfl
  have hne : ¬ (i - 1 = j) := by omega
  have hne' : ¬ (j = i - 1) := by omega
  unfold checkE
  rw [if_neg (by simp; omega), if_neg (by omega), if_neg (by simp)]
  have hv : validB2 K [lpass (i - 1) 1, lpass j 1] = true := by
    unfold validB2
    simp only [Bool.and_eq_true]
    refine ⟨⟨⟨rfl, by show decide (pN [lpass (i - 1) 1, lpass j 1] 2 % 2 = 0) = true; rw [hp]; rfl⟩, ?_⟩, ?_⟩
    · show allTo _ 2 = true
      rw [allTo_iff]
      intro m hm
      rcases (show m = 0 ∨ m = 1 by omega) with rfl | rfl
      · rw [e0]
        unfold rlB
        rw [if_pos (by rfl)]
        simp [gN, smN, smB, countTo, lpass, isP, la, hne']
        omega
      · rw [e1]
        unfold rlB
        rw [if_pos (by rfl)]
        simp [gN, smN, smB, countTo, lpass, isP, la, hne]
        omega
    · unfold flatB
      rw [hw]
      show (walksL [lpass 0 1, lpass 1 1]).length == pN [lpass (i - 1) 1, lpass j 1] 2 + cN [lpass (i - 1) 1, lpass j 1] 2 / 2 + 2
      rw [hp, hc]
      kernel_rfl
  rw [if_pos hv]
end Go.Proofs.YtkjcmppaapbabaaDoor
