/-
  Plain lemmas on lists: searches over a range of numbers. No program in sight.
-/
namespace Go.Proofs.YtpdkonpnhalecaaDoor
/-- No number below n meets p. -/
def NoneTo (p : Nat → Bool) (n : Nat) : Prop := ∀ i, i < n → p i = false
theorem NoneTo.zero (p : Nat → Bool) : NoneTo p 0 := fun i h => by omega
theorem NoneTo.succ {p : Nat → Bool} {n : Nat} (h : NoneTo p n) (hn : p n = false) : NoneTo p (n + 1) := fun i hi => by
  by_cases e : i = n
  · subst e; exact hn
  · exact h i (by omega)
/-- The first number below n that meets p, or -1. -/
def firstI (p : Nat → Bool) (n : Nat) : Int := match (List.range n).find? p with
  | some i => i
  | none => -1
theorem find_none {p : Nat → Bool} {n : Nat} (h : NoneTo p n) : (List.range n).find? p = none := by
  rw [List.find?_eq_none]
  intro i hi
  rw [List.mem_range] at hi
  rw [h i hi]; simp
theorem find_hit {p : Nat → Bool} {n k : Nat} (h : NoneTo p k) (hk : p k = true) (hn : k < n) : (List.range n).find? p = some k := by
  induction n with
  | zero => omega
  | succ n ih =>
    rw [List.range_succ, List.find?_append]
    by_cases e : k < n
    · rw [ih e]; rfl
    · have : k = n := by omega
      subst this
      rw [find_none h]
      simp [hk]
theorem firstI_none {p : Nat → Bool} {n : Nat} (h : NoneTo p n) : firstI p n = -1 := by unfold firstI; rw [find_none h]
theorem firstI_hit {p : Nat → Bool} {n k : Nat} (h : NoneTo p k) (hk : p k = true) (hn : k < n) : firstI p n = k := by unfold firstI; rw [find_hit h hk hn]
theorem firstI_cases (p : Nat → Bool) (n : Nat) : (firstI p n = -1 ∧ NoneTo p n) ∨ ∃ k, k < n ∧ firstI p n = (k : Int) ∧ NoneTo p k ∧ p k = true := by
  induction n with
  | zero => exact .inl ⟨firstI_none (NoneTo.zero p), NoneTo.zero p⟩
  | succ n ih =>
    rcases ih with ⟨_, h⟩ | ⟨k, hk, he, hn, hp⟩
    · cases hp : p n with
      | false => exact .inl ⟨firstI_none (h.succ hp), h.succ hp⟩
      | true => exact .inr ⟨n, by omega, firstI_hit h hp (by omega), h, hp⟩
    · exact .inr ⟨k, by omega, firstI_hit hn hp (by omega), hn, hp⟩
/-- All numbers below n meet p. -/
def allTo (p : Nat → Bool) (n : Nat) : Bool := (List.range n).all p
theorem allTo_zero (p : Nat → Bool) : allTo p 0 = true := rfl
theorem allTo_succ (p : Nat → Bool) (n : Nat) : allTo p (n + 1) = (allTo p n && p n) := by
  unfold allTo
  rw [List.range_succ]; simp
theorem allTo_step {p : Nat → Bool} {n : Nat} (h : allTo p n = true) (hn : p n = true) : allTo p (n + 1) = true := by rw [allTo_succ, h, hn]; rfl
theorem allTo_no {p : Nat → Bool} {n k : Nat} (hk : k < n) (h : p k = false) : allTo p n = false := by
  unfold allTo
  rw [List.all_eq_false]
  exact ⟨k, List.mem_range.2 hk, by simp [h]⟩
theorem allTo_iff {p : Nat → Bool} {n : Nat} : allTo p n = true ↔ ∀ i, i < n → p i = true := by
  unfold allTo
  rw [List.all_eq_true]
  exact ⟨fun h i hi => h i (List.mem_range.2 hi), fun h i hi => h i (List.mem_range.1 hi)⟩
/-- How many numbers below n meet p. -/
def countTo (p : Nat → Bool) : Nat → Nat
  | 0 => 0
  | n + 1 => countTo p n + (if p n then 1 else 0)
theorem countTo_le (p : Nat → Bool) (n : Nat) : countTo p n ≤ n := by
  induction n with
  | zero => exact Nat.le_refl _
  | succ n ih => unfold countTo; split <;> omega
theorem countTo_yes {p : Nat → Bool} {n : Nat} (h : p n = true) : countTo p (n + 1) = countTo p n + 1 := by simp [countTo, h]
theorem countTo_no {p : Nat → Bool} {n : Nat} (h : p n = false) : countTo p (n + 1) = countTo p n := by simp [countTo, h]
/-- A sum over the numbers below n. -/
def sumTo (f : Nat → Int) : Nat → Int
  | 0 => 0
  | n + 1 => sumTo f n + f n
theorem sumTo_succ (f : Nat → Int) (n : Nat) : sumTo f (n + 1) = sumTo f n + f n := rfl
theorem getElem?_take_lt {α : Type} (L : List α) {k n : Nat} (h : k < n) : (L.take n)[k]? = L[k]? := by
  rw [List.getElem?_take, if_pos h]
end Go.Proofs.YtpdkonpnhalecaaDoor
