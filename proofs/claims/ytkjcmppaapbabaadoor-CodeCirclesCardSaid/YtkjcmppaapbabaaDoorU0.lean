/-
  Plain: counting the numbers below n that meet a test; sums over them. No walk.
-/
import Derived.Test.YtkjcmppaapbabaaDoorP0
namespace Go.Proofs.YtkjcmppaapbabaaDoor
theorem ct_congr {p q : Nat → Bool} {n : Nat} (h : ∀ m, m < n → p m = q m) : countTo p n = countTo q n := by
  induction n with
  | zero => rfl
  | succ n ih =>
    unfold countTo
    rw [ih (fun m hm => h m (by omega)), h n (by omega)]
theorem ct_none {p : Nat → Bool} {n : Nat} (h : ∀ m, m < n → p m = false) : countTo p n = 0 := by
  induction n with
  | zero => rfl
  | succ n ih => rw [countTo_no (h n (by omega))]; exact ih (fun m hm => h m (by omega))
theorem ct_sub {p q : Nat → Bool} {n : Nat} (h : ∀ m, m < n → p m = true → q m = true) : countTo p n ≤ countTo q n := by
  induction n with
  | zero => exact Nat.le_refl _
  | succ n ih =>
    have := ih (fun m hm => h m (by omega))
    have h2 := h n (by omega)
    unfold countTo
    cases hp : p n <;> cases hq : q n <;> simp [hp, hq] at h2 ⊢ <;> omega
theorem ct_lt {p q : Nat → Bool} {n i : Nat} (h : ∀ m, m < n → p m = true → q m = true) (hi : i < n) (hq : q i = true) (hp : p i = false) : countTo p n + 1 ≤ countTo q n := by
  induction n with
  | zero => omega
  | succ n ih =>
    by_cases e : i = n
    · subst e
      rw [countTo_no hp, countTo_yes hq]
      have := ct_sub (n := i) (fun m hm => h m (by omega))
      omega
    · have := ih (fun m hm => h m (by omega)) (by omega)
      have h2 := h n (by omega)
      unfold countTo
      cases hp : p n <;> cases hq : q n <;> simp [hp, hq] at h2 ⊢ <;> omega
theorem ct_one {p : Nat → Bool} {n i : Nat} (hi : i < n) (hp : p i = true) (h : ∀ m, m < n → p m = true → m = i) : countTo p n = 1 := by
  induction n with
  | zero => omega
  | succ n ih =>
    by_cases e : i = n
    · subst e
      rw [countTo_yes hp, ct_none]
      intro m hm
      cases hq : p m with
      | false => rfl
      | true => have := h m (by omega) hq; omega
    · have hn : p n = false := by
        cases hq : p n with
        | false => rfl
        | true => have := h n (by omega) hq; omega
      rw [countTo_no hn]
      exact ih (by omega) (fun m hm => h m (by omega))
theorem ct_sum {p q r : Nat → Bool} {n : Nat} (h : ∀ m, m < n → r m = (p m || q m)) (hd : ∀ m, m < n → ¬(p m = true ∧ q m = true)) : countTo r n = countTo p n + countTo q n := by
  induction n with
  | zero => rfl
  | succ n ih =>
    have := ih (fun m hm => h m (by omega)) (fun m hm => hd m (by omega))
    have h2 := h n (by omega)
    have h3 := hd n (by omega)
    unfold countTo
    cases hp : p n <;> cases hq : q n <;> simp [hp, hq] at h2 h3 <;> simp [h2] <;> omega
theorem ct_pos {p : Nat → Bool} {n i : Nat} (hi : i < n) (hp : p i = true) : 0 < countTo p n := by
  have h : ∀ m, m < n → (fun _ : Nat => false) m = true → p m = true := fun _ _ e => by cases e
  have := ct_lt h hi hp rfl
  omega
theorem ct_ex {p : Nat → Bool} {n : Nat} (h : 0 < countTo p n) : ∃ i, i < n ∧ p i = true := by
  induction n with
  | zero => exact absurd h (by simp [countTo])
  | succ n ih =>
    cases hp : p n with
    | true => exact ⟨n, by omega, hp⟩
    | false =>
      rw [countTo_no hp] at h
      obtain ⟨i, hi, hpi⟩ := ih h
      exact ⟨i, by omega, hpi⟩
/-- At most one number meets p: all that meet it are equal. -/
theorem ct_uniq {p : Nat → Bool} {n i j : Nat} (h : countTo p n ≤ 1) (hi : i < n) (hj : j < n) (hpi : p i = true) (hpj : p j = true) : i = j := by
  rcases Nat.decEq i j with e | e
  · have h1 : countTo (fun m => decide (m = i)) n = 1 := ct_one hi (by simp) (by intro m _ hm; simpa using hm)
    have h2 := ct_lt (p := fun m => decide (m = i)) (q := p) (n := n) (i := j) (fun m _ hm => by simp at hm; subst hm; exact hpi) hj hpj (by simp; omega)
    omega
  · exact e
/-- A part that is as large as the whole is the whole. -/
theorem ct_full {p q : Nat → Bool} {n : Nat} (h : ∀ m, m < n → p m = true → q m = true) (e : countTo q n ≤ countTo p n) : ∀ m, m < n → q m = true → p m = true := by
  intro m hm hq
  cases hp : p m with
  | true => rfl
  | false => have := ct_lt h hm hq hp; omega
theorem ct_ge (p : Nat → Bool) {m n : Nat} (h : m ≤ n) : countTo p m ≤ countTo p n := by
  obtain ⟨k, rfl⟩ : ∃ k, n = m + k := ⟨n - m, by omega⟩
  clear h
  induction k with
  | zero => exact Nat.le_refl _
  | succ k ih => exact Nat.le_trans ih (Nat.le_add_right _ _)
/-- A sum of natural numbers over the numbers below n. -/
def sumN (f : Nat → Nat) : Nat → Nat
  | 0 => 0
  | n + 1 => sumN f n + f n
theorem sumN_add (f g : Nat → Nat) (n : Nat) : sumN (fun i => f i + g i) n = sumN f n + sumN g n := by
  induction n with
  | zero => rfl
  | succ n ih => simp only [sumN]; rw [ih]; omega
theorem sumN_congr {f g : Nat → Nat} {n : Nat} (h : ∀ i, i < n → f i = g i) : sumN f n = sumN g n := by
  induction n with
  | zero => rfl
  | succ n ih => simp only [sumN]; rw [ih (fun i hi => h i (by omega)), h n (by omega)]
theorem sumN_zero {f : Nat → Nat} {n : Nat} (h : ∀ i, i < n → f i = 0) : sumN f n = 0 := by
  induction n with
  | zero => rfl
  | succ n ih => simp only [sumN]; rw [ih (fun i hi => h i (by omega)), h n (by omega)]
theorem sumN_one {f : Nat → Nat} {n i : Nat} (hi : i < n) (h : ∀ j, j < n → j ≠ i → f j = 0) : sumN f n = f i := by
  induction n with
  | zero => omega
  | succ n ih =>
    simp only [sumN]
    by_cases e : i = n
    · subst e; rw [sumN_zero (fun j hj => h j (by omega) (by omega))]; omega
    · rw [ih (by omega) (fun j hj hne => h j (by omega) hne), h n (by omega) (fun h' => e h'.symm)]; omega
theorem sumN_le {f : Nat → Nat} {n c : Nat} (h : ∀ i, i < n → f i ≤ c) : sumN f n ≤ n * c := by
  induction n with
  | zero => simp [sumN]
  | succ n ih =>
    simp only [sumN]
    have := ih (fun i hi => h i (by omega))
    have h2 := h n (by omega)
    rw [Nat.add_mul]; omega
/-- A sum that is as large as its bounds allow: each term is as large. -/
theorem sumN_full {f : Nat → Nat} {n c : Nat} (h : ∀ i, i < n → f i ≤ c) (e : n * c ≤ sumN f n) : ∀ i, i < n → f i = c := by
  induction n with
  | zero => intro i hi; omega
  | succ n ih =>
    simp only [sumN] at e
    have h1 := sumN_le (f := f) (n := n) (c := c) (fun i hi => h i (by omega))
    have h2 := h n (by omega)
    rw [Nat.add_mul] at e
    intro i hi
    by_cases e' : i = n
    · subst e'; omega
    · exact ih (fun i hi => h i (by omega)) (by omega) i (by omega)
theorem sumN_even {f : Nat → Nat} {n : Nat} (h : ∀ i, i < n → f i % 2 = 0) : sumN f n % 2 = 0 := by
  induction n with
  | zero => rfl
  | succ n ih =>
    have := ih (fun i hi => h i (by omega))
    have h2 := h n (by omega)
    simp only [sumN]; omega
/-- Counting by classes: each number that meets p has one class below k. -/
theorem ct_classes {p : Nat → Bool} {c : Nat → Nat} {n k : Nat} (h : ∀ m, m < n → p m = true → c m < k) : countTo p n = sumN (fun d => countTo (fun m => p m && c m == d) n) k := by
  induction n with
  | zero => exact (sumN_zero (fun _ _ => rfl)).symm
  | succ n ih =>
    have ih' := ih (fun m hm => h m (by omega))
    simp only [countTo]
    rw [sumN_add, ih']
    congr 1
    by_cases hp : p n = true
    · rw [if_pos hp, sumN_one (i := c n) (h n (by omega) hp) (by
        intro j _ hj
        have : ¬ c n = j := fun e => hj e.symm
        simp [this])]
      simp [hp]
    · rw [if_neg hp]
      exact (sumN_zero (fun _ _ => by simp [hp])).symm
/-- Distinct integers from 1 to their number: those up to v are v many. -/
theorem ct_low {p : Nat → Bool} {f : Nat → Int} {n : Nat} (hb : ∀ m, m < n → p m = true → 1 ≤ f m ∧ f m ≤ countTo p n) (hd : ∀ i j, i < n → j < n → p i = true → p j = true → f i = f j → i = j) :
    ∀ v : Nat, v ≤ countTo p n → countTo (fun m => p m && decide (f m ≤ (v : Int))) n = v := by
  have step : ∀ v : Nat, countTo (fun m => p m && decide (f m ≤ ((v + 1 : Nat) : Int))) n ≤ countTo (fun m => p m && decide (f m ≤ (v : Int))) n + 1 := by
    intro v
    rw [ct_sum (p := fun m => p m && decide (f m ≤ (v : Int))) (q := fun m => p m && decide (f m = ((v + 1 : Nat) : Int)))]
    · refine Nat.add_le_add_left ?_ _
      by_cases hx : ∃ k, k < n ∧ (p k && decide (f k = ((v + 1 : Nat) : Int))) = true
      · obtain ⟨k, hk, hp⟩ := hx
        simp at hp
        refine Nat.le_of_eq (ct_one hk (by simp [hp]) fun m hm hpm => ?_)
        simp at hpm
        exact hd m k hm hk hpm.1 hp.1 (by omega)
      · rw [ct_none]
        · omega
        · intro m hm
          cases hq : (p m && decide (f m = ((v + 1 : Nat) : Int))) with
          | false => rfl
          | true => exact absurd ⟨m, hm, hq⟩ hx
    · intro m _
      cases p m
      · rfl
      · simp only [Bool.true_and]
        rw [← Bool.decide_or]
        apply decide_eq_decide.2
        omega
    · intro m _ ⟨h1, h2⟩
      simp at h1 h2
      omega
  have h0 : countTo (fun m => p m && decide (f m ≤ ((0 : Nat) : Int))) n = 0 := ct_none fun m hm => by
    cases hp : p m with
    | false => rfl
    | true =>
      have := (hb m hm hp).1
      have : ¬ f m ≤ ((0 : Nat) : Int) := by omega
      simp only [this, decide_false, Bool.and_false]
  have hup : ∀ v k : Nat, countTo (fun m => p m && decide (f m ≤ ((v + k : Nat) : Int))) n ≤ countTo (fun m => p m && decide (f m ≤ (v : Int))) n + k := by
    intro v k
    induction k with
    | zero => exact Nat.le_refl _
    | succ k ih =>
      have := step (v + k)
      rw [show v + (k + 1) = v + k + 1 by omega]
      omega
  have hall : countTo (fun m => p m && decide (f m ≤ ((countTo p n : Nat) : Int))) n = countTo p n := ct_congr fun m hm => by
    cases hp : p m with
    | false => rfl
    | true => have := (hb m hm hp).2; simp [this]
  intro v hv
  have a1 := hup 0 v
  rw [Nat.zero_add] at a1
  have a2 := hup v (countTo p n - v)
  rw [show v + (countTo p n - v) = countTo p n by omega, hall] at a2
  have h0' : countTo (fun m => p m && decide (f m ≤ ((0 : Nat) : Int))) n = 0 := h0
  omega
end Go.Proofs.YtkjcmppaapbabaaDoor
