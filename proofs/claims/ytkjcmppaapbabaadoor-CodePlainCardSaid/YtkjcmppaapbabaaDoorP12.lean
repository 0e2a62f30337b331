/-
  Plain: a curve that is drawn without crossings winds 0 times or once, always in one direction. No walk.
-/
import Derived.Test.YtkjcmppaapbabaaDoorP11
namespace Go.Proofs.YtkjcmppaapbabaaDoor
theorem even_pairs {p : Nat → Bool} : ∀ m, (∀ l, l < 2 * m → l % 2 = 0 → p l = p (l + 1)) → countTo p (2 * m) % 2 = 0
  | 0, _ => rfl
  | m + 1, h => by
    have ih := even_pairs m (fun l hl h2 => h l (by omega) h2)
    have h1 := h (2 * m) (by omega) (by omega)
    rw [show 2 * (m + 1) = 2 * m + 1 + 1 by omega]
    unfold countTo
    unfold countTo
    rw [← h1]
    split <;> omega
theorem odd_pairs {p : Nat → Bool} : ∀ m, (∀ l, l < 2 * m → l % 2 = 1 → p l = p (l + 1)) → countTo p (2 * m + 1) % 2 = (if p 0 then 1 else 0)
  | 0, _ => by
    show (0 + (if p 0 then 1 else 0)) % 2 = _
    split <;> rfl
  | m + 1, h => by
    have ih := odd_pairs m (fun l hl h2 => h l (by omega) h2)
    have h1 := h (2 * m + 1) (by omega) (by omega)
    rw [show 2 * (m + 1) + 1 = 2 * m + 1 + 1 + 1 by omega]
    have e : countTo p (2 * m + 1 + 1 + 1) = countTo p (2 * m + 1) + (if p (2 * m + 1) then 1 else 0) + (if p (2 * m + 1 + 1) then 1 else 0) := rfl
    rw [e, ← h1]
    split <;> omega
/-- What is the same at both ends of each arc of one side is met an even number of times. -/
theorem arcs_even {p : Nat → Bool} {n s : Nat} (he : n % 2 = 0) (hs : s < 2) (h : ∀ l, l < n → l % 2 = s → p l = p ((l + 1) % n)) : countTo p n % 2 = 0 := by
  obtain ⟨m, rfl⟩ : ∃ m, n = 2 * m := ⟨n / 2, by omega⟩
  by_cases h0 : s = 0
  · subst h0
    exact even_pairs m fun l hl h2 => by
      have := h l hl h2
      rwa [Nat.mod_eq_of_lt (by omega)] at this
  · obtain rfl : s = 1 := by omega
    cases m with
    | zero => rfl
    | succ k =>
      have h1 := odd_pairs (p := p) k (fun l hl h2 => by
        have := h l (by omega) h2
        rwa [Nat.mod_eq_of_lt (by omega)] at this)
      have h2 := h (2 * k + 1) (by omega) (by omega)
      rw [show 2 * k + 1 + 1 = 2 * (k + 1) by omega, Nat.mod_self] at h2
      have e : countTo p (2 * (k + 1)) = countTo p (2 * k + 1) + (if p (2 * k + 1) then 1 else 0) := rfl
      rw [e, h2]
      cases hp : p 0 <;> rw [hp] at h1 <;> simp at h1 ⊢ <;> omega
theorem countTo_sum {p q r : Nat → Bool} {n : Nat} (h : ∀ m, m < n → r m = (p m || q m)) (hd : ∀ m, m < n → ¬(p m = true ∧ q m = true)) : countTo r n = countTo p n + countTo q n := by
  induction n with
  | zero => rfl
  | succ n ih =>
    have := ih (fun m hm => h m (by omega)) (fun m hm => hd m (by omega))
    have h2 := h n (by omega)
    have h3 := hd n (by omega)
    unfold countTo
    cases hp : p n <;> cases hq : q n <;> simp [hp, hq] at h2 h3 <;> simp [h2] <;> omega
/-- How many crossings lie left of a crossing. -/
def posN (L S : List Int) (i : Nat) : Nat := countTo (fun k => befB L S k i) L.length
theorem btw_even {L S : List Int} (h : DrawnR L S) (he : L.length % 2 = 0) {i : Nat} (hi : i < L.length) : countTo (fun k => btwB L S k i ((i + 1) % L.length)) L.length % 2 = 0 := by
  refine arcs_even he (Nat.mod_lt i (by omega)) (fun l hl hp => ?_)
  by_cases e : l = i
  · subst e
    have h1 : ¬Btw L S l l ((l + 1) % L.length) := by unfold Btw Bef; omega
    have h2 : ¬Btw L S ((l + 1) % L.length) l ((l + 1) % L.length) := by unfold Btw Bef; omega
    rw [← btw_iff] at h1 h2
    simp only [Bool.not_eq_true] at h1 h2
    rw [h1, h2]
  · exact h.2.2 i l hi hl hp e
theorem pos_arc {L S : List Int} (h : DrawnR L S) {i x : Nat} (hi : i < L.length) (hev : countTo (fun k => btwB L S k i x) L.length % 2 = 0) (hb : Bef L S i x) : posN L S x % 2 = (posN L S i + 1) % 2 := by
  have e1 : posN L S x = posN L S i + (countTo (fun k => decide (k = i)) L.length + countTo (fun k => btwB L S k i x) L.length) := by
    unfold posN
    rw [← countTo_sum (p := fun k => decide (k = i)) (q := fun k => btwB L S k i x) (r := fun k => decide (k = i) || btwB L S k i x) (fun m _ => rfl) (fun m _ ⟨a, b⟩ => by
      have a' : m = i := of_decide_eq_true a
      subst a'
      have := btw_iff.1 b
      unfold Btw Bef at this
      omega)]
    refine countTo_sum (fun m hm => ?_) (fun m hm ⟨a, b⟩ => ?_)
    · rw [Bool.eq_iff_iff]
      simp only [Bool.or_eq_true, decide_eq_true_eq, bef_iff, btw_iff]
      by_cases hmi : m = i
      · subst hmi
        exact ⟨fun _ => .inr (.inl rfl), fun _ => hb⟩
      · have := bef_total h hm hi hmi
        unfold Btw
        unfold Bef at *
        omega
    · have a' := bef_iff.1 a
      simp only [Bool.or_eq_true, decide_eq_true_eq, btw_iff] at b
      rcases b with b | b
      · subst b; unfold Bef at a'; omega
      · unfold Btw at b; unfold Bef at *; omega
  rw [e1, countTo_one hi (by simp) (fun m _ hm => of_decide_eq_true hm)]
  omega
theorem pos_next {L S : List Int} (h : DrawnR L S) (he : L.length % 2 = 0) (hr : redB L = true) {i : Nat} (hi : i < L.length) : posN L S ((i + 1) % L.length) % 2 = (posN L S i + 1) % 2 := by
  have hx : (i + 1) % L.length < L.length := Nat.mod_lt _ (by omega)
  have hne : i ≠ (i + 1) % L.length := fun e => red_ne hr hi (by rw [← e])
  have hev := btw_even h he hi
  rcases bef_total h hi hx hne with hb | hb
  · exact pos_arc h hi hev hb
  · have hev2 : countTo (fun k => btwB L S k ((i + 1) % L.length) i) L.length % 2 = 0 := by
      rw [← hev]
      congr 1
      refine countTo_congr fun m _ => ?_
      rw [Bool.eq_iff_iff, btw_iff, btw_iff, btw_symm]
    have := pos_arc h hx hev2 hb
    omega
theorem pos_parity {L S : List Int} (h : DrawnR L S) (he : L.length % 2 = 0) (hr : redB L = true) : ∀ i, i < L.length → posN L S i % 2 = (posN L S 0 + i) % 2
  | 0, _ => rfl
  | i + 1, hi => by
    have := pos_next h he hr (show i < L.length by omega)
    rw [Nat.mod_eq_of_lt hi] at this
    have ih := pos_parity h he hr i (by omega)
    omega
end Go.Proofs.YtkjcmppaapbabaaDoor
