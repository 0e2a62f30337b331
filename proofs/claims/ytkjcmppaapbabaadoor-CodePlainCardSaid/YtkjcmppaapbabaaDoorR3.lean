/-
  Contract: ref.try, ref.Ranks. Conditions: the slices read.
-/
import Derived.Test.YtkjcmppaapbabaaDoorR2
namespace Go.Proofs.YtkjcmppaapbabaaDoor
open Go.RowKit
/-- What ref.try returns: ranks that draw the word, or there are none that begin so. -/
def GivesT (w : World) (L R : List Int) (e : Ending) (w' : World) : Prop :=
  ∃ b A' n' c', e = .returned (.tuple #[.slice A' n' c', .bool b]) ∧ (b = true → ∃ S, Ints w' A' n' S ∧ DrawnR L S) ∧ (b = false → ∀ S, R <+: S → ¬DrawnR L S) ∧ Below w.heap.size w w'
theorem lat_append_left {R T : List Int} {j : Nat} (h : j < R.length) : lat (R ++ T) j = lat R j := by
  unfold lat
  rw [List.getElem?_append_left h]
theorem prefix_lat {R S : List Int} (h : R <+: S) {j : Nat} (hj : j < R.length) : lat S j = lat R j := by
  obtain ⟨T, rfl⟩ := h
  exact lat_append_left hj
theorem countTo_two {p : Nat → Bool} {n i j : Nat} (hij : i < j) (hj : j < n) (hi : p i = true) (hjp : p j = true) : 2 ≤ countTo p n := by
  have one : ∀ k m, k < m → p k = true → 1 ≤ countTo p m := by
    intro k m
    induction m with
    | zero => intro h; omega
    | succ m ih =>
      intro h hk
      by_cases e : k = m
      · subst e; rw [countTo_yes hk]; omega
      · have := ih (by omega) hk
        unfold countTo; omega
  induction n with
  | zero => omega
  | succ n ih =>
    by_cases e : j = n
    · subst e
      have := one i j hij hi
      rw [countTo_yes hjp]; omega
    · have := ih (by omega)
      unfold countTo; omega
/-- A number is taken already. -/
def takenB (L R : List Int) (m : Nat) (r : Int) (j : Nat) : Bool := !(decide (lat L j = lat L m) && decide (lat R j = r))
theorem not_taken {L R S : List Int} {m j : Nat} {r : Int} (hm : R.length = m) (hmL : m < L.length) (hp : R <+: S) (hS : DrawnR L S) (hj : j < m) (ht : takenB L R m r j = false) : lat S m ≠ r := by
  intro e
  unfold takenB at ht
  simp at ht
  have h1 := (hS.2.1 m hmL).2.2
  unfold sameN at h1
  have h2 : 2 ≤ countTo (bothB L S m) L.length := by
    refine countTo_two hj hmL ?_ ?_
    · unfold bothB
      rw [ht.1, prefix_lat hp (by omega), ht.2, e]; simp
    · unfold bothB; simp
  omega
theorem prefix_snoc {R S : List Int} {r : Int} (hp : R <+: S) (hl : R.length < S.length) (h : lat S R.length = r) : R ++ [r] <+: S := by
  obtain ⟨T, rfl⟩ := hp
  cases T with
  | nil => simp at hl
  | cons t T =>
    have : lat (R ++ t :: T) R.length = t := by unfold lat; simp
    rw [this] at h
    subst h
    exact ⟨T, by simp⟩

end Go.Proofs.YtkjcmppaapbabaaDoor
