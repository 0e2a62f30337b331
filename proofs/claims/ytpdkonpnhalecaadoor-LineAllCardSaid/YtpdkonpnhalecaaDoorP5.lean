/-
  Plain: the ranks, as the program finds them. No program in sight.
-/
import Derived.Test.YtpdkonpnhalecaaDoorP4
namespace Go.Proofs.YtpdkonpnhalecaaDoor
def rankHit (L : List Int) (i j : Nat) : Prop := i ≠ j ∧ lat L i = lat L j ∧ orderI L i j = 1
instance (L : List Int) (i j : Nat) : Decidable (rankHit L i j) := by unfold rankHit; infer_instance
def rankTo (L : List Int) (i : Nat) : Nat → Nat
  | 0 => 1
  | m + 1 => rankTo L i m + if rankHit L i m then 1 else 0
def ranksL (L : List Int) : List Int := (List.range L.length).map fun i => (rankTo L i L.length : Int)
def Parts (L : List Int) : Prop := ∀ i j, i < L.length → j < L.length → i ≠ j → lat L i = lat L j → orderI L i j ≠ 0
def RanksOk (L : List Int) : Prop := Parts L ∧ DrawnP L (ranksL L)
theorem rankTo_bd (L : List Int) (i : Nat) : ∀ m, 1 ≤ rankTo L i m ∧ rankTo L i m ≤ m + (if i < m then 0 else 1) := by
  intro m
  induction m with
  | zero => simp [rankTo]
  | succ m ih =>
    rw [rankTo]
    by_cases h : i = m
    · subst h
      have : ¬rankHit L i i := fun h => h.1 rfl
      rw [if_neg this, if_pos (by omega)]
      rw [if_neg (by omega)] at ih
      omega
    · split <;> split at ih <;> split <;> omega
theorem rankTo_le {L : List Int} {i m : Nat} (h : i < L.length) (hm : m ≤ L.length) : rankTo L i m ≤ L.length := by
  have := rankTo_bd L i m
  split at this <;> omega
theorem ranksL_len (L : List Int) : (ranksL L).length = L.length := by simp [ranksL]
theorem ranksL_at {L : List Int} {i : Nat} (h : i < L.length) : (ranksL L)[i]? = some (rankTo L i L.length : Int) := by
  simp [ranksL, h]
theorem ranksL_bd {L : List Int} (h : L.length ≤ 400) : ∀ x ∈ ranksL L, 0 ≤ x ∧ x ≤ 1000 := by
  intro x hx
  obtain ⟨i, hi, rfl⟩ := List.mem_map.1 hx
  have := rankTo_le (L := L) (m := L.length) (List.mem_range.1 hi) (Nat.le_refl _)
  omega
end Go.Proofs.YtpdkonpnhalecaaDoor
