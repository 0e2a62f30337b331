/-
  Plain: rotations and comparisons of lists, and the normal form as line.normal computes it. No program in sight.
-/
import Derived.Test.YtpdkonpnhalecaaDoorP1
namespace Go.Proofs.YtpdkonpnhalecaaDoor
/-- A list from one place on, and then what is ahead of it. -/
def rotL {α : Type} (L : List α) (i : Nat) : List α := L.drop i ++ L.take i
theorem rotL_len {α : Type} (L : List α) (i : Nat) (h : i ≤ L.length) : (rotL L i).length = L.length := by simp [rotL]; omega
theorem rotL_get {α : Type} (L : List α) {a i : Nat} (ha : a < L.length) (hi : i < L.length) : (rotL L a)[i]? = L[(a + i) % L.length]? := by
  unfold rotL
  by_cases h : i < L.length - a
  · rw [List.getElem?_append_left (by simpa using h), List.getElem?_drop, Nat.mod_eq_of_lt (by omega)]
  · rw [List.getElem?_append_right (by simpa using h), List.length_drop, List.getElem?_take, if_pos (by omega)]
    have e : (a + i) % L.length = i - (L.length - a) := by
      rw [show a + i = (i - (L.length - a)) + L.length by omega, Nat.add_mod_right, Nat.mod_eq_of_lt (by omega)]
    rw [e]
/-- The first difference. -/
def cmpL : List Int → List Int → Int
  | x :: xs, y :: ys => if x = y then cmpL xs ys else x - y
  | _, _ => 0
theorem cmpL_nil (M : List Int) : cmpL [] M = 0 := by cases M <;> rfl
theorem cmpL_same {x : Int} {A B : List Int} {i : Nat} (ha : A[i]? = some x) (hb : B[i]? = some x) : cmpL (A.drop i) (B.drop i) = cmpL (A.drop (i + 1)) (B.drop (i + 1)) := by
  obtain ⟨h1, e1⟩ := List.getElem?_eq_some_iff.1 ha
  obtain ⟨h2, e2⟩ := List.getElem?_eq_some_iff.1 hb
  rw [List.drop_eq_getElem_cons h1, List.drop_eq_getElem_cons h2, e1, e2, cmpL, if_pos rfl]
theorem cmpL_diff {x y : Int} {A B : List Int} {i : Nat} (ha : A[i]? = some x) (hb : B[i]? = some y) (h : x ≠ y) : cmpL (A.drop i) (B.drop i) = x - y := by
  obtain ⟨h1, e1⟩ := List.getElem?_eq_some_iff.1 ha
  obtain ⟨h2, e2⟩ := List.getElem?_eq_some_iff.1 hb
  rw [List.drop_eq_getElem_cons h1, List.drop_eq_getElem_cons h2, e1, e2, cmpL, if_neg h]
/-- The best even place among 0, 2, .., 2 k. -/
def bestTo (L : List Int) : Nat → Nat
  | 0 => 0
  | k + 1 => if cmpL (rotL L (2 * (k + 1))) (rotL L (bestTo L k)) < 0 then 2 * (k + 1) else bestTo L k
theorem bestTo_le (L : List Int) (k : Nat) : bestTo L k ≤ 2 * k := by
  induction k with
  | zero => exact Nat.le_refl _
  | succ k ih => rw [bestTo]; split <;> omega
/-- line.least. -/
def leastL (L : List Int) : List Int := rotL L (bestTo L ((L.length - 1) / 2))
theorem leastL_len (L : List Int) : (leastL L).length = L.length := by
  unfold leastL
  refine rotL_len _ _ ?_
  have := bestTo_le L ((L.length - 1) / 2)
  omega
/-- slices.Compare. -/
def cmpS : List Int → List Int → Int
  | [], [] => 0
  | [], _ :: _ => -1
  | _ :: _, [] => 1
  | x :: xs, y :: ys => if x < y then -1 else if y < x then 1 else cmpS xs ys
/-- line.normal. -/
def normalL (L : List Int) : List Int :=
  if reduceL L = [] then [] else
    if cmpS (leastL (reduceL L).reverse) (leastL (reduceL L)) < 0 then leastL (reduceL L).reverse else leastL (reduceL L)
theorem mem_dropLast {α : Type} {l : List α} {x : α} (h : x ∈ l.dropLast) : x ∈ l := by rw [List.dropLast_eq_take] at h; exact List.mem_of_mem_take h
theorem mem_stackTo {L : List Int} {k : Nat} {y : Int × Bool} (h : y ∈ stackTo L k) : y.1 ∈ L := by
  induction k with
  | zero => simp [stackTo] at h
  | succ k ih =>
    rw [stackTo] at h
    split at h
    · rename_i g hg
      unfold pushS at h
      split at h
      · exact ih (mem_dropLast h)
      · rcases List.mem_append.1 h with h | h
        · exact ih h
        · simp at h; subst h; exact List.mem_of_getElem? hg
    · exact ih h
theorem mem_trimF {f : Nat} : ∀ {S : List (Int × Bool)} {y : Int × Bool}, y ∈ trimF f S → y ∈ S := by
  induction f with
  | zero => intro S y h; exact h
  | succ f ih =>
    intro S y h
    rw [trimF] at h
    split at h
    · exact List.mem_of_mem_tail (mem_dropLast (ih h))
    · exact h
theorem mem_turnS {S : List (Int × Bool)} {y : Int × Bool} (h : y ∈ turnS S) : y ∈ S := by
  cases S with
  | nil => exact h
  | cons x r =>
    change y ∈ (if x.2 = true then x :: r else r ++ [x]) at h
    split at h
    · exact h
    · simp at h ⊢; exact h.symm
theorem mem_reduceL {L : List Int} {x : Int} (h : x ∈ reduceL L) : x ∈ L := by
  unfold reduceL at h
  obtain ⟨y, hy, rfl⟩ := List.mem_map.1 h
  exact mem_stackTo (mem_trimF (mem_turnS hy))
theorem reduceL_len (L : List Int) : (reduceL L).length ≤ L.length := by
  unfold reduceL
  rw [List.length_map, turnS_len]
  exact Nat.le_trans (trimF_len _ _) (stackTo_len _ _)
end Go.Proofs.YtpdkonpnhalecaaDoor
