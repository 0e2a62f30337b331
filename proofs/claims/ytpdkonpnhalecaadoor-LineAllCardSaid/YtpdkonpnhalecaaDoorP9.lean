/-
  Plain: one step of the reference's reduction stays on the curve; what it ends with is reduced. No walk.
-/
import Derived.Test.YtpdkonpnhalecaaDoorP8
namespace Go.Proofs.YtpdkonpnhalecaaDoor
theorem eqNext_get {P : List Int} {k : Nat} (h : eqNext P k = true) : P[k]? = P[(k + 1) % P.length]? := by
  unfold eqNext at h
  simpa using h
/-- The pair of the first place k is cut out, behind an even rotation. -/
theorem redStep_even {P : List Int} {k : Nat} (he : P.length % 2 = 0) (hk : k < P.length) (hp : eqNext P k = true) (h2 : k % 2 = 0) :
    Eqv P ((rotL P k).drop 2) := by
  have h := eqNext_get hp
  have r0 := rotL_get (L := P) (a := k) (i := 0) hk (by omega)
  have r1 := rotL_get (L := P) (a := k) (i := 1) hk (by omega)
  rw [Nat.add_zero, Nat.mod_eq_of_lt hk] at r0
  have hl := rotL_len P k (by omega)
  have e : Eqv P (rotL P k) := by
    have := Eqv.of_rot2 (rot2_of (X := P) (j := k / 2) (by omega))
    rwa [show 2 * (k / 2) = k by omega] at this
  refine e.trans ?_
  match hR : rotL P k with
  | [] => rw [hR] at hl; simp at hl; omega
  | [_] => rw [hR] at hl; simp at hl; omega
  | x :: y :: v =>
    rw [hR] at r0 r1
    simp only [List.getElem?_cons_zero, List.getElem?_cons_succ] at r0 r1
    have : x = y := by rw [← r0, ← r1] at h; exact Option.some.inj h
    subst this
    exact Eqv.del [] x v
theorem redStep_odd {P : List Int} {j : Nat} (he : P.length % 2 = 0) (hk : j + 1 < P.length) (hn : NoneTo (eqNext P) (j + 1)) (hp : eqNext P (j + 1) = true) (h2 : j % 2 = 0) :
    4 ≤ P.length ∧ Eqv P ((rotL P j).take 1 ++ (rotL P j).drop 3) := by
  have h := eqNext_get hp
  have h4 : 4 ≤ P.length := by
    rcases Nat.lt_or_ge P.length 4 with h' | h'
    · have hl : P.length = 2 := by omega
      have hj : j = 0 := by omega
      subst hj
      have := hn 0 (by omega)
      unfold eqNext at this
      rw [hl] at h this
      simp at h this
      exact absurd h.symm this
    · exact h'
  refine ⟨h4, ?_⟩
  have r1 := rotL_get (L := P) (a := j) (i := 1) (by omega) (by omega)
  have r2 := rotL_get (L := P) (a := j) (i := 2) (by omega) (by omega)
  rw [Nat.mod_eq_of_lt hk] at r1
  have hl := rotL_len P j (by omega)
  have e : Eqv P (rotL P j) := by
    have := Eqv.of_rot2 (rot2_of (X := P) (j := j / 2) (by omega))
    rwa [show 2 * (j / 2) = j by omega] at this
  refine e.trans ?_
  match hR : rotL P j with
  | [] => rw [hR] at hl; simp at hl; omega
  | [_] => rw [hR] at hl; simp at hl; omega
  | [_, _] => rw [hR] at hl; simp at hl; omega
  | z :: x :: y :: v =>
    rw [hR] at r1 r2
    simp only [List.getElem?_cons_zero, List.getElem?_cons_succ] at r1 r2
    have : x = y := by
      rw [show j + 1 + 1 = j + 2 by omega, ← r1, ← r2] at h
      exact Option.some.inj h
    subst this
    exact Eqv.del [z] x v
theorem redP_of_get : ∀ {r : List Int}, (∀ i, i + 1 < r.length → r[i]? ≠ r[i + 1]?) → RedP r
  | [], _ => trivial
  | [_], _ => trivial
  | a :: b :: r, h => ⟨fun e => h 0 (by simp) (by simp [e]), redP_of_get fun i hi => by
      have := h (i + 1) (by simpa using hi)
      simpa using this⟩
theorem reduceL_of_pair {r : List Int} (he : r.length % 2 = 0) (hp : NoneTo (eqNext r) r.length) : reduceL r = r := by
  have hne : ∀ i, i < r.length → r[i]? ≠ r[(i + 1) % r.length]? := fun i hi e => by
    have := hp i hi
    unfold eqNext at this
    simp [e] at this
  refine reduceL_of_red he (redP_of_get fun i hi => ?_) fun h0 e => ?_
  · have := hne i (by omega)
    rwa [Nat.mod_eq_of_lt hi] at this
  · have := hne (r.length - 1) (by omega)
    rw [show r.length - 1 + 1 = r.length by omega, Nat.mod_self] at this
    rw [List.head?_eq_getElem?, List.getLast?_eq_getElem?] at e
    exact this e.symm
/-- What the reference finds is the program's normal form. -/
theorem normal_of_reduced {L R : List Int} (he : L.length % 2 = 0) (h : Eqv L R) (hp : NoneTo (eqNext R) R.length) : refTo R (R.length / 2) = normalL L := by
  have heR : R.length % 2 = 0 := by rw [← h.len]; exact he
  rw [refTo_best heR, h.normal he, normalL_best, reduceL_of_pair heR hp]
theorem pairI_none {R : List Int} (h : pairI R < 0) : NoneTo (eqNext R) R.length := by
  unfold pairI at h
  rcases firstI_cases (eqNext R) R.length with ⟨_, h'⟩ | ⟨k, _, e, _, _⟩
  · exact h'
  · rw [e] at h; omega
end Go.Proofs.YtpdkonpnhalecaaDoor
