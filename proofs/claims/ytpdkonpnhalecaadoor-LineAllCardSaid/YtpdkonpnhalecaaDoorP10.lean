/-
  Plain laws of words: the normal form is reduced and its own normal form; inserted pairs; mirror, turn and reverse. No walk.
-/
import Derived.Test.YtpdkonpnhalecaaDoorP9
namespace Go.Proofs.YtpdkonpnhalecaaDoor
theorem normalL_idem {L : List Int} (he : L.length % 2 = 0) : normalL (normalL L) = normalL L := ((eqv_normalL he).normal he).symm
theorem normalL_none {L : List Int} (he : L.length % 2 = 0) : NoneTo (eqNext (normalL L)) (normalL L).length := by
  obtain ⟨_, hN⟩ := normalL_len he
  have hid := normalL_idem he
  generalize normalL L = N at hN hid
  rcases firstI_cases (eqNext N) N.length with ⟨_, h⟩ | ⟨k, hk, _, hno, hyes⟩
  · exact h
  · exfalso
    have key : ∃ M, Eqv N M ∧ M.length < N.length := by
      rcases Nat.mod_two_eq_zero_or_one k with h2 | h2
      · refine ⟨_, redStep_even hN hk hyes h2, ?_⟩
        rw [List.length_drop, rotL_len _ _ (by omega)]
        omega
      · obtain ⟨j, rfl⟩ : ∃ j, k = j + 1 := ⟨k - 1, by omega⟩
        obtain ⟨h4, h⟩ := redStep_odd hN hk hno hyes (by omega)
        refine ⟨_, h, ?_⟩
        rw [List.length_append, List.length_take, List.length_drop, rotL_len _ _ (by omega)]
        omega
    obtain ⟨M, hM, hlt⟩ := key
    have heM : M.length % 2 = 0 := by rw [← hM.len]; exact hN
    have := (normalL_len heM).1
    rw [← hM.normal hN, hid] at this
    omega
theorem redB_normalL {L : List Int} (h : wordB L = true) : redB (normalL L) = true := by
  unfold redB pairI
  rw [wordB_normalL h, firstI_none (normalL_none (wordB_even h))]
  rfl
/-- A letter is inserted twice. -/
theorem eqv_insert (L : List Int) (k : Nat) (g : Int) : Eqv (L.take k ++ [g, g] ++ L.drop k) L := by
  have := Eqv.del (L.take k) g (L.drop k)
  rw [List.take_append_drop] at this
  simpa using this
/-- .. so that it stands at the two ends. -/
theorem eqv_ends {x g : Int} {r : List Int} (he : (x :: r).length % 2 = 0) : Eqv ([g] ++ r ++ [x] ++ [g]) (x :: r) := by
  have h1 := Eqv.rot (g :: r) [x, g] (by simpa using he)
  have h2 := Eqv.del [x] g r
  have h3 : Eqv (g :: r ++ [x, g]) (x :: r) := h1.trans h2
  simpa using h3
theorem turnL_map (f : Int → Int) (L : List Int) : tnL (L.map f) = (tnL L).map f := by cases L <;> simp [tnL]
theorem turnL_len (L : List Int) : (tnL L).length = L.length := by cases L <;> simp [tnL]
theorem mem_turnL {L : List Int} {x : Int} (h : x ∈ tnL L) : x ∈ L := by
  cases L with
  | nil => exact h
  | cons a r => simp [tnL] at h ⊢; exact h.symm
theorem eqv_turn_turn {L : List Int} (he : L.length % 2 = 0) : Eqv (tnL (tnL L)) L := by
  match L, he with
  | [], _ => exact Eqv.refl _
  | [_], he => simp at he
  | x :: y :: r, _ =>
    have := Eqv.rot [x, y] r (by simp)
    refine Eqv.symm ?_
    simpa [tnL] using this
theorem eqv_turn_reverse {L : List Int} (he : L.length % 2 = 0) : Eqv (tnL L).reverse (tnL L.reverse) := by
  match L, he with
  | [], _ => exact Eqv.refl _
  | [_], he => simp at he
  | x :: y :: r, _ =>
    obtain ⟨z, s, hz⟩ : ∃ z s, r.reverse ++ [y] = z :: s := by
      cases h : r.reverse with
      | nil => exact ⟨y, [], rfl⟩
      | cons z s => exact ⟨z, s ++ [y], rfl⟩
    have e1 : (tnL (x :: y :: r)).reverse = [x, z] ++ s := by simp [tnL]; exact hz
    have e2 : tnL (x :: y :: r).reverse = s ++ [x, z] := by
      rw [List.reverse_cons, List.reverse_cons, hz]
      simp [tnL]
    rw [e1, e2]
    exact Eqv.rot [x, z] s (by simp)
theorem wordB_turnL {L : List Int} (h : wordB L = true) : wordB (tnL L) = true := by
  obtain ⟨h1, h2, h3⟩ := wordB_iff.1 h
  exact wordB_iff.2 ⟨by rw [turnL_len]; exact h1, by rw [turnL_len]; exact h2, fun x hx => h3 x (mem_turnL hx)⟩
theorem wordB_reverse {L : List Int} (h : wordB L = true) : wordB L.reverse = true := by
  obtain ⟨h1, h2, h3⟩ := wordB_iff.1 h
  exact wordB_iff.2 ⟨by simpa using h1, by simpa using h2, fun x hx => h3 x (by simpa using hx)⟩
theorem validB_mirror {K : Int} {L : List Int} (h : validB K L = true) : validB K (L.map (K - ·)) = true := by
  obtain ⟨k1, k2, k3, k4⟩ := validB_iff.1 h
  obtain ⟨h1, h2, h3⟩ := wordB_iff.1 k3
  refine validB_iff.2 ⟨k1, k2, wordB_iff.2 ⟨by simpa using h1, by simpa using h2, fun x hx => ?_⟩, fun x hx => ?_⟩
  all_goals
    obtain ⟨y, hy, rfl⟩ := List.mem_map.1 hx
    have := h3 y hy
    have := k4 y hy
    omega
theorem validB_turnL {K : Int} {L : List Int} (h : validB K L = true) : validB K (tnL L) = true := by
  obtain ⟨k1, k2, k3, k4⟩ := validB_iff.1 h
  exact validB_iff.2 ⟨k1, k2, wordB_turnL k3, fun x hx => k4 x (mem_turnL hx)⟩
theorem validB_reverse {K : Int} {L : List Int} (h : validB K L = true) : validB K L.reverse = true := by
  obtain ⟨k1, k2, k3, k4⟩ := validB_iff.1 h
  exact validB_iff.2 ⟨k1, k2, wordB_reverse k3, fun x hx => k4 x (by simpa using hx)⟩
theorem mir_mir (K : Int) (L : List Int) : (L.map (K - ·)).map (K - ·) = L := by
  rw [List.map_map]
  have : ((fun x => K - x) ∘ fun x => K - x) = (id : Int → Int) := by
    funext x
    show K - (K - x) = x
    omega
  rw [this, List.map_id]
theorem wordB_insert {L : List Int} {g : Int} (k : Nat) (h : wordB L = true) (hl : L.length ≤ 398) (h0 : 0 ≤ g) (h40 : g ≤ 40) : wordB (L.take k ++ [g, g] ++ L.drop k) = true := by
  obtain ⟨h1, h2, h3⟩ := wordB_iff.1 h
  have hlen : (L.take k ++ [g, g] ++ L.drop k).length = L.length + 2 := by
    simp only [List.length_append, List.length_take, List.length_drop, List.length_cons, List.length_nil]; omega
  refine wordB_iff.2 ⟨by omega, by omega, fun x hx => ?_⟩
  simp only [List.mem_append, List.mem_cons, List.not_mem_nil, or_false, or_self] at hx
  rcases hx with (hx | hx) | hx
  · exact h3 x (List.mem_of_mem_take hx)
  · omega
  · exact h3 x (List.mem_of_mem_drop hx)
theorem wordB_ends {x g : Int} {r : List Int} (h : wordB (x :: r) = true) (hl : (x :: r).length ≤ 398) (h0 : 0 ≤ g) (h40 : g ≤ 40) : wordB ([g] ++ r ++ [x] ++ [g]) = true := by
  obtain ⟨h1, h2, h3⟩ := wordB_iff.1 h
  simp only [List.length_cons] at h1 hl
  refine wordB_iff.2 ⟨by simp; omega, by simp; omega, fun y hy => ?_⟩
  simp only [List.mem_append, List.mem_cons, List.not_mem_nil, or_false] at hy
  rcases hy with ((hy | hy) | hy) | hy
  · omega
  · exact h3 y (by simp [hy])
  · exact h3 y (by simp [hy])
  · omega
theorem validB_word {K : Int} {L : List Int} (h : validB K L = true) : wordB L = true := (validB_iff.1 h).2.2.1
end Go.Proofs.YtpdkonpnhalecaaDoor
