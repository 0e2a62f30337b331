/-
  Plain: all words of a length in order, those that are their own normal forms, and what may be left out on the way. No program in sight.
-/
import Derived.Test.YtpdkonpnhalecaaDoorP10
namespace Go.Proofs.YtpdkonpnhalecaaDoor
/-- All lists that go on from L by d letters from 0 to K. -/
def allW (K : Nat) : Nat → List Int → List (List Int)
  | 0, L => [L]
  | d + 1, L => (List.range (K + 1)).flatMap fun (g : Nat) => allW K d (L ++ [(g : Int)])
/-- The letter g is left out behind L. -/
def skipB (L : List Int) (g : Int) : Bool := decide (0 < L.length) && (L.getLast?.getD 0 == g || (decide (L.length % 2 = 0) && decide (g < L.head?.getD 0)))
/-- What line.begun gives. -/
def bgn (K : Nat) : Nat → List Int → List (List Int)
  | 0, L => if normalL L = L then [L] else []
  | d + 1, L => (List.range (K + 1)).flatMap fun (g : Nat) => if skipB L g then [] else bgn K d (L ++ [(g : Int)])
theorem mem_allW {K : Nat} : ∀ {d : Nat} {L M : List Int}, M ∈ allW K d L → ∃ S, M = L ++ S ∧ S.length = d ∧ ∀ x ∈ S, 0 ≤ x ∧ x ≤ K
  | 0, L, M, h => by
    simp only [allW, List.mem_singleton] at h
    exact ⟨[], by simp [h], rfl, by simp⟩
  | d + 1, L, M, h => by
    simp only [allW, List.mem_flatMap, List.mem_range] at h
    obtain ⟨g, hg, h⟩ := h
    obtain ⟨S, rfl, hl, hx⟩ := mem_allW h
    refine ⟨(g : Int) :: S, by simp, by simp [hl], ?_⟩
    intro x hm
    rcases List.mem_cons.1 hm with rfl | hm
    · omega
    · exact hx x hm
theorem own_none {M : List Int} (he : M.length % 2 = 0) (h : normalL M = M) : NoneTo (eqNext M) M.length := by
  have := normalL_none he
  rwa [h] at this
theorem own_min {M : List Int} (he : M.length % 2 = 0) (h : normalL M = M) {j : Nat} (hj : 2 * j ≤ M.length) : cmpL M (rotL M (2 * j)) ≤ 0 := by
  have hm := bestL_isMin (reduceL_even he)
  rw [← normalL_best, h] at hm
  refine hm.2 _ ?_
  rcases hm.1 with hd | hd
  · exact .inl (hd.trans (rot2_of hj) (reduceL_even he))
  · exact .inr (hd.trans (rot2_of hj) (by rw [List.length_reverse]; exact reduceL_even he))
theorem dead {L S : List Int} {g : Int} (he : (L ++ g :: S).length % 2 = 0) (hs : skipB L g = true) : normalL (L ++ g :: S) ≠ L ++ g :: S := by
  intro h
  unfold skipB at hs
  simp only [Bool.and_eq_true, decide_eq_true_eq, Bool.or_eq_true, beq_iff_eq] at hs
  obtain ⟨hpos, hs⟩ := hs
  rcases hs with hs | ⟨h2, hs⟩
  · have hn := own_none he h (L.length - 1) (by simp; omega)
    unfold eqNext at hn
    have e1 : (L ++ g :: S)[L.length - 1]? = some g := by
      rw [List.getElem?_append_left (by omega), ← List.getLast?_eq_getElem?]
      cases hl : L.getLast? with
      | none => rw [List.getLast?_eq_none_iff] at hl; subst hl; simp at hpos
      | some y => rw [hl] at hs; simp at hs; rw [hs]
    have e2 : (L.length - 1 + 1) % (L ++ g :: S).length = L.length := by
      rw [show L.length - 1 + 1 = L.length by omega, Nat.mod_eq_of_lt (by simp)]
    rw [e2, e1] at hn
    rw [List.getElem?_append_right (Nat.le_refl _)] at hn
    simp at hn
  · obtain ⟨j, hj⟩ : ∃ j, L.length = 2 * j := ⟨L.length / 2, by omega⟩
    have hm := own_min he h (j := j) (by simp; omega)
    rw [← hj] at hm
    cases L with
    | nil => simp at hpos
    | cons x L =>
      simp only [List.head?_cons, Option.getD_some] at hs
      have e : rotL (x :: L ++ g :: S) (x :: L).length = g :: S ++ x :: L := by
        unfold rotL
        rw [List.drop_left, List.take_left]
      rw [e, List.cons_append, List.cons_append, cmpL, if_neg (by omega)] at hm
      omega
theorem bgn_allW (K : Nat) : ∀ (d : Nat) (L : List Int), (L.length + d) % 2 = 0 → bgn K d L = (allW K d L).filter (fun M => decide (normalL M = M))
  | 0, L, _ => by
    unfold bgn allW
    by_cases h : normalL L = L <;> simp [h]
  | d + 1, L, he => by
    unfold bgn allW
    rw [List.filter_flatMap]
    congr 1
    funext g
    by_cases hs : skipB L g = true
    · rw [if_pos hs]
      symm
      rw [List.filter_eq_nil_iff]
      intro M hM
      obtain ⟨S, rfl, hl, _⟩ := mem_allW hM
      rw [List.append_assoc, List.singleton_append]
      simp only [decide_eq_true_eq]
      exact dead (by simp [hl]; omega) hs
    · rw [if_neg hs]
      exact bgn_allW K d (L ++ [(g : Int)]) (by simp; omega)
/-- The words of the document's list. -/
theorem allW_words {K n : Nat} (hK : K ≤ 40) (hn : n ≤ 400) (he : n % 2 = 0) : (allW K n []).filter (fun M => redB M && (normalL M == M)) = bgn K n [] := by
  rw [bgn_allW K n [] (by simpa using he)]
  apply List.filter_congr
  intro M hM
  obtain ⟨S, hS, hl, hx⟩ := mem_allW hM
  rw [List.nil_append] at hS
  subst hS
  by_cases h : normalL M = M
  · have hw : wordB M = true := by
      unfold wordB
      rw [hl]
      simp only [Bool.and_eq_true, decide_eq_true_eq, List.all_eq_true]
      refine ⟨⟨he, hn⟩, fun x hm => ?_⟩
      have := hx x hm
      exact inB_yes this.1 (by omega)
    have := redB_normalL hw
    rw [h] at this
    simp [this, h]
  · simp [h]
end Go.Proofs.YtpdkonpnhalecaaDoor
