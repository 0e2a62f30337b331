/-
  Plain: the winding numbers of a curve without crossings; reduced words stay reduced. No walk.
-/
import Derived.Test.YtnlggiimgihmcaaDoorP13
namespace Go.Proofs.YtnlggiimgihmcaaDoor
theorem red_of {L : List Int} (hw : wordB L = true) (h : ∀ i, i < L.length → lat L i ≠ lat L ((i + 1) % L.length)) : redB L = true := by
  have hn : NoneTo (eqNext L) L.length := fun i hi => by
    have h1 : (i + 1) % L.length < L.length := Nat.mod_lt _ (by omega)
    rw [eqNext_of rfl (List.getElem?_eq_getElem hi) rfl (List.getElem?_eq_getElem h1)]
    have := h i hi
    unfold lat at this
    rw [List.getElem?_eq_getElem hi, List.getElem?_eq_getElem h1] at this
    simpa using this
  unfold redB pairI
  rw [hw, firstI_none hn]
  rfl
theorem redB_mirror {K : Int} {L : List Int} (hv : validB K L = true) (hr : redB L = true) : redB (L.map (K - ·)) = true := by
  refine red_of (validB_word (validB_mirror hv)) fun i hi => ?_
  rw [List.length_map] at hi ⊢
  have h1 : (i + 1) % L.length < L.length := Nat.mod_lt _ (by omega)
  rw [lat_map hi, lat_map h1]
  have := red_ne hr hi
  omega
theorem redB_turn {L : List Int} (hr : redB L = true) : redB (turnL L) = true := by
  have hw : wordB L = true := by unfold redB at hr; simp at hr; exact hr.1
  refine red_of (wordB_turnL hw) fun i hi => ?_
  rw [turnL_len] at hi ⊢
  have h1 : (i + 1) % L.length < L.length := Nat.mod_lt _ (by omega)
  have he := wordB_even hw
  rw [turnL_eq, lat_rot (by omega) hi, lat_rot (by omega) h1]
  have := red_ne hr (show (1 + i) % L.length < L.length from Nat.mod_lt _ (by omega))
  rw [Nat.mod_add_mod] at this
  rw [Nat.add_mod_mod]
  rw [show 1 + (i + 1) = 1 + i + 1 by omega]
  exact this
theorem pos_lt {L S : List Int} {i j : Nat} (hi : i < L.length) (hb : Bef L S i j) : posN L S i < posN L S j := by
  have := countTo_lt (p := fun k => befB L S k i) (q := fun k => befB L S k j) (n := L.length) (i := i) (fun m _ hm => by
    have := bef_iff.1 hm
    apply bef_iff.2
    unfold Bef at *
    omega) hi (bef_iff.2 hb) (by
      cases hq : befB L S i i with
      | false => rfl
      | true => have := bef_iff.1 hq; unfold Bef at this; omega)
  unfold posN
  omega
theorem pos_inj {L S : List Int} (h : DrawnR L S) {i j : Nat} (hi : i < L.length) (hj : j < L.length) (e : posN L S i = posN L S j) : i = j := by
  apply Classical.byContradiction
  intro hij
  rcases bef_total h hi hj hij with hb | hb
  · have := pos_lt hi hb; omega
  · have := pos_lt hj hb; omega
theorem countTo_true (n : Nat) : countTo (fun _ => true) n = n := by
  induction n with
  | zero => rfl
  | succ n ih => rw [countTo_yes rfl, ih]
theorem pos_bd {L S : List Int} {i : Nat} (hi : i < L.length) : posN L S i < L.length := by
  have := countTo_lt (p := fun k => befB L S k i) (q := fun _ => true) (n := L.length) (i := i) (fun m _ _ => rfl) hi rfl (by
    cases hq : befB L S i i with
    | false => rfl
    | true => have := bef_iff.1 hq; unfold Bef at this; omega)
  rw [countTo_true] at this
  unfold posN
  omega
theorem pos_one {L S : List Int} (h : DrawnR L S) {v : Nat} (hv : v < L.length) : countTo (fun i => decide (posN L S i = v)) L.length = 1 := by
  have step : ∀ v, countTo (fun i => decide (posN L S i < v + 1)) L.length = countTo (fun i => decide (posN L S i < v)) L.length + countTo (fun i => decide (posN L S i = v)) L.length := fun v =>
    countTo_sum (fun m _ => by rw [← Bool.decide_or]; apply decide_eq_decide.2; omega) (fun m _ ⟨a, b⟩ => by have := of_decide_eq_true a; have := of_decide_eq_true b; omega)
  have le1 : ∀ v, countTo (fun i => decide (posN L S i = v)) L.length ≤ 1 := fun v => by
    by_cases hx : ∃ k, k < L.length ∧ posN L S k = v
    · obtain ⟨k, hk, e⟩ := hx
      exact Nat.le_of_eq (countTo_one hk (by simpa using e) fun m hm hp => pos_inj h hm hk (by rw [of_decide_eq_true hp, e]))
    · rw [countTo_none fun m hm => decide_eq_false fun e => hx ⟨m, hm, e⟩]
      omega
  have z : countTo (fun i => decide (posN L S i < 0)) L.length = 0 := countTo_none fun m _ => by simp
  have all : countTo (fun i => decide (posN L S i < L.length)) L.length = L.length := by
    rw [← countTo_true L.length]
    rw [countTo_true]
    conv => rhs; rw [← countTo_true L.length]
    exact countTo_congr fun m hm => decide_eq_true (pos_bd hm)
  have up : ∀ a k, countTo (fun i => decide (posN L S i < a + k)) L.length ≤ countTo (fun i => decide (posN L S i < a)) L.length + k := by
    intro a k
    induction k with
    | zero => exact Nat.le_refl _
    | succ k ih =>
      have s := step (a + k)
      have l := le1 (a + k)
      rw [show a + (k + 1) = a + k + 1 by omega]
      omega
  have a1 := up 0 v
  have a2 := up (v + 1) (L.length - (v + 1))
  rw [Nat.zero_add] at a1
  rw [show v + 1 + (L.length - (v + 1)) = L.length by omega, all] at a2
  have s := step v
  have l := le1 v
  omega
theorem sumTo_congr {p q : Nat → Int} {n : Nat} (h : ∀ i, i < n → p i = q i) : sumTo p n = sumTo q n := by
  induction n with
  | zero => rfl
  | succ n ih => rw [sumTo_succ, sumTo_succ, ih (fun i hi => h i (by omega)), h n (by omega)]
theorem sumTo_add {p q : Nat → Int} (n : Nat) : sumTo (fun i => p i + q i) n = sumTo p n + sumTo q n := by
  induction n with
  | zero => rfl
  | succ n ih => rw [sumTo_succ, sumTo_succ, sumTo_succ, ih]; omega
theorem sumTo_count {p : Nat → Bool} {c : Int} (n : Nat) : sumTo (fun i => if p i then c else 0) n = c * (countTo p n : Int) := by
  induction n with
  | zero => simp [sumTo, countTo]
  | succ n ih =>
    rw [sumTo_succ, ih]
    cases hp : p n with
    | true => rw [countTo_yes hp, if_pos rfl, show ((countTo p n + 1 : Nat) : Int) = (countTo p n : Int) + 1 by omega, Int.mul_add, Int.mul_one]
    | false => rw [countTo_no hp]; simp
def sgI (k : Nat) : Int := 1 - 2 * ((k % 2 : Nat) : Int)
theorem alt_sum {L S : List Int} (h : DrawnR L S) : ∀ v, v ≤ L.length → sumTo (fun i => if posN L S i < v then sgI (posN L S i) else 0) L.length = ((v % 2 : Nat) : Int)
  | 0, _ => by
    rw [sumTo_congr (q := fun i => if (fun _ => false) i then (0 : Int) else 0) (fun i _ => by simp), sumTo_count]
    simp
  | v + 1, hv => by
    have ih := alt_sum h v (by omega)
    rw [sumTo_congr (q := fun i => (if posN L S i < v then sgI (posN L S i) else 0) + (if decide (posN L S i = v) then sgI v else 0)) (fun i _ => by
      by_cases e : posN L S i = v
      · rw [if_pos (by omega), if_neg (by omega), if_pos (by simpa using e), e]; omega
      · by_cases l : posN L S i < v
        · rw [if_pos (by omega), if_pos l, if_neg (by simpa using e)]; omega
        · rw [if_neg (by omega), if_neg l, if_neg (by simpa using e)]; omega), sumTo_add, ih, sumTo_count, pos_one h (by omega)]
    unfold sgI
    omega
theorem wind_drawn {L S : List Int} (h : DrawnR L S) (hr : redB L = true) (f : Int) : windI L f = 0 ∨ windI L f = sgI (posN L S 0) := by
  have hw : wordB L = true := by unfold redB at hr; simp at hr; exact hr.1
  have he := wordB_even hw
  have hm : countTo (fun i => decide (lat L i < f)) L.length ≤ L.length := countTo_le _ _
  have key : ∀ i, i < L.length → (lat L i < f ↔ posN L S i < countTo (fun i => decide (lat L i < f)) L.length) := fun i hi => by
    constructor
    · intro hf
      have := countTo_lt (p := fun k => befB L S k i) (q := fun k => decide (lat L k < f)) (n := L.length) (i := i) (fun m _ hp => by
        have := bef_iff.1 hp
        unfold Bef at this
        exact decide_eq_true (by omega)) hi (by simpa using hf) (by
          cases hq : befB L S i i with
          | false => rfl
          | true => have := bef_iff.1 hq; unfold Bef at this; omega)
      unfold posN
      omega
    · intro hp
      apply Classical.byContradiction
      intro hf
      have := countTo_sub (p := fun k => decide (lat L k < f)) (q := fun k => befB L S k i) (n := L.length) (fun m _ hq => by
        have := of_decide_eq_true hq
        apply bef_iff.2
        unfold Bef
        omega)
      unfold posN at hp
      omega
  have e : windI L f = sumTo (fun i => sgI (posN L S 0) * (if posN L S i < countTo (fun i => decide (lat L i < f)) L.length then sgI (posN L S i) else 0)) L.length := by
    unfold windI
    refine sumTo_congr fun i hi => ?_
    have hx : L[i]? = some (L[i]'hi) := List.getElem?_eq_getElem _
    have hl := lat_of hx
    have hp := pos_parity h he hr i hi
    by_cases hf : lat L i < f
    · rw [windAt_yes hx (by rw [← hl]; exact hf), if_pos ((key i hi).1 hf)]
      unfold sgI
      rcases Nat.mod_two_eq_zero_or_one (posN L S 0) with a | a <;> rcases Nat.mod_two_eq_zero_or_one (posN L S i) with b | b <;> rw [a, b] <;> simp <;> omega
    · rw [windAt_no hx (by rw [← hl]; exact hf), if_neg (fun hc => hf ((key i hi).2 hc))]
      simp
  have mulsum : ∀ n, sumTo (fun i => sgI (posN L S 0) * (if posN L S i < countTo (fun i => decide (lat L i < f)) L.length then sgI (posN L S i) else 0)) n = sgI (posN L S 0) * sumTo (fun i => if posN L S i < countTo (fun i => decide (lat L i < f)) L.length then sgI (posN L S i) else 0) n := fun n => by
    induction n with
    | zero => simp [sumTo]
    | succ n ih => rw [sumTo_succ, sumTo_succ, ih, Int.mul_add]
  rw [e, mulsum, alt_sum h _ hm]
  rcases Nat.mod_two_eq_zero_or_one (countTo (fun i => decide (lat L i < f)) L.length) with a | a
  · rw [a]; left; simp
  · rw [a]; right; simp
end Go.Proofs.YtnlggiimgihmcaaDoor
