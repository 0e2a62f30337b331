/-
  Plain: arcs over an axis that do not cross: the innermost arc around each gap. No walk.
-/
import Derived.Test.YtkjcmppaapbabaaDoorJH
namespace Go.Proofs.YtkjcmppaapbabaaDoor
section
variable {n : Nat} {κ : Nat → Nat}
def loA (n : Nat) (κ : Nat → Nat) (e : Nat) : Nat := min (κ e) (κ ((e + 1) % n))
def hiA (n : Nat) (κ : Nat → Nat) (e : Nat) : Nat := max (κ e) (κ ((e + 1) % n))
def encB (n : Nat) (κ : Nat → Nat) (e j : Nat) : Bool := decide (loA n κ e ≤ j) && decide (j < hiA n κ e)
def topB (n : Nat) (κ : Nat → Nat) (s e j : Nat) : Bool := e % 2 == s && encB n κ e j && allTo (fun e' => !(e' % 2 == s && encB n κ e' j) || decide (loA n κ e' ≤ loA n κ e)) n
def innA (n : Nat) (κ : Nat → Nat) (s j : Nat) : Nat := ((List.range n).find? (fun e => topB n κ s e j)).getD (n + s)
structure Arcs (n : Nat) (κ : Nat → Nat) : Prop where
  pos : 0 < n
  even : n % 2 = 0
  lt : ∀ i, i < n → κ i < n
  inj : ∀ i j, i < n → j < n → κ i = κ j → i = j
/-- No two arcs of one side cross. -/
def NoX (n : Nat) (κ : Nat → Nat) : Prop := ∀ e e', e < n → e' < n → e % 2 = e' % 2 → ¬(loA n κ e < loA n κ e' ∧ loA n κ e' < hiA n κ e ∧ hiA n κ e < hiA n κ e')
theorem nxt_mod {n e : Nat} (he : n % 2 = 0) (h : e < n) : (e + 1) % n < n ∧ ((e + 1) % n) % 2 = (e + 1) % 2 ∧ (e + 1) % n ≠ e := by
  rcases mod_up h with ⟨h1, h2⟩ | ⟨h1, h2⟩ <;> rw [h2] <;> omega
theorem lo_hi (n : Nat) (κ : Nat → Nat) (e : Nat) : (loA n κ e = κ e ∧ hiA n κ e = κ ((e + 1) % n)) ∨ (loA n κ e = κ ((e + 1) % n) ∧ hiA n κ e = κ e) := by
  unfold loA hiA
  rcases Nat.le_total (κ e) (κ ((e + 1) % n)) with h | h
  · exact .inl ⟨Nat.min_eq_left h, Nat.max_eq_right h⟩
  · exact .inr ⟨Nat.min_eq_right h, Nat.max_eq_left h⟩
theorem lo_le (n : Nat) (κ : Nat → Nat) (e : Nat) : loA n κ e ≤ hiA n κ e := by unfold loA hiA; omega
theorem Arcs.lo_lt (a : Arcs n κ) {e : Nat} (h : e < n) : loA n κ e < hiA n κ e ∧ hiA n κ e < n := by
  obtain ⟨h1, h2, h3⟩ := nxt_mod a.even h
  have := lo_le n κ e
  have d : κ e ≠ κ ((e + 1) % n) := fun q => h3 (a.inj _ _ h h1 q).symm
  have b1 := a.lt _ h
  have b2 := a.lt _ h1
  rcases lo_hi n κ e with ⟨q1, q2⟩ | ⟨q1, q2⟩ <;> omega
/-- Ends of different arcs of one side differ. -/
theorem Arcs.apart (a : Arcs n κ) {e f : Nat} (he : e < n) (hf : f < n) (hs : e % 2 = f % 2) (hne : e ≠ f) : loA n κ e ≠ loA n κ f ∧ loA n κ e ≠ hiA n κ f ∧ hiA n κ e ≠ loA n κ f ∧ hiA n κ e ≠ hiA n κ f := by
  obtain ⟨h1, h2, h3⟩ := nxt_mod a.even he
  obtain ⟨g1, g2, g3⟩ := nxt_mod a.even hf
  have d1 : κ e ≠ κ f := fun q => hne (a.inj _ _ he hf q)
  have d2 : κ e ≠ κ ((f + 1) % n) := fun q => by have := a.inj _ _ he g1 q; omega
  have d3 : κ ((e + 1) % n) ≠ κ f := fun q => by have := a.inj _ _ h1 hf q; omega
  have d4 : κ ((e + 1) % n) ≠ κ ((f + 1) % n) := fun q => by
    have := a.inj _ _ h1 g1 q
    rcases mod_up he with ⟨p1, p2⟩ | ⟨p1, p2⟩ <;> rcases mod_up hf with ⟨r1, r2⟩ | ⟨r1, r2⟩ <;> omega
  rcases lo_hi n κ e with ⟨q1, q2⟩ | ⟨q1, q2⟩ <;> rcases lo_hi n κ f with ⟨r1, r2⟩ | ⟨r1, r2⟩ <;> rw [q1, q2, r1, r2] <;> refine ⟨?_, ?_, ?_, ?_⟩ <;> first | assumption | exact fun q => d1 q | exact fun q => d2 q | exact fun q => d3 q | exact fun q => d4 q
theorem enc_iff {e j : Nat} : encB n κ e j = true ↔ loA n κ e ≤ j ∧ j < hiA n κ e := by unfold encB; simp
theorem top_iff {s e j : Nat} : topB n κ s e j = true ↔ e % 2 = s ∧ encB n κ e j = true ∧ ∀ e', e' < n → e' % 2 = s → encB n κ e' j = true → loA n κ e' ≤ loA n κ e := by
  unfold topB
  simp only [Bool.and_eq_true, beq_iff_eq, allTo_iff, Bool.or_eq_true, Bool.not_eq_true', decide_eq_true_eq]
  constructor
  · rintro ⟨⟨h1, h2⟩, h3⟩
    refine ⟨h1, h2, fun e' he' hs hc => ?_⟩
    rcases h3 e' he' with h | h
    · rw [hc] at h; simp [hs] at h
    · exact h
  · rintro ⟨h1, h2, h3⟩
    refine ⟨⟨h1, h2⟩, fun e' he' => ?_⟩
    by_cases hs : e' % 2 = s
    · cases hc : encB n κ e' j with
      | false => left; simp
      | true => exact .inr (h3 e' he' hs hc)
    · left; simp [hs]
theorem Arcs.inn_eq (a : Arcs n κ) {s e j : Nat} (he : e < n) (h : topB n κ s e j = true) : innA n κ s j = e := by
  unfold innA
  cases hf : (List.range n).find? (fun e => topB n κ s e j) with
  | none =>
    rw [List.find?_eq_none] at hf
    exact absurd h (by have := hf e (by simpa using he); simpa using this)
  | some f =>
    have hm := List.mem_of_find?_eq_some hf
    have hp := List.find?_some hf
    simp only [List.mem_range] at hm
    show f = e
    rw [top_iff] at h hp
    have l1 := h.2.2 f hm hp.1 hp.2.1
    have l2 := hp.2.2 e he h.1 h.2.1
    rcases Nat.decEq f e with q | q
    · exact absurd (by omega) (a.apart hm he (by omega) q).1
    · exact q
theorem inn_none {s j : Nat} (h : ∀ e, e < n → e % 2 = s → encB n κ e j = false) : innA n κ s j = n + s := by
  unfold innA
  rw [List.find?_eq_none.2]
  · rfl
  · intro e he
    simp only [List.mem_range] at he
    rw [top_iff]
    rintro ⟨h1, h2, _⟩
    rw [h e he h1] at h2; cases h2
theorem inn_ext {s j j' : Nat} (h : ∀ e, e < n → e % 2 = s → (encB n κ e j = true ↔ encB n κ e j' = true)) : innA n κ s j = innA n κ s j' := by
  unfold innA
  congr 1
  have key : ∀ X : List Nat, (∀ e ∈ X, e < n) → X.find? (fun e => topB n κ s e j) = X.find? (fun e => topB n κ s e j') := by
    intro X
    induction X with
    | nil => intro _; rfl
    | cons x X ih =>
      intro hX
      have hx := hX x (by simp)
      have e1 : topB n κ s x j = topB n κ s x j' := by
        rw [Bool.eq_iff_iff, top_iff, top_iff]
        constructor
        · rintro ⟨h1, h2, h3⟩; exact ⟨h1, (h x hx h1).1 h2, fun e' he' hs hc => h3 e' he' hs ((h e' he' hs).2 hc)⟩
        · rintro ⟨h1, h2, h3⟩; exact ⟨h1, (h x hx h1).2 h2, fun e' he' hs hc => h3 e' he' hs ((h e' he' hs).1 hc)⟩
      rw [List.find?_cons, List.find?_cons, e1, ih (fun e he => hX e (by simp [he]))]
  exact key _ (by simp)
theorem Arcs.inn_open (a : Arcs n κ) {e : Nat} (he : e < n) : innA n κ (e % 2) (loA n κ e) = e := by
  refine a.inn_eq he (top_iff.2 ⟨rfl, enc_iff.2 ⟨Nat.le_refl _, (a.lo_lt he).1⟩, fun e' he' hs hc => (enc_iff.1 hc).1⟩)
theorem Arcs.inn_close (a : Arcs n κ) (h : NoX n κ) {e : Nat} (he : e < n) : innA n κ (e % 2) (hiA n κ e - 1) = e := by
  have hl := a.lo_lt he
  refine a.inn_eq he (top_iff.2 ⟨rfl, enc_iff.2 ⟨by omega, by omega⟩, fun e' he' hs hc => ?_⟩)
  have h1 := enc_iff.1 hc
  rcases Nat.decEq e' e with q | q
  · have ha := a.apart he' he hs q
    rcases Nat.lt_or_ge (loA n κ e) (loA n κ e') with hlt | hge
    · exact absurd ⟨hlt, by omega, by omega⟩ (h e e' he he' hs.symm)
    · exact hge
  · rw [q]; exact Nat.le_refl _
theorem Arcs.inn_last (a : Arcs n κ) (s : Nat) : innA n κ s (n - 1) = n + s := by
  refine inn_none fun e he _ => ?_
  cases hc : encB n κ e (n - 1) with
  | false => rfl
  | true =>
    have := (enc_iff.1 hc).2
    have := (a.lo_lt he).2
    omega
theorem Arcs.inn_out (a : Arcs n κ) (h : NoX n κ) {e : Nat} (he : e < n) : innA n κ (e % 2) ((loA n κ e + n - 1) % n) = innA n κ (e % 2) (hiA n κ e) := by
  have hl := a.lo_lt he
  refine inn_ext fun f hf hs => ?_
  rw [enc_iff, enc_iff]
  have hlf := a.lo_lt hf
  rcases Nat.decEq f e with q | q
  · have ha := a.apart hf he hs q
    have c1 := h e f he hf hs.symm
    have c2 := h f e hf he hs
    rcases mod_dn (n := n) (i := loA n κ e) (by omega) with ⟨h0, e1⟩ | ⟨h0, e1⟩ <;> rw [e1] <;> omega
  · rw [q]
    rcases mod_dn (n := n) (i := loA n κ e) (by omega) with ⟨h0, e1⟩ | ⟨h0, e1⟩ <;> rw [e1] <;> omega
/-- Along an arc, from what lies ahead of one end to what lies behind the other one. -/
theorem Arcs.flip (a : Arcs n κ) (h : NoX n κ) {e : Nat} (he : e < n) : innA n κ (e % 2) ((κ e + n - 1) % n) = innA n κ (e % 2) (κ ((e + 1) % n)) ∧ innA n κ (e % 2) ((κ ((e + 1) % n) + n - 1) % n) = innA n κ (e % 2) (κ e) := by
  have hl := a.lo_lt he
  have o := a.inn_out h he
  have c := a.inn_close h he
  have p := a.inn_open he
  have e2 : (hiA n κ e + n - 1) % n = hiA n κ e - 1 := by
    rcases mod_dn (n := n) (i := hiA n κ e) (by omega) with ⟨h0, e1⟩ | ⟨h0, e1⟩
    · omega
    · exact e1
  rcases lo_hi n κ e with ⟨q1, q2⟩ | ⟨q1, q2⟩
  · rw [← q1, ← q2, e2]
    exact ⟨o, by rw [c, p]⟩
  · rw [← q1, ← q2, e2]
    exact ⟨by rw [c, p], o⟩
/-- Colors of gaps that change at two places alone. -/
theorem two_segs {α : Type} {G : Nat → α} {m q0 q1 : Nat} (h01 : q0 < q1) (h1 : q1 < m) (h : ∀ q, q < m → q ≠ q0 → q ≠ q1 → G q = G ((q + m - 1) % m)) :
    (∀ j, q0 ≤ j → j < q1 → G j = G q0) ∧ (∀ j, j < m → ¬(q0 ≤ j ∧ j < q1) → G j = G q1) := by
  have st : ∀ q, 0 < q → q < m → q ≠ q0 → q ≠ q1 → G q = G (q - 1) := by
    intro q h0 hq a b
    have := h q hq a b
    rcases mod_dn (n := m) (i := q) hq with ⟨z, e⟩ | ⟨z, e⟩
    · omega
    · rwa [e] at this
  refine ⟨?_, ?_⟩
  · intro j
    induction j with
    | zero => intro a _; rw [show q0 = 0 by omega]
    | succ j ih =>
      intro a b
      rcases Nat.decEq (j + 1) q0 with q | q
      · rw [st (j + 1) (by omega) (by omega) q (by omega)]; exact ih (by omega) (by omega)
      · rw [q]
  · have up : ∀ j, q1 ≤ j → j < m → G j = G q1 := by
      intro j
      induction j with
      | zero => intro a _; rw [show q1 = 0 by omega]
      | succ j ih =>
        intro a b
        rcases Nat.decEq (j + 1) q1 with q | q
        · rw [st (j + 1) (by omega) b (by omega) q]; exact ih (by omega) (by omega)
        · rw [q]
    intro j hj hn
    rcases Nat.lt_or_ge j q1 with hlt | hge
    · have h00 : 0 < q0 := by omega
      have lo : ∀ j, j < q0 → G j = G q1 := by
        intro j
        induction j with
        | zero =>
          intro _
          have := h 0 (by omega) (by omega) (by omega)
          rw [show (0 + m - 1) % m = m - 1 by rw [Nat.zero_add]; exact Nat.mod_eq_of_lt (by omega)] at this
          rw [this]; exact up (m - 1) (by omega) (by omega)
        | succ j ih => intro a; rw [st (j + 1) (by omega) (by omega) (by omega) (by omega)]; exact ih (by omega)
      exact lo j (by omega)
    · exact up j hge hj
end
end Go.Proofs.YtkjcmppaapbabaaDoor
