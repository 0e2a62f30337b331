/-
  Plain: the step to the left is one to one on the darts of a valid code; the program's walk, which asks only the string's darts, and the document's are the same. No walk of the program.
-/
import Derived.Test.YtkjcmppaapbabaaDoorK1
namespace Go.Proofs.YtkjcmppaapbabaaDoor
def face1 (f : Nat → Nat) (b : Nat) : Nat → List Bool → Nat → List Nat × List Bool
  | 0, s, _ => ([], s)
  | k + 1, s, x => if x < b then (if sat s x then ([], s) else (x :: (face1 f b k (s.set x true) (f x)).1, (face1 f b k (s.set x true) (f x)).2)) else (x :: (face1 f b k s (f x)).1, (face1 f b k s (f x)).2)
def facesF (f : Nat → Nat) (b : Nat) : List Nat → List Bool → List (List Nat)
  | [], _ => []
  | d :: ds, s => if sat s d then facesF f b ds s else (face1 f b (2 * s.length + 2) s d).1 :: facesF f b ds (face1 f b (2 * s.length + 2) s d).2
theorem sat_set {s : List Bool} {x y : Nat} : sat (s.set x true) y = (sat s y || decide (x = y)) := by
  unfold sat
  rw [List.getElem?_set]
  by_cases h : x = y
  · subst h
    by_cases hl : x < s.length
    · simp [hl]
    · simp [hl]
  · simp [h]
theorem sat_out {s : List Bool} {x : Nat} (h : s.length ≤ x) : sat s x = true := by unfold sat; rw [List.getElem?_eq_none h]; rfl
theorem sat_take {s : List Bool} {x b : Nat} (h : x < b) : sat (s.take b) x = sat s x := by unfold sat; rw [List.getElem?_take, if_pos h]
/-- How many are not yet seen. -/
def unN (s : List Bool) : Nat := s.countP (fun b => !b)
theorem unN_set : ∀ {s : List Bool} {x : Nat}, sat s x = false → unN (s.set x true) + 1 = unN s
  | [], x, h => by simp [sat] at h
  | b :: s, 0, h => by simp [sat] at h; subst h; simp [unN]
  | b :: s, x + 1, h => by
    have := unN_set (s := s) (x := x) (by simpa [sat] using h)
    unfold unN at this ⊢
    simp only [List.set_cons_succ, List.countP_cons]
    omega
theorem unN_pos {s : List Bool} {x : Nat} (h : sat s x = false) : 0 < unN s := by have := unN_set h; omega
theorem unN_le (s : List Bool) : unN s ≤ s.length := List.countP_le_length
/-- P is a path that f makes from d; x is what comes next. -/
def PathTo (f : Nat → Nat) (d : Nat) : List Nat → Nat → Prop
  | [], x => x = d
  | p :: P, x => x = f p ∧ PathTo f d P p
theorem path_mem {f : Nat → Nat} {d : Nat} : ∀ {P : List Nat} {x q : Nat}, PathTo f d P x → q ∈ P → q = d ∨ ∃ r, r ∈ P ∧ q = f r
  | [], _, _, _, h => by cases h
  | p :: P, x, q, hp, hq => by
    rcases List.mem_cons.1 hq with rfl | hq
    · cases P with
      | nil => exact .inl hp.2
      | cons r P => exact .inr ⟨r, by simp, hp.2.1⟩
    · rcases path_mem hp.2 hq with h | ⟨r, hr, h⟩
      · exact .inl h
      · exact .inr ⟨r, by simp [hr], h⟩
/-- Along a path without repetition only the last step leads out of what has been met, or to its beginning. -/
theorem path_close {f : Nat → Nat} {d N : Nat} (inj : ∀ x y, x < N → y < N → f x = f y → x = y) {p : Nat} : ∀ {P Q : List Nat} {q : Nat}, PathTo f d (Q ++ p :: P) q → (Q ++ p :: P).Nodup → (∀ y ∈ Q ++ p :: P, y < N) → ∀ r, r ∈ p :: P → r ≠ d → ∃ t, t ∈ P ∧ r = f t
  | P, [], q, hp, hn, hN, r, hr, hd => by
    rcases List.mem_cons.1 hr with rfl | hr'
    · cases P with
      | nil => exact absurd hp.2 hd
      | cons t P => exact ⟨t, by simp, hp.2.1⟩
    · rcases path_mem hp.2 hr' with h | ⟨t, ht, h⟩
      · exact absurd h hd
      · exact ⟨t, ht, h⟩
  | P, c :: Q, q, hp, hn, hN, r, hr, hd => path_close inj (P := P) (Q := Q) hp.2 (List.nodup_cons.1 hn).2 (fun y hy => hN y (by simp at hy ⊢; exact .inr hy)) r hr hd
/-- Of all darts: those from which the walk leads to a dart that has been seen have been seen. -/
def Back (f : Nat → Nat) (N : Nat) (s : List Bool) : Prop := ∀ y, y < N → sat s (f y) = true → sat s y = true
/-- The two walks go hand in hand. -/
theorem walk_face {f : Nat → Nat} {N b d : Nat} (inj : ∀ x y, x < N → y < N → f x = f y → x = y) (into : ∀ x, x < N → f x < N) (axis : ∀ x, b ≤ x → x < N → f x < b) (hb : b ≤ N) (hd : d < b)
    {s0 : List Bool} (h0 : s0.length = N) (hback : Back f N s0) (hd0 : sat s0 d = false) :
    ∀ (k k' : Nat) (s : List Bool) (P : List Nat) (x : Nat), s.length = N → (∀ y, y < N → (sat s y = true ↔ sat s0 y = true ∨ y ∈ P)) → PathTo f d P x → P.Nodup → (∀ y ∈ P, y < N ∧ sat s0 y = false) → unN s ≤ k →
      2 * unN (s.take b) + (if x < b then 1 else 2) ≤ k' → x < N →
      (walk1 f k s x).1 = (face1 f b k' (s.take b) x).1 ∧ (walk1 f k s x).2.take b = (face1 f b k' (s.take b) x).2 ∧ (walk1 f k s x).2.length = N ∧ Back f N (walk1 f k s x).2 ∧ (∀ y, sat s y = true → sat (walk1 f k s x).2 y = true) ∧ (sat s x = false → sat (walk1 f k s x).2 x = true) := by
  have stop : ∀ (s : List Bool) (P : List Nat) (x : Nat), s.length = N → (∀ y, y < N → (sat s y = true ↔ sat s0 y = true ∨ y ∈ P)) → PathTo f d P x → P.Nodup → (∀ y ∈ P, y < N ∧ sat s0 y = false) → x < N → sat s x = true → x = d ∧ P ≠ [] ∧ Back f N s := by
    intro s P x hl hs hp hn hP hx hsx
    have hx0 : sat s0 x = false := by
      cases hq : sat s0 x with
      | false => rfl
      | true =>
        cases P with
        | nil => rw [show x = d from hp] at hq; rw [hd0] at hq; cases hq
        | cons p P =>
          have := hback p (hP p (by simp)).1 (by rw [← hp.1]; exact hq)
          rw [(hP p (by simp)).2] at this; cases this
    have hxP : x ∈ P := by
      rcases (hs x hx).1 hsx with h | h
      · rw [hx0] at h; cases h
      · exact h
    have hxd : x = d := by
      rcases Nat.decEq x d with e | e
      · cases P with
        | nil => cases hxP
        | cons p P =>
          obtain ⟨t, ht, he⟩ := path_close inj (P := P) (Q := []) (p := p) (q := x) hp hn (fun y hy => (hP y hy).1) x hxP e
          have : p = t := inj p t (hP p (by simp)).1 (hP t (by simp [ht])).1 (by rw [← hp.1, ← he])
          subst this
          exact absurd ht (List.nodup_cons.1 hn).1
      · exact e
    refine ⟨hxd, (fun e => by rw [e] at hxP; cases hxP), fun y hy hfy => ?_⟩
    rcases (hs (f y) (into y hy)).1 hfy with h | h
    · exact (hs y hy).2 (.inl (hback y hy h))
    · cases P with
      | nil => cases h
      | cons p P =>
        rcases Nat.decEq (f y) d with e | e
        · obtain ⟨t, ht, he⟩ := path_close inj (P := P) (Q := []) (p := p) (q := x) hp hn (fun y hy => (hP y hy).1) (f y) h e
          have : y = t := inj y t hy (hP t (by simp [ht])).1 he
          subst this
          exact (hs y hy).2 (.inr (by simp [ht]))
        · have : y = p := inj y p hy (hP p (by simp)).1 (by rw [e, ← hp.1, hxd])
          subst this
          exact (hs y hy).2 (.inr (by simp))
  intro k
  induction k with
  | zero =>
    intro k' s P x hl hs hp hn hP hk hk' hx
    have hsx : sat s x = true := by
      cases hq : sat s x with
      | true => rfl
      | false => have := unN_pos hq; omega
    obtain ⟨hxd, _, hB⟩ := stop s P x hl hs hp hn hP hx hsx
    subst hxd
    cases k' with
    | zero => rw [if_pos hd] at hk'; omega
    | succ k' =>
      unfold face1 walk1
      rw [if_pos hd, sat_take hd, if_pos hsx]
      exact ⟨rfl, rfl, hl, hB, fun _ h => h, fun h => by rw [hsx] at h; cases h⟩
  | succ k ih =>
    intro k' s P x hl hs hp hn hP hk hk' hx
    cases hsx : sat s x with
    | true =>
      obtain ⟨hxd, _, hB⟩ := stop s P x hl hs hp hn hP hx hsx
      subst hxd
      cases k' with
      | zero => rw [if_pos hd] at hk'; omega
      | succ k' =>
        unfold face1 walk1
        rw [if_pos hd, sat_take hd, if_pos hsx, if_pos hsx]
        exact ⟨rfl, rfl, hl, hB, fun _ h => h, fun h => by cases h⟩
    | false =>
      have hun := unN_set hsx
      have hx0 : sat s0 x = false := by
        cases hq : sat s0 x with
        | false => rfl
        | true => rw [(hs x hx).2 (.inl hq)] at hsx; cases hsx
      have hxP : x ∉ P := fun hm => by rw [(hs x hx).2 (.inr hm)] at hsx; cases hsx
      have hs' : ∀ y, y < N → (sat (s.set x true) y = true ↔ sat s0 y = true ∨ y ∈ x :: P) := by
        intro y hy
        rw [sat_set, Bool.or_eq_true, hs y hy, List.mem_cons]
        simp only [decide_eq_true_eq]
        constructor
        · rintro ((h | h) | h)
          · exact .inl h
          · exact .inr (.inr h)
          · exact .inr (.inl h.symm)
        · rintro (h | h | h)
          · exact .inl (.inl h)
          · exact .inr h.symm
          · exact .inl (.inr h)
      have hP' : ∀ y ∈ x :: P, y < N ∧ sat s0 y = false := by
        intro y hy
        rcases List.mem_cons.1 hy with rfl | hy
        · exact ⟨hx, hx0⟩
        · exact hP y hy
      have more : ∀ r : List Bool, (∀ y, sat (s.set x true) y = true → sat r y = true) → (∀ y, sat s y = true → sat r y = true) ∧ (sat s x = false → sat r x = true) := by
        intro r hr
        exact ⟨fun y hy => hr y (by rw [sat_set, hy]; rfl), fun _ => hr x (by rw [sat_set]; simp)⟩
      cases k' with
      | zero => split at hk' <;> omega
      | succ k' =>
        unfold walk1
        rw [if_neg (by rw [hsx]; simp)]
        unfold face1
        by_cases hxb : x < b
        · rw [if_pos hxb] at hk'
          have ht : (s.set x true).take b = (s.take b).set x true := by rw [List.take_set]
          have hun' := unN_set (s := s.take b) (x := x) (by rw [sat_take hxb]; exact hsx)
          obtain ⟨r1, r2, r3, r4, r5, _⟩ := ih k' (s.set x true) (x :: P) (f x) (by simp [hl]) hs' ⟨rfl, hp⟩ (List.nodup_cons.2 ⟨hxP, hn⟩) hP' (by omega) (by rw [ht]; split <;> omega) (into x hx)
          rw [if_pos hxb, sat_take hxb, if_neg (by rw [hsx]; simp)]
          rw [ht] at r1 r2
          exact ⟨by rw [r1], r2, r3, r4, (more _ r5).1, fun _ => (more _ r5).2 hsx⟩
        · rw [if_neg hxb] at hk'
          have ht : (s.set x true).take b = s.take b := by rw [List.take_set, List.set_eq_of_length_le (by simp; omega)]
          have hfx := axis x (by omega) hx
          obtain ⟨r1, r2, r3, r4, r5, _⟩ := ih k' (s.set x true) (x :: P) (f x) (by simp [hl]) hs' ⟨rfl, hp⟩ (List.nodup_cons.2 ⟨hxP, hn⟩) hP' (by omega) (by rw [ht, if_pos hfx]; omega) (into x hx)
          rw [if_neg hxb]
          rw [ht] at r1 r2
          exact ⟨by rw [r1], r2, r3, r4, (more _ r5).1, fun _ => (more _ r5).2 hsx⟩
theorem walksF_seen (f : Nat → Nat) : ∀ (ds : List Nat) (s : List Bool), (∀ d ∈ ds, sat s d = true) → walksF f ds s = []
  | [], _, _ => rfl
  | d :: ds, s, h => by unfold walksF; rw [if_pos (h d (by simp))]; exact walksF_seen f ds s (fun x hx => h x (by simp [hx]))
/-- All walks: over the string's darts alone, and over all. -/
theorem walks_faces {f : Nat → Nat} {N b : Nat} (inj : ∀ x y, x < N → y < N → f x = f y → x = y) (into : ∀ x, x < N → f x < N) (axis : ∀ x, b ≤ x → x < N → f x < b) (hb : b ≤ N) :
    ∀ (j d : Nat) (s : List Bool), d + j = b → s.length = N → Back f N s → (∀ y, y < d → sat s y = true) → walksF f (List.range' d (N - d)) s = facesF f b (List.range' d j) (s.take b)
  | 0, d, s, hj, hl, hB, hs => by
    have hdb : d = b := by omega
    subst hdb
    show _ = []
    refine walksF_seen f _ _ fun x hx => ?_
    rw [List.mem_range'_1] at hx
    have := axis x hx.1 (by omega)
    exact hB x (by omega) (hs _ this)
  | j + 1, d, s, hj, hl, hB, hs => by
    rw [show N - d = (N - (d + 1)) + 1 by omega, List.range'_succ, List.range'_succ]
    unfold walksF facesF
    rw [sat_take (by omega)]
    cases hsd : sat s d with
    | true =>
      rw [if_pos rfl, if_pos rfl]
      refine walks_faces inj into axis hb j (d + 1) s (by omega) hl hB (fun y hy => ?_)
      rcases Nat.decEq y d with e | e
      · exact hs y (by omega)
      · subst e; exact hsd
    | false =>
      have hun := unN_le s
      have hun' := unN_le (s.take b)
      obtain ⟨r1, r2, r3, r4, r5, r6⟩ := walk_face inj into axis hb (d := d) (by omega) hl hB hsd s.length (2 * (s.take b).length + 2) s [] d hl (fun y _ => by simp) rfl (by simp) (by simp) hun (by split <;> omega) (by omega)
      simp only [Bool.false_eq_true, if_false]
      rw [r1]
      congr 1
      rw [← r2]
      refine walks_faces inj into axis hb j (d + 1) _ (by omega) r3 r4 (fun y hy => ?_)
      rcases Nat.decEq y d with e | e
      · exact r5 y (hs y (by omega))
      · subst e; exact r6 hsd
theorem walks_eq_faces {f : Nat → Nat} {N b : Nat} (inj : ∀ x y, x < N → y < N → f x = f y → x = y) (into : ∀ x, x < N → f x < N) (axis : ∀ x, b ≤ x → x < N → f x < b) (hb : b ≤ N) :
    walksF f (List.range N) (List.replicate N false) = facesF f b (List.range b) (List.replicate b false) := by
  have h := walks_faces inj into axis hb b 0 (List.replicate N false) (by omega) (by simp) (by
    intro y hy hf
    have := into y hy
    simp [sat, this] at hf) (by intro y hy; omega)
  rw [Nat.sub_zero, ← List.range_eq_range', ← List.range_eq_range', List.take_replicate, Nat.min_eq_left hb] at h
  exact h
end Go.Proofs.YtkjcmppaapbabaaDoor
