/-
  Plain lemmas on lists: searches over a range of numbers. No program in sight.
  Plain: counting the numbers below n that meet a test; sums over them. No walk.
  Plain: codes as lists of letters; the tests of a code, its axis, its walks. No walk of the program.
  Plain: the program's tests of letters, ranks and crossings together say what the document's test of letters says; the place of a pass on the axis. No walk.
  Plain: the step to the left is one to one on the darts of a valid code; the program's walk, which asks only the string's darts, and the document's are the same. No walk of the program.
  Plain: what a valid code's tests give: the axis, the other visit of a crossing; the step to the left is one to one. No walk of the program.
  Plain: the faces of a code; what the program makes of a piece of the axis, and what the document does. No walk of the program.
  Plain: the last visits of a crossing over and under; what the program's test of crossings finds. No walk of the program.
  Plain: codes whose passes are moved along the axis without a change of their order: the walks stay the same, and the code stays valid where its gates and ranks do. No walk of the program.
  Plain: a finger that is taken away, and one that is put in: the code stays valid; the finger that was put in is taken away again. No walk of the program.
-/

namespace Go.Proofs.YtkjcmppaapbabaaDoor
section
/-- No number below n meets p. -/
def NoneTo (p : Nat → Bool) (n : Nat) : Prop := ∀ i, i < n → p i = false
theorem NoneTo.zero (p : Nat → Bool) : NoneTo p 0 := fun i h => by omega
theorem NoneTo.succ {p : Nat → Bool} {n : Nat} (h : NoneTo p n) (hn : p n = false) : NoneTo p (n + 1) := fun i hi => by
  by_cases e : i = n
  · subst e; exact hn
  · exact h i (by omega)
/-- The first number below n that meets p, or -1. -/
def firstI (p : Nat → Bool) (n : Nat) : Int := match (List.range n).find? p with
  | some i => i
  | none => -1
theorem find_none {p : Nat → Bool} {n : Nat} (h : NoneTo p n) : (List.range n).find? p = none := by
  rw [List.find?_eq_none]
  intro i hi
  rw [List.mem_range] at hi
  rw [h i hi]; simp
theorem find_hit {p : Nat → Bool} {n k : Nat} (h : NoneTo p k) (hk : p k = true) (hn : k < n) : (List.range n).find? p = some k := by
  induction n with
  | zero => omega
  | succ n ih =>
    rw [List.range_succ, List.find?_append]
    by_cases e : k < n
    · rw [ih e]; rfl
    · have : k = n := by omega
      subst this
      rw [find_none h]
      simp [hk]
theorem firstI_none {p : Nat → Bool} {n : Nat} (h : NoneTo p n) : firstI p n = -1 := by unfold firstI; rw [find_none h]
theorem firstI_hit {p : Nat → Bool} {n k : Nat} (h : NoneTo p k) (hk : p k = true) (hn : k < n) : firstI p n = k := by unfold firstI; rw [find_hit h hk hn]
theorem firstI_cases (p : Nat → Bool) (n : Nat) : (firstI p n = -1 ∧ NoneTo p n) ∨ ∃ k, k < n ∧ firstI p n = (k : Int) ∧ NoneTo p k ∧ p k = true := by
  induction n with
  | zero => exact .inl ⟨firstI_none (NoneTo.zero p), NoneTo.zero p⟩
  | succ n ih =>
    rcases ih with ⟨_, h⟩ | ⟨k, hk, he, hn, hp⟩
    · cases hp : p n with
      | false => exact .inl ⟨firstI_none (h.succ hp), h.succ hp⟩
      | true => exact .inr ⟨n, by omega, firstI_hit h hp (by omega), h, hp⟩
    · exact .inr ⟨k, by omega, firstI_hit hn hp (by omega), hn, hp⟩
/-- All numbers below n meet p. -/
def allTo (p : Nat → Bool) (n : Nat) : Bool := (List.range n).all p
theorem allTo_zero (p : Nat → Bool) : allTo p 0 = true := rfl
theorem allTo_succ (p : Nat → Bool) (n : Nat) : allTo p (n + 1) = (allTo p n && p n) := by
  unfold allTo
  rw [List.range_succ]; simp
theorem allTo_step {p : Nat → Bool} {n : Nat} (h : allTo p n = true) (hn : p n = true) : allTo p (n + 1) = true := by rw [allTo_succ, h, hn]; rfl
theorem allTo_no {p : Nat → Bool} {n k : Nat} (hk : k < n) (h : p k = false) : allTo p n = false := by
  unfold allTo
  rw [List.all_eq_false]
  exact ⟨k, List.mem_range.2 hk, by simp [h]⟩
theorem allTo_iff {p : Nat → Bool} {n : Nat} : allTo p n = true ↔ ∀ i, i < n → p i = true := by
  unfold allTo
  rw [List.all_eq_true]
  exact ⟨fun h i hi => h i (List.mem_range.2 hi), fun h i hi => h i (List.mem_range.1 hi)⟩
/-- How many numbers below n meet p. -/
def countTo (p : Nat → Bool) : Nat → Nat
  | 0 => 0
  | n + 1 => countTo p n + (if p n then 1 else 0)
theorem countTo_le (p : Nat → Bool) (n : Nat) : countTo p n ≤ n := by
  induction n with
  | zero => exact Nat.le_refl _
  | succ n ih => unfold countTo; split <;> omega
theorem countTo_yes {p : Nat → Bool} {n : Nat} (h : p n = true) : countTo p (n + 1) = countTo p n + 1 := by simp [countTo, h]
theorem countTo_no {p : Nat → Bool} {n : Nat} (h : p n = false) : countTo p (n + 1) = countTo p n := by simp [countTo, h]
/-- A sum over the numbers below n. -/
def sumTo (f : Nat → Int) : Nat → Int
  | 0 => 0
  | n + 1 => sumTo f n + f n
theorem sumTo_succ (f : Nat → Int) (n : Nat) : sumTo f (n + 1) = sumTo f n + f n := rfl
theorem getElem?_take_lt {α : Type} (L : List α) {k n : Nat} (h : k < n) : (L.take n)[k]? = L[k]? := by
  rw [List.getElem?_take, if_pos h]
end

section
theorem ct_congr {p q : Nat → Bool} {n : Nat} (h : ∀ m, m < n → p m = q m) : countTo p n = countTo q n := by
  induction n with
  | zero => rfl
  | succ n ih =>
    unfold countTo
    rw [ih (fun m hm => h m (by omega)), h n (by omega)]
theorem ct_none {p : Nat → Bool} {n : Nat} (h : ∀ m, m < n → p m = false) : countTo p n = 0 := by
  induction n with
  | zero => rfl
  | succ n ih => rw [countTo_no (h n (by omega))]; exact ih (fun m hm => h m (by omega))
theorem ct_sub {p q : Nat → Bool} {n : Nat} (h : ∀ m, m < n → p m = true → q m = true) : countTo p n ≤ countTo q n := by
  induction n with
  | zero => exact Nat.le_refl _
  | succ n ih =>
    have := ih (fun m hm => h m (by omega))
    have h2 := h n (by omega)
    unfold countTo
    cases hp : p n <;> cases hq : q n <;> simp [hp, hq] at h2 ⊢ <;> omega
theorem ct_lt {p q : Nat → Bool} {n i : Nat} (h : ∀ m, m < n → p m = true → q m = true) (hi : i < n) (hq : q i = true) (hp : p i = false) : countTo p n + 1 ≤ countTo q n := by
  induction n with
  | zero => omega
  | succ n ih =>
    by_cases e : i = n
    · subst e
      rw [countTo_no hp, countTo_yes hq]
      have := ct_sub (n := i) (fun m hm => h m (by omega))
      omega
    · have := ih (fun m hm => h m (by omega)) (by omega)
      have h2 := h n (by omega)
      unfold countTo
      cases hp : p n <;> cases hq : q n <;> simp [hp, hq] at h2 ⊢ <;> omega
theorem ct_one {p : Nat → Bool} {n i : Nat} (hi : i < n) (hp : p i = true) (h : ∀ m, m < n → p m = true → m = i) : countTo p n = 1 := by
  induction n with
  | zero => omega
  | succ n ih =>
    by_cases e : i = n
    · subst e
      rw [countTo_yes hp, ct_none]
      intro m hm
      cases hq : p m with
      | false => rfl
      | true => have := h m (by omega) hq; omega
    · have hn : p n = false := by
        cases hq : p n with
        | false => rfl
        | true => have := h n (by omega) hq; omega
      rw [countTo_no hn]
      exact ih (by omega) (fun m hm => h m (by omega))
theorem ct_sum {p q r : Nat → Bool} {n : Nat} (h : ∀ m, m < n → r m = (p m || q m)) (hd : ∀ m, m < n → ¬(p m = true ∧ q m = true)) : countTo r n = countTo p n + countTo q n := by
  induction n with
  | zero => rfl
  | succ n ih =>
    have := ih (fun m hm => h m (by omega)) (fun m hm => hd m (by omega))
    have h2 := h n (by omega)
    have h3 := hd n (by omega)
    unfold countTo
    cases hp : p n <;> cases hq : q n <;> simp [hp, hq] at h2 h3 <;> simp [h2] <;> omega
theorem ct_pos {p : Nat → Bool} {n i : Nat} (hi : i < n) (hp : p i = true) : 0 < countTo p n := by
  have h : ∀ m, m < n → (fun _ : Nat => false) m = true → p m = true := fun _ _ e => by cases e
  have := ct_lt h hi hp rfl
  omega
theorem ct_ex {p : Nat → Bool} {n : Nat} (h : 0 < countTo p n) : ∃ i, i < n ∧ p i = true := by
  induction n with
  | zero => exact absurd h (by simp [countTo])
  | succ n ih =>
    cases hp : p n with
    | true => exact ⟨n, by omega, hp⟩
    | false =>
      rw [countTo_no hp] at h
      obtain ⟨i, hi, hpi⟩ := ih h
      exact ⟨i, by omega, hpi⟩
/-- At most one number meets p: all that meet it are equal. -/
theorem ct_uniq {p : Nat → Bool} {n i j : Nat} (h : countTo p n ≤ 1) (hi : i < n) (hj : j < n) (hpi : p i = true) (hpj : p j = true) : i = j := by
  rcases Nat.decEq i j with e | e
  · have h1 : countTo (fun m => decide (m = i)) n = 1 := ct_one hi (by simp) (by intro m _ hm; simpa using hm)
    have h2 := ct_lt (p := fun m => decide (m = i)) (q := p) (n := n) (i := j) (fun m _ hm => by simp at hm; subst hm; exact hpi) hj hpj (by simp; omega)
    omega
  · exact e
/-- A part that is as large as the whole is the whole. -/
theorem ct_full {p q : Nat → Bool} {n : Nat} (h : ∀ m, m < n → p m = true → q m = true) (e : countTo q n ≤ countTo p n) : ∀ m, m < n → q m = true → p m = true := by
  intro m hm hq
  cases hp : p m with
  | true => rfl
  | false => have := ct_lt h hm hq hp; omega
theorem ct_ge (p : Nat → Bool) {m n : Nat} (h : m ≤ n) : countTo p m ≤ countTo p n := by
  obtain ⟨k, rfl⟩ : ∃ k, n = m + k := ⟨n - m, by omega⟩
  clear h
  induction k with
  | zero => exact Nat.le_refl _
  | succ k ih => exact Nat.le_trans ih (Nat.le_add_right _ _)
/-- A sum of natural numbers over the numbers below n. -/
def sumN (f : Nat → Nat) : Nat → Nat
  | 0 => 0
  | n + 1 => sumN f n + f n
theorem sumN_add (f g : Nat → Nat) (n : Nat) : sumN (fun i => f i + g i) n = sumN f n + sumN g n := by
  induction n with
  | zero => rfl
  | succ n ih => simp only [sumN]; rw [ih]; omega
theorem sumN_congr {f g : Nat → Nat} {n : Nat} (h : ∀ i, i < n → f i = g i) : sumN f n = sumN g n := by
  induction n with
  | zero => rfl
  | succ n ih => simp only [sumN]; rw [ih (fun i hi => h i (by omega)), h n (by omega)]
theorem sumN_zero {f : Nat → Nat} {n : Nat} (h : ∀ i, i < n → f i = 0) : sumN f n = 0 := by
  induction n with
  | zero => rfl
  | succ n ih => simp only [sumN]; rw [ih (fun i hi => h i (by omega)), h n (by omega)]
theorem sumN_one {f : Nat → Nat} {n i : Nat} (hi : i < n) (h : ∀ j, j < n → j ≠ i → f j = 0) : sumN f n = f i := by
  induction n with
  | zero => omega
  | succ n ih =>
    simp only [sumN]
    by_cases e : i = n
    · subst e; rw [sumN_zero (fun j hj => h j (by omega) (by omega))]; omega
    · rw [ih (by omega) (fun j hj hne => h j (by omega) hne), h n (by omega) (fun h' => e h'.symm)]; omega
theorem sumN_le {f : Nat → Nat} {n c : Nat} (h : ∀ i, i < n → f i ≤ c) : sumN f n ≤ n * c := by
  induction n with
  | zero => simp [sumN]
  | succ n ih =>
    simp only [sumN]
    have := ih (fun i hi => h i (by omega))
    have h2 := h n (by omega)
    rw [Nat.add_mul]; omega
/-- A sum that is as large as its bounds allow: each term is as large. -/
theorem sumN_full {f : Nat → Nat} {n c : Nat} (h : ∀ i, i < n → f i ≤ c) (e : n * c ≤ sumN f n) : ∀ i, i < n → f i = c := by
  induction n with
  | zero => intro i hi; omega
  | succ n ih =>
    simp only [sumN] at e
    have h1 := sumN_le (f := f) (n := n) (c := c) (fun i hi => h i (by omega))
    have h2 := h n (by omega)
    rw [Nat.add_mul] at e
    intro i hi
    by_cases e' : i = n
    · subst e'; omega
    · exact ih (fun i hi => h i (by omega)) (by omega) i (by omega)
theorem sumN_even {f : Nat → Nat} {n : Nat} (h : ∀ i, i < n → f i % 2 = 0) : sumN f n % 2 = 0 := by
  induction n with
  | zero => rfl
  | succ n ih =>
    have := ih (fun i hi => h i (by omega))
    have h2 := h n (by omega)
    simp only [sumN]; omega
/-- Counting by classes: each number that meets p has one class below k. -/
theorem ct_classes {p : Nat → Bool} {c : Nat → Nat} {n k : Nat} (h : ∀ m, m < n → p m = true → c m < k) : countTo p n = sumN (fun d => countTo (fun m => p m && c m == d) n) k := by
  induction n with
  | zero => exact (sumN_zero (fun _ _ => rfl)).symm
  | succ n ih =>
    have ih' := ih (fun m hm => h m (by omega))
    simp only [countTo]
    rw [sumN_add, ih']
    congr 1
    by_cases hp : p n = true
    · rw [if_pos hp, sumN_one (i := c n) (h n (by omega) hp) (by
        intro j _ hj
        have : ¬ c n = j := fun e => hj e.symm
        simp [this])]
      simp [hp]
    · rw [if_neg hp]
      exact (sumN_zero (fun _ _ => by simp [hp])).symm
/-- Distinct integers from 1 to their number: those up to v are v many. -/
theorem ct_low {p : Nat → Bool} {f : Nat → Int} {n : Nat} (hb : ∀ m, m < n → p m = true → 1 ≤ f m ∧ f m ≤ countTo p n) (hd : ∀ i j, i < n → j < n → p i = true → p j = true → f i = f j → i = j) :
    ∀ v : Nat, v ≤ countTo p n → countTo (fun m => p m && decide (f m ≤ (v : Int))) n = v := by
  have step : ∀ v : Nat, countTo (fun m => p m && decide (f m ≤ ((v + 1 : Nat) : Int))) n ≤ countTo (fun m => p m && decide (f m ≤ (v : Int))) n + 1 := by
    intro v
    rw [ct_sum (p := fun m => p m && decide (f m ≤ (v : Int))) (q := fun m => p m && decide (f m = ((v + 1 : Nat) : Int)))]
    · refine Nat.add_le_add_left ?_ _
      by_cases hx : ∃ k, k < n ∧ (p k && decide (f k = ((v + 1 : Nat) : Int))) = true
      · obtain ⟨k, hk, hp⟩ := hx
        simp at hp
        refine Nat.le_of_eq (ct_one hk (by simp [hp]) fun m hm hpm => ?_)
        simp at hpm
        exact hd m k hm hk hpm.1 hp.1 (by omega)
      · rw [ct_none]
        · omega
        · intro m hm
          cases hq : (p m && decide (f m = ((v + 1 : Nat) : Int))) with
          | false => rfl
          | true => exact absurd ⟨m, hm, hq⟩ hx
    · intro m _
      cases p m
      · rfl
      · simp only [Bool.true_and]
        rw [← Bool.decide_or]
        apply decide_eq_decide.2
        omega
    · intro m _ ⟨h1, h2⟩
      simp at h1 h2
      omega
  have h0 : countTo (fun m => p m && decide (f m ≤ ((0 : Nat) : Int))) n = 0 := ct_none fun m hm => by
    cases hp : p m with
    | false => rfl
    | true =>
      have := (hb m hm hp).1
      have : ¬ f m ≤ ((0 : Nat) : Int) := by omega
      simp only [this, decide_false, Bool.and_false]
  have hup : ∀ v k : Nat, countTo (fun m => p m && decide (f m ≤ ((v + k : Nat) : Int))) n ≤ countTo (fun m => p m && decide (f m ≤ (v : Int))) n + k := by
    intro v k
    induction k with
    | zero => exact Nat.le_refl _
    | succ k ih =>
      have := step (v + k)
      rw [show v + (k + 1) = v + k + 1 by omega]
      omega
  have hall : countTo (fun m => p m && decide (f m ≤ ((countTo p n : Nat) : Int))) n = countTo p n := ct_congr fun m hm => by
    cases hp : p m with
    | false => rfl
    | true => have := (hb m hm hp).2; simp [this]
  intro v hv
  have a1 := hup 0 v
  rw [Nat.zero_add] at a1
  have a2 := hup v (countTo p n - v)
  rw [show v + (countTo p n - v) = countTo p n by omega, hall] at a2
  have h0' : countTo (fun m => p m && decide (f m ≤ ((0 : Nat) : Int))) n = 0 := h0
  omega
end

section
structure Lt where
  kind : Int
  gate : Int
  rank : Int
  id : Int
  sign : Int
  over : Bool
instance : DecidableEq Lt := fun a b =>
  if h : a.kind = b.kind ∧ a.gate = b.gate ∧ a.rank = b.rank ∧ a.id = b.id ∧ a.sign = b.sign ∧ a.over = b.over then
    .isTrue (by cases a; cases b; simp at h; simp [h])
  else .isFalse (fun e => h (by subst e; simp))
def dl : Lt := ⟨0, 0, 0, 0, 0, false⟩
def la (L : List Lt) (i : Nat) : Lt := (L[i]?).getD dl
theorem la_of {L : List Lt} {i : Nat} {x : Lt} (h : L[i]? = some x) : la L i = x := by unfold la; rw [h]; rfl
def isP (l : Lt) : Bool := l.kind == 1
def isC (l : Lt) : Bool := l.kind == 2
theorem isP_isC {l : Lt} (h : isP l = true) : isC l = false := by unfold isP at h; unfold isC; simp at h ⊢; omega
/-- Passes, visits of crossings, passes of a gate, visits of one crossing, among the first m letters. -/
def pN (L : List Lt) (m : Nat) : Nat := countTo (fun i => isP (la L i)) m
def cN (L : List Lt) (m : Nat) : Nat := countTo (fun i => isC (la L i)) m
def gN (L : List Lt) (g : Int) (m : Nat) : Nat := countTo (fun i => isP (la L i) && (la L i).gate == g) m
def tN (L : List Lt) (d : Int) (m : Nat) : Nat := countTo (fun i => isC (la L i) && (la L i).id == d) m
def dwn (L : List Lt) (i : Nat) : Bool := pN L i % 2 == 0
def smB (l o : Lt) : Bool := o.kind == l.kind && o.gate == l.gate && o.rank == l.rank
def smN (L : List Lt) (l : Lt) (m : Nat) : Nat := countTo (fun j => smB l (la L j)) m
def prB (l o : Lt) : Bool := o.kind == l.kind && o.id == l.id && o.sign == l.sign && o.over != l.over
def prN (L : List Lt) (l : Lt) (m : Nat) : Nat := countTo (fun j => prB l (la L j)) m
/-- The document's test of a letter. -/
def rlB (K : Int) (L : List Lt) (l : Lt) : Bool :=
  if l.kind = 1 then decide (l.id = 0 ∧ l.sign = 0 ∧ l.over = false ∧ 0 ≤ l.gate ∧ l.gate ≤ K ∧ 1 ≤ l.rank ∧ l.rank ≤ (gN L l.gate L.length : Int) ∧ smN L l L.length = 1)
  else if l.kind = 2 then decide (l.gate = 0 ∧ l.rank = 0 ∧ (l.sign = 1 ∨ l.sign = -1) ∧ 1 ≤ l.id ∧ l.id ≤ ((cN L L.length / 2 : Nat) : Int) ∧ prN L l L.length = 1 ∧ tN L l.id L.length = 2)
  else false
def lettersR (K : Int) (L : List Lt) : Bool := allTo (fun i => rlB K L (la L i)) L.length
/-- The program's tests. -/
def lpB (K : Int) (l : Lt) : Bool :=
  if l.kind = 1 then decide (0 ≤ l.gate ∧ l.gate ≤ K ∧ l.id = 0 ∧ l.sign = 0 ∧ l.over = false)
  else if l.kind = 2 then decide (l.gate = 0 ∧ l.rank = 0 ∧ (l.sign = 1 ∨ l.sign = -1))
  else false
def lettersP (K : Int) (L : List Lt) : Bool := allTo (fun i => lpB K (la L i)) L.length
def keyB (a b : Lt) : Bool := a.gate == b.gate && a.rank == b.rank
def rkB (L : List Lt) (i : Nat) : Bool :=
  !isP (la L i) || (decide (1 ≤ (la L i).rank ∧ (la L i).rank ≤ (gN L (la L i).gate L.length : Int)) && allTo (fun j => !(isP (la L j) && keyB (la L j) (la L i))) i)
def ranksP (L : List Lt) : Bool := allTo (rkB L) L.length
def crB (L : List Lt) (i : Nat) : Bool :=
  !isC (la L i) || (decide (1 ≤ (la L i).id ∧ (la L i).id ≤ ((cN L L.length / 2 : Nat) : Int)) && allTo (fun j => !(isC (la L j) && (la L j).id == (la L i).id) || ((la L j).over != (la L i).over && (la L j).sign == (la L i).sign)) i)
def crossP (L : List Lt) : Bool := decide (cN L L.length % 2 = 0) && allTo (crB L) L.length
/-- The first visits of crossings. -/
def nwB (L : List Lt) (i : Nat) : Bool := isC (la L i) && allTo (fun j => !(isC (la L j) && (la L j).id == (la L i).id)) i
def dN (L : List Lt) (m : Nat) : Nat := countTo (nwB L) m
/-- The passes from left to right. -/
def lftB (a b : Lt) : Bool := decide (a.gate < b.gate) || (a.gate == b.gate && decide (a.rank < b.rank))
def insX (L : List Lt) (i : Nat) : List Nat → List Nat
  | [] => [i]
  | x :: X => if lftB (la L x) (la L i) then x :: insX L i X else i :: x :: X
def axTo (L : List Lt) : Nat → List Nat
  | 0 => []
  | m + 1 => if isP (la L m) then insX L m (axTo L m) else axTo L m
def axL (L : List Lt) : List Nat := axTo L L.length
/-- The walk that always turns left. -/
def othN (L : List Lt) (i : Nat) : Nat := ((List.range L.length).find? (fun j => j != i && isC (la L j) && (la L j).id == (la L i).id)).getD i
def idxN (X : List Nat) (v : Nat) : Nat := X.findIdx (· == v)
def xat (X : List Nat) (i : Nat) : Nat := (X[i]?).getD 0
def alongN (n i : Nat) (f : Bool) : Nat := if f then 2 * i else 2 * ((i + n - 1) % n) + 1
def headN (n d : Nat) : Nat := if d % 2 = 0 then (d / 2 + 1) % n else d / 2
def leftF (L : List Lt) (X : List Nat) (d : Nat) : Nat :=
  if 2 * L.length ≤ d then
    if d % 2 = 0 then alongN L.length (xat X (((d - 2 * L.length) / 2 + 1) % X.length)) (!dwn L (xat X (((d - 2 * L.length) / 2 + 1) % X.length)))
    else alongN L.length (xat X ((d - 2 * L.length) / 2)) (dwn L (xat X ((d - 2 * L.length) / 2)))
  else if isC (la L (headN L.length d)) then alongN L.length (othN L (headN L.length d)) ((d % 2 == 0) == ((la L (headN L.length d)).over == ((la L (headN L.length d)).sign == 1)))
  else if dwn L (headN L.length d) == (d % 2 == 0) then 2 * L.length + 2 * idxN X (headN L.length d)
  else 2 * L.length + 2 * ((idxN X (headN L.length d) + X.length - 1) % X.length) + 1
def sat (s : List Bool) (x : Nat) : Bool := (s[x]?).getD true
def walk1 (f : Nat → Nat) : Nat → List Bool → Nat → List Nat × List Bool
  | 0, s, _ => ([], s)
  | k + 1, s, x => if sat s x then ([], s) else (x :: (walk1 f k (s.set x true) (f x)).1, (walk1 f k (s.set x true) (f x)).2)
def walksF (f : Nat → Nat) : List Nat → List Bool → List (List Nat)
  | [], _ => []
  | d :: ds, s => if sat s d then walksF f ds s else (walk1 f s.length s d).1 :: walksF f ds (walk1 f s.length s d).2
def dartsN (L : List Lt) : Nat := 2 * L.length + 2 * (axL L).length
def walksL (L : List Lt) : List (List Nat) := walksF (leftF L (axL L)) (List.range (dartsN L)) (List.replicate (dartsN L) false)
def flatB (L : List Lt) : Bool := (walksL L).length == pN L L.length + cN L L.length / 2 + 2
/-- The error of a code: 0 OK, 2 ErrArg, 3 ErrCode, 7 ErrLong. -/
def validB2 (K : Int) (L : List Lt) : Bool := isP (la L 0) && decide (pN L L.length % 2 = 0) && lettersR K L && flatB L
def checkE (K : Int) (L : List Lt) : Int :=
  if 400 < L.length ∨ 200 < cN L L.length then 7 else if K < 0 ∨ 40 < K then 2 else if L.length = 0 then 0 else if validB2 K L then 0 else 3
end

section
theorem ct_le_one {p : Nat → Bool} {n : Nat} (h : ∀ i j, i < n → j < n → p i = true → p j = true → i = j) : countTo p n ≤ 1 := by
  rcases Nat.eq_zero_or_pos (countTo p n) with h0 | h0
  · omega
  · obtain ⟨i, hi, hp⟩ := ct_ex h0
    rw [ct_one hi hp (fun m hm hpm => h m i hm hi hpm hp)]
    omega
theorem ct_first {p : Nat → Bool} {n : Nat} (h : 0 < countTo p n) : ∃ i, i < n ∧ p i = true ∧ ∀ j, j < i → p j = false := by
  induction n with
  | zero => simp [countTo] at h
  | succ n ih =>
    by_cases h0 : 0 < countTo p n
    · obtain ⟨i, hi, r⟩ := ih h0
      exact ⟨i, by omega, r⟩
    · cases hp : p n with
      | false => rw [countTo_no hp] at h; omega
      | true =>
        refine ⟨n, by omega, hp, fun j hj => ?_⟩
        cases hq : p j with
        | false => rfl
        | true => have := ct_pos hj hq; omega
theorem sumN_ones (n : Nat) : sumN (fun _ => 1) n = n := by
  induction n with
  | zero => rfl
  | succ n ih => simp only [sumN]; rw [ih]
/-- What crB says. -/
theorem crB_iff {L : List Lt} {i : Nat} : crB L i = true ↔ (isC (la L i) = true → (1 ≤ (la L i).id ∧ (la L i).id ≤ ((cN L L.length / 2 : Nat) : Int)) ∧ ∀ j, j < i → isC (la L j) = true → (la L j).id = (la L i).id → (la L j).over ≠ (la L i).over ∧ (la L j).sign = (la L i).sign) := by
  unfold crB
  cases h : isC (la L i) with
  | false => simp
  | true =>
    simp only [Bool.not_true, Bool.false_or, Bool.and_eq_true, decide_eq_true_eq, allTo_iff, forall_const]
    refine and_congr_right fun _ => forall_congr' fun j => forall_congr' fun _ => ?_
    cases h2 : isC (la L j) <;> simp
    by_cases h3 : (la L j).id = (la L i).id <;> simp [h3]
theorem rkB_iff {L : List Lt} {i : Nat} : rkB L i = true ↔ (isP (la L i) = true → (1 ≤ (la L i).rank ∧ (la L i).rank ≤ (gN L (la L i).gate L.length : Int)) ∧ ∀ j, j < i → isP (la L j) = true → (la L j).gate = (la L i).gate → (la L j).rank ≠ (la L i).rank) := by
  unfold rkB
  cases h : isP (la L i) with
  | false => simp
  | true =>
    simp only [Bool.not_true, Bool.false_or, Bool.and_eq_true, decide_eq_true_eq, allTo_iff, forall_const]
    refine and_congr_right fun _ => forall_congr' fun j => forall_congr' fun _ => ?_
    cases h2 : isP (la L j) <;> simp [keyB]
    by_cases h3 : (la L j).gate = (la L i).gate <;> simp [h3]
theorem ids_sum {L : List Lt} {n : Nat} (h : ∀ i, i < n → isC (la L i) = true → 1 ≤ (la L i).id ∧ (la L i).id ≤ ((cN L L.length / 2 : Nat) : Int)) :
    cN L n = sumN (fun d => tN L ((d + 1 : Nat) : Int) n) (cN L L.length / 2) := by
  unfold cN
  rw [ct_classes (p := fun i => isC (la L i)) (c := fun i => ((la L i).id - 1).toNat) (n := n) (k := cN L L.length / 2) (by
    intro m hm hc
    have := h m hm hc
    omega)]
  refine sumN_congr fun d _ => ct_congr fun m hm => ?_
  cases hc : isC (la L m) with
  | false => rfl
  | true =>
    have := h m hm hc
    simp only [Bool.true_and]
    rw [Bool.eq_iff_iff]
    simp
    omega
theorem cr_overs {L : List Lt} (h : ∀ i, i < L.length → crB L i = true) {i j : Nat} (hi : i < L.length) (hj : j < L.length) (hci : isC (la L i) = true) (hcj : isC (la L j) = true) (hid : (la L i).id = (la L j).id) (hne : i ≠ j) :
    (la L i).over ≠ (la L j).over ∧ (la L i).sign = (la L j).sign := by
  rcases Nat.lt_or_gt_of_ne hne with hlt | hlt
  · exact (crB_iff.1 (h j hj) hcj).2 i hlt hci hid
  · have := (crB_iff.1 (h i hi) hci).2 j hlt hcj hid.symm
    exact ⟨fun e => this.1 e.symm, this.2.symm⟩
theorem tN_split (L : List Lt) (d : Int) (b : Bool) (n : Nat) : tN L d n = countTo (fun m => isC (la L m) && (la L m).id == d && (la L m).over == b) n + countTo (fun m => isC (la L m) && (la L m).id == d && (la L m).over != b) n := by
  unfold tN
  refine ct_sum (fun m _ => ?_) (fun m _ => ?_)
  · cases (la L m).over <;> cases b <;> simp
  · rintro ⟨h1, h2⟩
    simp at h1 h2
    exact h2.2 h1.2
theorem over_le {L : List Lt} (h : ∀ i, i < L.length → crB L i = true) (d : Int) (p : Bool → Bool) (hp : ∀ a b, p a = true → p b = true → a = b) : countTo (fun m => isC (la L m) && (la L m).id == d && p (la L m).over) L.length ≤ 1 := by
  refine ct_le_one fun i j hi hj h1 h2 => ?_
  simp at h1 h2
  rcases Nat.decEq i j with e | e
  · exact absurd (hp _ _ h1.2 h2.2) (cr_overs h hi hj h1.1.1 h2.1.1 (by rw [h1.1.2, h2.1.2]) e).1
  · exact e
theorem tN_le {L : List Lt} (h : ∀ i, i < L.length → crB L i = true) (d : Int) : tN L d L.length ≤ 2 := by
  rw [tN_split L d true]
  have h1 := over_le h d (fun o => o == true) (by simp)
  have h2 := over_le h d (fun o => o != true) (by simp)
  omega
theorem tN_two {L : List Lt} (he : cN L L.length % 2 = 0) (h : ∀ i, i < L.length → crB L i = true) {d : Nat} (hd : d < cN L L.length / 2) : tN L ((d + 1 : Nat) : Int) L.length = 2 := by
  have hs := ids_sum (L := L) (n := L.length) (fun i hi hc => (crB_iff.1 (h i hi) hc).1)
  exact sumN_full (f := fun d => tN L ((d + 1 : Nat) : Int) L.length) (c := 2) (fun i _ => tN_le h _) (by omega) d hd
theorem dN_is {L : List Lt} (h : crossP L = true) : dN L L.length = cN L L.length / 2 := by
  unfold crossP at h
  simp only [Bool.and_eq_true, decide_eq_true_eq, allTo_iff] at h
  obtain ⟨he, h⟩ := h
  unfold dN
  rw [ct_classes (p := nwB L) (c := fun i => ((la L i).id - 1).toNat) (n := L.length) (k := cN L L.length / 2) (by
    intro m hm hc
    unfold nwB at hc
    simp at hc
    have := (crB_iff.1 (h m hm) hc.1).1
    omega)]
  refine Eq.trans (sumN_congr (g := fun _ => 1) fun d hd => ?_) (sumN_ones _)
  have ht := tN_two he h hd
  obtain ⟨i, hi, hp, hno⟩ := ct_first (p := fun i => isC (la L i) && (la L i).id == ((d + 1 : Nat) : Int)) (n := L.length) (by unfold tN at ht; omega)
  simp at hp
  refine ct_one hi ?_ (fun m hm hpm => ?_)
  · simp only [Bool.and_eq_true, beq_iff_eq]
    refine ⟨?_, by omega⟩
    unfold nwB
    simp only [Bool.and_eq_true, allTo_iff]
    refine ⟨hp.1, fun j hj => ?_⟩
    have := hno j hj
    rw [hp.2]
    simp only [Bool.not_eq_true']
    exact this
  · simp only [Bool.and_eq_true, beq_iff_eq] at hpm
    obtain ⟨hnw, hcl⟩ := hpm
    unfold nwB at hnw
    simp only [Bool.and_eq_true, allTo_iff] at hnw
    have hb := (crB_iff.1 (h m hm) hnw.1).1
    have hid : (la L m).id = ((d + 1 : Nat) : Int) := by omega
    rcases Nat.lt_trichotomy m i with hlt | rfl | hgt
    · have := hno m hlt
      simp [hnw.1] at this
      omega
    · rfl
    · have := hnw.2 i hgt
      simp [hp.1] at this
      omega
theorem letters_iff (K : Int) (L : List Lt) : (lettersP K L && ranksP L && crossP L) = lettersR K L := by
  rw [Bool.eq_iff_iff]
  unfold lettersP ranksP crossP lettersR
  simp only [Bool.and_eq_true, decide_eq_true_eq, allTo_iff]
  constructor
  · rintro ⟨⟨hl, hr⟩, he, hc⟩ i hi
    have hli := hl i hi
    unfold lpB at hli
    unfold rlB
    by_cases h1 : (la L i).kind = 1
    · rw [if_pos h1] at hli ⊢
      have hpi : isP (la L i) = true := by unfold isP; simp [h1]
      have hri := rkB_iff.1 (hr i hi) hpi
      simp only [decide_eq_true_eq] at hli ⊢
      refine ⟨hli.2.2.1, hli.2.2.2.1, hli.2.2.2.2, hli.1, hli.2.1, hri.1.1, hri.1.2, ?_⟩
      refine ct_one hi (by simp [smB]) (fun m hm hs => ?_)
      simp [smB] at hs
      have hpm : isP (la L m) = true := by unfold isP; simp [hs.1.1, h1]
      rcases Nat.lt_trichotomy m i with hlt | rfl | hgt
      · exact absurd hs.2 (hri.2 m hlt hpm hs.1.2)
      · rfl
      · exact absurd hs.2.symm ((rkB_iff.1 (hr m hm) hpm).2 i hgt hpi hs.1.2.symm)
    · rw [if_neg h1] at hli ⊢
      by_cases h2 : (la L i).kind = 2
      · rw [if_pos h2] at hli ⊢
        have hci : isC (la L i) = true := by unfold isC; simp [h2]
        have hcr := crB_iff.1 (hc i hi) hci
        simp only [decide_eq_true_eq] at hli ⊢
        have ht : tN L (la L i).id L.length = 2 := by
          have hd : ((la L i).id - 1).toNat < cN L L.length / 2 := by omega
          have := tN_two he hc hd
          rwa [show ((((la L i).id - 1).toNat + 1 : Nat) : Int) = (la L i).id by omega] at this
        refine ⟨hli.1, hli.2.1, hli.2.2, hcr.1.1, hcr.1.2, ?_, ht⟩
        have hs := tN_split L (la L i).id (la L i).over L.length
        have o1 := over_le hc (la L i).id (fun o => o == (la L i).over) (by simp)
        have o2 := over_le hc (la L i).id (fun o => o != (la L i).over) (by intro a b; cases a <;> cases b <;> cases (la L i).over <;> simp)
        have he : prN L (la L i) L.length = countTo (fun m => isC (la L m) && (la L m).id == (la L i).id && (la L m).over != (la L i).over) L.length := by
          refine ct_congr fun m hm => ?_
          unfold prB
          rw [Bool.eq_iff_iff]
          simp only [Bool.and_eq_true, beq_iff_eq, bne_iff_ne, isC]
          constructor
          · rintro ⟨⟨⟨a, b⟩, c⟩, d⟩
            exact ⟨⟨a.trans h2, b⟩, d⟩
          · rintro ⟨⟨a, b⟩, d⟩
            refine ⟨⟨⟨a.trans h2.symm, b⟩, ?_⟩, d⟩
            have hcm : isC (la L m) = true := by unfold isC; simp [a]
            exact (cr_overs hc hm hi hcm hci b (fun e => d (by rw [e]))).2
        omega
      · rw [if_neg h2] at hli; cases hli
  · intro h
    have hl : ∀ i, i < L.length → lpB K (la L i) = true := by
      intro i hi
      have := h i hi
      unfold rlB at this
      unfold lpB
      by_cases h1 : (la L i).kind = 1
      · rw [if_pos h1] at this ⊢
        simp only [decide_eq_true_eq] at this ⊢
        exact ⟨this.2.2.2.1, this.2.2.2.2.1, this.1, this.2.1, this.2.2.1⟩
      · rw [if_neg h1] at this ⊢
        by_cases h2 : (la L i).kind = 2
        · rw [if_pos h2] at this ⊢
          simp only [decide_eq_true_eq] at this ⊢
          exact ⟨this.1, this.2.1, this.2.2.1⟩
        · rw [if_neg h2] at this; cases this
    have hcx : ∀ i, i < L.length → isC (la L i) = true → (1 ≤ (la L i).id ∧ (la L i).id ≤ ((cN L L.length / 2 : Nat) : Int)) ∧ prN L (la L i) L.length = 1 ∧ tN L (la L i).id L.length = 2 := by
      intro i hi hc
      have := h i hi
      unfold isC at hc
      simp at hc
      unfold rlB at this
      rw [if_neg (by omega), if_pos hc] at this
      simp only [decide_eq_true_eq] at this
      exact ⟨⟨this.2.2.2.1, this.2.2.2.2.1⟩, this.2.2.2.2.2.1, this.2.2.2.2.2.2⟩
    refine ⟨⟨hl, fun i hi => rkB_iff.2 fun hp => ?_⟩, ?_, fun i hi => crB_iff.2 fun hci => ⟨(hcx i hi hci).1, fun j hj hcj hid => ?_⟩⟩
    · have hk : (la L i).kind = 1 := by unfold isP at hp; simpa using hp
      have := h i hi
      unfold rlB at this
      rw [if_pos hk] at this
      simp only [decide_eq_true_eq] at this
      refine ⟨⟨this.2.2.2.2.2.1, this.2.2.2.2.2.2.1⟩, fun j hj hpj hg hr => ?_⟩
      have hkj : (la L j).kind = 1 := by unfold isP at hpj; simpa using hpj
      have := ct_uniq (p := fun j => smB (la L i) (la L j)) (Nat.le_of_eq this.2.2.2.2.2.2.2) (i := i) (j := j) hi (by omega) (by simp [smB]) (by simp [smB, hk, hkj, hg, hr])
      omega
    · rw [ids_sum (fun i hi hc => (hcx i hi hc).1)]
      refine sumN_even fun d _ => ?_
      rcases Nat.eq_zero_or_pos (tN L ((d + 1 : Nat) : Int) L.length) with h0 | h0
      · rw [h0]
      · obtain ⟨m, hm, hp⟩ := ct_ex h0
        simp at hp
        have := (hcx m hm hp.1).2.2
        rw [hp.2] at this
        rw [show ((d + 1 : Nat) : Int) = (d : Int) + 1 by omega, this]
    · obtain ⟨_, hpr, ht⟩ := hcx i hi hci
      have hs := tN_split L (la L i).id (la L i).over L.length
      have hsub : ∀ m, m < L.length → prB (la L i) (la L m) = true → (isC (la L m) && (la L m).id == (la L i).id && (la L m).over != (la L i).over) = true := by
        intro m _ hp
        unfold isC at hci
        simp [prB] at hp hci
        simp [isC, hp.1.1.1, hci, hp.1.1.2, hp.2]
      have hle := ct_sub hsub
      have h1 := ct_pos (p := fun m => isC (la L m) && (la L m).id == (la L i).id && (la L m).over == (la L i).over) hi (by simp [hci])
      unfold prN at hpr
      have hov : (la L j).over ≠ (la L i).over := by
        intro e
        have := ct_uniq (p := fun m => isC (la L m) && (la L m).id == (la L i).id && (la L m).over == (la L i).over) (n := L.length) (by omega) (i := i) (j := j) hi (by omega) (by simp [hci]) (by simp [hcj, hid, e])
        omega
      refine ⟨hov, ?_⟩
      have := ct_full hsub (by omega) j (by omega) (by simp [hcj, hid, hov])
      simp [prB] at this
      exact this.1.2
/-- The axis. -/
theorem insX_count (L : List Lt) (i : Nat) (q : Nat → Bool) : ∀ X : List Nat, (insX L i X).countP q = X.countP q + (if q i then 1 else 0)
  | [] => by simp [insX, List.countP_cons]
  | x :: X => by
    unfold insX
    split
    · rw [List.countP_cons, List.countP_cons, insX_count L i q X]; omega
    · rw [List.countP_cons, List.countP_cons]
theorem axTo_count (L : List Lt) (q : Nat → Bool) (m : Nat) : (axTo L m).countP q = countTo (fun j => isP (la L j) && q j) m := by
  induction m with
  | zero => rfl
  | succ m ih =>
    unfold axTo countTo
    cases h : isP (la L m) with
    | true => rw [if_pos rfl, insX_count, ih]; simp
    | false => simp [ih]
theorem insX_len (L : List Lt) (i : Nat) : ∀ X : List Nat, (insX L i X).length = X.length + 1
  | [] => rfl
  | x :: X => by unfold insX; split <;> simp [insX_len L i X]
theorem axTo_len (L : List Lt) (m : Nat) : (axTo L m).length = pN L m := by
  induction m with
  | zero => rfl
  | succ m ih =>
    unfold axTo pN countTo
    cases h : isP (la L m) with
    | true => rw [if_pos rfl, insX_len, ih]; simp [pN]
    | false => simp [ih, pN]
theorem axL_len (L : List Lt) : (axL L).length = pN L L.length := axTo_len L _
theorem mem_insX (L : List Lt) (i x : Nat) : ∀ X : List Nat, x ∈ insX L i X ↔ x = i ∨ x ∈ X
  | [] => by simp [insX]
  | y :: X => by
    unfold insX
    split
    · simp [mem_insX L i x X]; constructor <;> (rintro (h | h | h) <;> simp [h])
    · simp
theorem mem_axTo (L : List Lt) (x m : Nat) : x ∈ axTo L m ↔ x < m ∧ isP (la L x) = true := by
  induction m with
  | zero => simp [axTo]
  | succ m ih =>
    unfold axTo
    cases h : isP (la L m) with
    | true =>
      rw [if_pos rfl, mem_insX, ih]
      constructor
      · rintro (rfl | ⟨h1, h2⟩)
        · exact ⟨by omega, h⟩
        · exact ⟨by omega, h2⟩
      · rintro ⟨h1, h2⟩
        rcases Nat.decEq x m with e | e
        · exact .inr ⟨by omega, h2⟩
        · exact .inl e
    | false =>
      simp only [Bool.false_eq_true, if_false]
      rw [ih]
      constructor
      · rintro ⟨h1, h2⟩; exact ⟨by omega, h2⟩
      · rintro ⟨h1, h2⟩
        refine ⟨?_, h2⟩
        rcases Nat.decEq x m with e | e
        · omega
        · subst e; rw [h] at h2; cases h2
theorem lftB_iff {a b : Lt} : lftB a b = true ↔ a.gate < b.gate ∨ (a.gate = b.gate ∧ a.rank < b.rank) := by unfold lftB; simp
theorem insX_pw {L : List Lt} {i : Nat} : ∀ {X : List Nat}, X.Pairwise (fun a b => lftB (la L a) (la L b) = true) → (∀ x ∈ X, ¬((la L x).gate = (la L i).gate ∧ (la L x).rank = (la L i).rank)) → (insX L i X).Pairwise (fun a b => lftB (la L a) (la L b) = true)
  | [], _, _ => by simp [insX]
  | x :: X, h, hne => by
    rw [List.pairwise_cons] at h
    unfold insX
    split
    · rename_i hx
      rw [List.pairwise_cons]
      refine ⟨fun y hy => ?_, insX_pw h.2 (fun y hy => hne y (by simp [hy]))⟩
      rcases (mem_insX L i y X).1 hy with rfl | hy
      · exact hx
      · exact h.1 y hy
    · rename_i hx
      have hix : lftB (la L i) (la L x) = true := by
        have hne' := hne x (by simp)
        rw [lftB_iff] at hx ⊢
        omega
      rw [List.pairwise_cons, List.pairwise_cons]
      refine ⟨fun y hy => ?_, h⟩
      rcases List.mem_cons.1 hy with rfl | hy
      · exact hix
      · have := h.1 y hy
        rw [lftB_iff] at this hix ⊢
        omega
theorem axTo_pw {L : List Lt} (h : ∀ i, i < L.length → rkB L i = true) : ∀ m, m ≤ L.length → (axTo L m).Pairwise (fun a b => lftB (la L a) (la L b) = true)
  | 0, _ => by simp [axTo]
  | m + 1, hm => by
    have ih := axTo_pw h m (by omega)
    unfold axTo
    cases hp : isP (la L m) with
    | false => simpa using ih
    | true =>
      rw [if_pos rfl]
      refine insX_pw ih fun x hx hk => ?_
      rw [mem_axTo] at hx
      exact (rkB_iff.1 (h m (by omega)) hp).2 x hx.1 hx.2 hk.1 hk.2
theorem pos_count {L : List Lt} {i : Nat} : ∀ {X : List Nat} {p : Nat}, X.Pairwise (fun a b => lftB (la L a) (la L b) = true) → X[p]? = some i → X.countP (fun j => lftB (la L j) (la L i)) = p
  | [], p, _, h => by simp at h
  | x :: X, 0, h, hx => by
    simp at hx; subst hx
    rw [List.pairwise_cons] at h
    rw [List.countP_cons, List.countP_eq_zero.2]
    · have : lftB (la L x) (la L x) = false := by
        cases hq : lftB (la L x) (la L x) with
        | false => rfl
        | true => rw [lftB_iff] at hq; omega
      rw [this]; rfl
    · intro y hy hq
      have := h.1 y hy
      rw [lftB_iff] at this hq
      omega
  | x :: X, p + 1, h, hx => by
    simp at hx
    rw [List.pairwise_cons] at h
    rw [List.countP_cons, pos_count h.2 hx, h.1 i (List.mem_of_getElem? hx)]
    rfl
/-- The place of a pass on the axis. -/
def fsN (L : List Lt) (g : Nat) : Nat := sumN (fun d => gN L (d : Int) L.length) g
def atN (L : List Lt) (i : Nat) : Nat := fsN L (la L i).gate.toNat + ((la L i).rank.toNat - 1)
theorem left_count {L : List Lt} (hg : ∀ i, i < L.length → isP (la L i) = true → 0 ≤ (la L i).gate) (h : ∀ i, i < L.length → rkB L i = true) {i : Nat} (hi : i < L.length) (hp : isP (la L i) = true) :
    countTo (fun j => isP (la L j) && lftB (la L j) (la L i)) L.length = atN L i := by
  rw [ct_sum (p := fun j => isP (la L j) && decide ((la L j).gate < (la L i).gate)) (q := fun j => (isP (la L j) && (la L j).gate == (la L i).gate) && decide ((la L j).rank ≤ (((la L i).rank.toNat - 1 : Nat) : Int)))]
  · unfold atN
    have hr := (rkB_iff.1 (h i hi) hp).1
    congr 1
    · rw [ct_classes (c := fun j => (la L j).gate.toNat) (k := (la L i).gate.toNat) (by
        intro m hm hq
        simp at hq
        have := hg m hm hq.1
        omega)]
      refine sumN_congr fun d hd => ct_congr fun m hm => ?_
      cases hq : isP (la L m) with
      | false => rfl
      | true =>
        have := hg m hm hq
        simp only [Bool.true_and]
        rw [Bool.eq_iff_iff]
        simp
        omega
    · refine ct_low (p := fun j => isP (la L j) && (la L j).gate == (la L i).gate) (f := fun j => (la L j).rank) ?_ ?_ _ ?_
      · intro m hm hq
        simp at hq
        have := (rkB_iff.1 (h m hm) hq.1).1
        rw [hq.2] at this
        exact this
      · intro a b ha hb hqa hqb e
        simp at hqa hqb
        rcases Nat.lt_trichotomy a b with hlt | rfl | hgt
        · exact absurd e ((rkB_iff.1 (h b hb) hqb.1).2 a hlt hqa.1 (by rw [hqa.2, hqb.2]))
        · rfl
        · exact absurd e.symm ((rkB_iff.1 (h a ha) hqa.1).2 b hgt hqb.1 (by rw [hqa.2, hqb.2]))
      · have : (la L i).rank ≤ ((countTo (fun j => isP (la L j) && (la L j).gate == (la L i).gate) L.length : Nat) : Int) := hr.2
        omega
  · intro m hm
    have hr := (rkB_iff.1 (h i hi) hp).1
    cases hq : isP (la L m) with
    | false => rfl
    | true =>
      simp only [Bool.true_and]
      rw [Bool.eq_iff_iff]
      simp [lftB]
      omega
  · rintro m _ ⟨h1, h2⟩
    simp at h1 h2
    omega
theorem ax_at {L : List Lt} (hg : ∀ i, i < L.length → isP (la L i) = true → 0 ≤ (la L i).gate) (h : ∀ i, i < L.length → rkB L i = true) {i : Nat} (hi : i < L.length) (hp : isP (la L i) = true) : (axL L)[atN L i]? = some i := by
  have hm : i ∈ axL L := (mem_axTo L i _).2 ⟨hi, hp⟩
  obtain ⟨p, hlt, he⟩ := List.getElem_of_mem hm
  have hp' : (axL L)[p]? = some i := by rw [List.getElem?_eq_getElem hlt, he]
  have := pos_count (axTo_pw h _ (Nat.le_refl _)) hp'
  rw [axTo_count, left_count hg h hi hp] at this
  rw [this]; exact hp'
theorem ax_nodup {L : List Lt} (h : ∀ i, i < L.length → rkB L i = true) : (axL L).Nodup := by
  refine (axTo_pw h _ (Nat.le_refl _)).imp fun hab e => ?_
  subst e
  rw [lftB_iff] at hab
  omega
theorem idxN_at {X : List Nat} (hn : X.Nodup) {p v : Nat} (h : X[p]? = some v) : idxN X v = p := by
  unfold idxN
  induction X generalizing p with
  | nil => simp at h
  | cons x X ih =>
    rw [List.nodup_cons] at hn
    rw [List.findIdx_cons]
    cases p with
    | zero => simp at h; subst h; simp
    | succ p =>
      simp at h
      have : (x == v) = false := by simpa using (fun e => hn.1 (by rw [e]; exact List.mem_of_getElem? h) : ¬x = v)
      rw [this, ih hn.2 h]
      rfl
end

section
def face1 (f : Nat → Nat) (b : Nat) : Nat → List Bool → Nat → List Nat × List Bool
  | 0, s, _ => ([], s)
  | k + 1, s, x => if x < b then (if sat s x then ([], s) else (x :: (face1 f b k (s.set x true) (f x)).1, (face1 f b k (s.set x true) (f x)).2)) else (x :: (face1 f b k s (f x)).1, (face1 f b k s (f x)).2)
def facesF (f : Nat → Nat) (b : Nat) : List Nat → List Bool → List (List Nat)
  | [], _ => []
  | d :: ds, s => if sat s d then facesF f b ds s else (face1 f b (2 * s.length + 2) s d).1 :: facesF f b ds (face1 f b (2 * s.length + 2) s d).2
theorem sat_set {s : List Bool} {x y : Nat} : sat (s.set x true) y = (sat s y || decide (x = y)) := by
  unfold sat
  rw [List.getElem?_set]
  by_cases h : x = y
  · subst h
    by_cases hl : x < s.length
    · simp [hl]
    · simp [hl]
  · simp [h]
theorem sat_out {s : List Bool} {x : Nat} (h : s.length ≤ x) : sat s x = true := by unfold sat; rw [List.getElem?_eq_none h]; rfl
theorem sat_take {s : List Bool} {x b : Nat} (h : x < b) : sat (s.take b) x = sat s x := by unfold sat; rw [List.getElem?_take, if_pos h]
/-- How many are not yet seen. -/
def unN (s : List Bool) : Nat := s.countP (fun b => !b)
theorem unN_set : ∀ {s : List Bool} {x : Nat}, sat s x = false → unN (s.set x true) + 1 = unN s
  | [], x, h => by simp [sat] at h
  | b :: s, 0, h => by simp [sat] at h; subst h; simp [unN]
  | b :: s, x + 1, h => by
    have := unN_set (s := s) (x := x) (by simpa [sat] using h)
    unfold unN at this ⊢
    simp only [List.set_cons_succ, List.countP_cons]
    omega
theorem unN_pos {s : List Bool} {x : Nat} (h : sat s x = false) : 0 < unN s := by have := unN_set h; omega
theorem unN_le (s : List Bool) : unN s ≤ s.length := List.countP_le_length
/-- P is a path that f makes from d; x is what comes next. -/
def PathTo (f : Nat → Nat) (d : Nat) : List Nat → Nat → Prop
  | [], x => x = d
  | p :: P, x => x = f p ∧ PathTo f d P p
theorem path_mem {f : Nat → Nat} {d : Nat} : ∀ {P : List Nat} {x q : Nat}, PathTo f d P x → q ∈ P → q = d ∨ ∃ r, r ∈ P ∧ q = f r
  | [], _, _, _, h => by cases h
  | p :: P, x, q, hp, hq => by
    rcases List.mem_cons.1 hq with rfl | hq
    · cases P with
      | nil => exact .inl hp.2
      | cons r P => exact .inr ⟨r, by simp, hp.2.1⟩
    · rcases path_mem hp.2 hq with h | ⟨r, hr, h⟩
      · exact .inl h
      · exact .inr ⟨r, by simp [hr], h⟩
/-- Along a path without repetition only the last step leads out of what has been met, or to its beginning. -/
theorem path_close {f : Nat → Nat} {d N : Nat} (inj : ∀ x y, x < N → y < N → f x = f y → x = y) {p : Nat} : ∀ {P Q : List Nat} {q : Nat}, PathTo f d (Q ++ p :: P) q → (Q ++ p :: P).Nodup → (∀ y ∈ Q ++ p :: P, y < N) → ∀ r, r ∈ p :: P → r ≠ d → ∃ t, t ∈ P ∧ r = f t
  | P, [], q, hp, hn, hN, r, hr, hd => by
    rcases List.mem_cons.1 hr with rfl | hr'
    · cases P with
      | nil => exact absurd hp.2 hd
      | cons t P => exact ⟨t, by simp, hp.2.1⟩
    · rcases path_mem hp.2 hr' with h | ⟨t, ht, h⟩
      · exact absurd h hd
      · exact ⟨t, ht, h⟩
  | P, c :: Q, q, hp, hn, hN, r, hr, hd => path_close inj (P := P) (Q := Q) hp.2 (List.nodup_cons.1 hn).2 (fun y hy => hN y (by simp at hy ⊢; exact .inr hy)) r hr hd
/-- Of all darts: those from which the walk leads to a dart that has been seen have been seen. -/
def Back (f : Nat → Nat) (N : Nat) (s : List Bool) : Prop := ∀ y, y < N → sat s (f y) = true → sat s y = true
/-- The two walks go hand in hand. -/
theorem walk_face {f : Nat → Nat} {N b d : Nat} (inj : ∀ x y, x < N → y < N → f x = f y → x = y) (into : ∀ x, x < N → f x < N) (axis : ∀ x, b ≤ x → x < N → f x < b) (hb : b ≤ N) (hd : d < b)
    {s0 : List Bool} (h0 : s0.length = N) (hback : Back f N s0) (hd0 : sat s0 d = false) :
    ∀ (k k' : Nat) (s : List Bool) (P : List Nat) (x : Nat), s.length = N → (∀ y, y < N → (sat s y = true ↔ sat s0 y = true ∨ y ∈ P)) → PathTo f d P x → P.Nodup → (∀ y ∈ P, y < N ∧ sat s0 y = false) → unN s ≤ k →
      2 * unN (s.take b) + (if x < b then 1 else 2) ≤ k' → x < N →
      (walk1 f k s x).1 = (face1 f b k' (s.take b) x).1 ∧ (walk1 f k s x).2.take b = (face1 f b k' (s.take b) x).2 ∧ (walk1 f k s x).2.length = N ∧ Back f N (walk1 f k s x).2 ∧ (∀ y, sat s y = true → sat (walk1 f k s x).2 y = true) ∧ (sat s x = false → sat (walk1 f k s x).2 x = true) := by
  have stop : ∀ (s : List Bool) (P : List Nat) (x : Nat), s.length = N → (∀ y, y < N → (sat s y = true ↔ sat s0 y = true ∨ y ∈ P)) → PathTo f d P x → P.Nodup → (∀ y ∈ P, y < N ∧ sat s0 y = false) → x < N → sat s x = true → x = d ∧ P ≠ [] ∧ Back f N s := by
    intro s P x hl hs hp hn hP hx hsx
    have hx0 : sat s0 x = false := by
      cases hq : sat s0 x with
      | false => rfl
      | true =>
        cases P with
        | nil => rw [show x = d from hp] at hq; rw [hd0] at hq; cases hq
        | cons p P =>
          have := hback p (hP p (by simp)).1 (by rw [← hp.1]; exact hq)
          rw [(hP p (by simp)).2] at this; cases this
    have hxP : x ∈ P := by
      rcases (hs x hx).1 hsx with h | h
      · rw [hx0] at h; cases h
      · exact h
    have hxd : x = d := by
      rcases Nat.decEq x d with e | e
      · cases P with
        | nil => cases hxP
        | cons p P =>
          obtain ⟨t, ht, he⟩ := path_close inj (P := P) (Q := []) (p := p) (q := x) hp hn (fun y hy => (hP y hy).1) x hxP e
          have : p = t := inj p t (hP p (by simp)).1 (hP t (by simp [ht])).1 (by rw [← hp.1, ← he])
          subst this
          exact absurd ht (List.nodup_cons.1 hn).1
      · exact e
    refine ⟨hxd, (fun e => by rw [e] at hxP; cases hxP), fun y hy hfy => ?_⟩
    rcases (hs (f y) (into y hy)).1 hfy with h | h
    · exact (hs y hy).2 (.inl (hback y hy h))
    · cases P with
      | nil => cases h
      | cons p P =>
        rcases Nat.decEq (f y) d with e | e
        · obtain ⟨t, ht, he⟩ := path_close inj (P := P) (Q := []) (p := p) (q := x) hp hn (fun y hy => (hP y hy).1) (f y) h e
          have : y = t := inj y t hy (hP t (by simp [ht])).1 he
          subst this
          exact (hs y hy).2 (.inr (by simp [ht]))
        · have : y = p := inj y p hy (hP p (by simp)).1 (by rw [e, ← hp.1, hxd])
          subst this
          exact (hs y hy).2 (.inr (by simp))
  intro k
  induction k with
  | zero =>
    intro k' s P x hl hs hp hn hP hk hk' hx
    have hsx : sat s x = true := by
      cases hq : sat s x with
      | true => rfl
      | false => have := unN_pos hq; omega
    obtain ⟨hxd, _, hB⟩ := stop s P x hl hs hp hn hP hx hsx
    subst hxd
    cases k' with
    | zero => rw [if_pos hd] at hk'; omega
    | succ k' =>
      unfold face1 walk1
      rw [if_pos hd, sat_take hd, if_pos hsx]
      exact ⟨rfl, rfl, hl, hB, fun _ h => h, fun h => by rw [hsx] at h; cases h⟩
  | succ k ih =>
    intro k' s P x hl hs hp hn hP hk hk' hx
    cases hsx : sat s x with
    | true =>
      obtain ⟨hxd, _, hB⟩ := stop s P x hl hs hp hn hP hx hsx
      subst hxd
      cases k' with
      | zero => rw [if_pos hd] at hk'; omega
      | succ k' =>
        unfold face1 walk1
        rw [if_pos hd, sat_take hd, if_pos hsx, if_pos hsx]
        exact ⟨rfl, rfl, hl, hB, fun _ h => h, fun h => by cases h⟩
    | false =>
      have hun := unN_set hsx
      have hx0 : sat s0 x = false := by
        cases hq : sat s0 x with
        | false => rfl
        | true => rw [(hs x hx).2 (.inl hq)] at hsx; cases hsx
      have hxP : x ∉ P := fun hm => by rw [(hs x hx).2 (.inr hm)] at hsx; cases hsx
      have hs' : ∀ y, y < N → (sat (s.set x true) y = true ↔ sat s0 y = true ∨ y ∈ x :: P) := by
        intro y hy
        rw [sat_set, Bool.or_eq_true, hs y hy, List.mem_cons]
        simp only [decide_eq_true_eq]
        constructor
        · rintro ((h | h) | h)
          · exact .inl h
          · exact .inr (.inr h)
          · exact .inr (.inl h.symm)
        · rintro (h | h | h)
          · exact .inl (.inl h)
          · exact .inr h.symm
          · exact .inl (.inr h)
      have hP' : ∀ y ∈ x :: P, y < N ∧ sat s0 y = false := by
        intro y hy
        rcases List.mem_cons.1 hy with rfl | hy
        · exact ⟨hx, hx0⟩
        · exact hP y hy
      have more : ∀ r : List Bool, (∀ y, sat (s.set x true) y = true → sat r y = true) → (∀ y, sat s y = true → sat r y = true) ∧ (sat s x = false → sat r x = true) := by
        intro r hr
        exact ⟨fun y hy => hr y (by rw [sat_set, hy]; rfl), fun _ => hr x (by rw [sat_set]; simp)⟩
      cases k' with
      | zero => split at hk' <;> omega
      | succ k' =>
        unfold walk1
        rw [if_neg (by rw [hsx]; simp)]
        unfold face1
        by_cases hxb : x < b
        · rw [if_pos hxb] at hk'
          have ht : (s.set x true).take b = (s.take b).set x true := by rw [List.take_set]
          have hun' := unN_set (s := s.take b) (x := x) (by rw [sat_take hxb]; exact hsx)
          obtain ⟨r1, r2, r3, r4, r5, _⟩ := ih k' (s.set x true) (x :: P) (f x) (by simp [hl]) hs' ⟨rfl, hp⟩ (List.nodup_cons.2 ⟨hxP, hn⟩) hP' (by omega) (by rw [ht]; split <;> omega) (into x hx)
          rw [if_pos hxb, sat_take hxb, if_neg (by rw [hsx]; simp)]
          rw [ht] at r1 r2
          exact ⟨by rw [r1], r2, r3, r4, (more _ r5).1, fun _ => (more _ r5).2 hsx⟩
        · rw [if_neg hxb] at hk'
          have ht : (s.set x true).take b = s.take b := by rw [List.take_set, List.set_eq_of_length_le (by simp; omega)]
          have hfx := axis x (by omega) hx
          obtain ⟨r1, r2, r3, r4, r5, _⟩ := ih k' (s.set x true) (x :: P) (f x) (by simp [hl]) hs' ⟨rfl, hp⟩ (List.nodup_cons.2 ⟨hxP, hn⟩) hP' (by omega) (by rw [ht, if_pos hfx]; omega) (into x hx)
          rw [if_neg hxb]
          rw [ht] at r1 r2
          exact ⟨by rw [r1], r2, r3, r4, (more _ r5).1, fun _ => (more _ r5).2 hsx⟩
theorem walksF_seen (f : Nat → Nat) : ∀ (ds : List Nat) (s : List Bool), (∀ d ∈ ds, sat s d = true) → walksF f ds s = []
  | [], _, _ => rfl
  | d :: ds, s, h => by unfold walksF; rw [if_pos (h d (by simp))]; exact walksF_seen f ds s (fun x hx => h x (by simp [hx]))
/-- All walks: over the string's darts alone, and over all. -/
theorem walks_faces {f : Nat → Nat} {N b : Nat} (inj : ∀ x y, x < N → y < N → f x = f y → x = y) (into : ∀ x, x < N → f x < N) (axis : ∀ x, b ≤ x → x < N → f x < b) (hb : b ≤ N) :
    ∀ (j d : Nat) (s : List Bool), d + j = b → s.length = N → Back f N s → (∀ y, y < d → sat s y = true) → walksF f (List.range' d (N - d)) s = facesF f b (List.range' d j) (s.take b)
  | 0, d, s, hj, hl, hB, hs => by
    have hdb : d = b := by omega
    subst hdb
    show _ = []
    refine walksF_seen f _ _ fun x hx => ?_
    rw [List.mem_range'_1] at hx
    have := axis x hx.1 (by omega)
    exact hB x (by omega) (hs _ this)
  | j + 1, d, s, hj, hl, hB, hs => by
    rw [show N - d = (N - (d + 1)) + 1 by omega, List.range'_succ, List.range'_succ]
    unfold walksF facesF
    rw [sat_take (by omega)]
    cases hsd : sat s d with
    | true =>
      rw [if_pos rfl, if_pos rfl]
      refine walks_faces inj into axis hb j (d + 1) s (by omega) hl hB (fun y hy => ?_)
      rcases Nat.decEq y d with e | e
      · exact hs y (by omega)
      · subst e; exact hsd
    | false =>
      have hun := unN_le s
      have hun' := unN_le (s.take b)
      obtain ⟨r1, r2, r3, r4, r5, r6⟩ := walk_face inj into axis hb (d := d) (by omega) hl hB hsd s.length (2 * (s.take b).length + 2) s [] d hl (fun y _ => by simp) rfl (by simp) (by simp) hun (by split <;> omega) (by omega)
      simp only [Bool.false_eq_true, if_false]
      rw [r1]
      congr 1
      rw [← r2]
      refine walks_faces inj into axis hb j (d + 1) _ (by omega) r3 r4 (fun y hy => ?_)
      rcases Nat.decEq y d with e | e
      · exact r5 y (hs y (by omega))
      · subst e; exact r6 hsd
theorem walks_eq_faces {f : Nat → Nat} {N b : Nat} (inj : ∀ x y, x < N → y < N → f x = f y → x = y) (into : ∀ x, x < N → f x < N) (axis : ∀ x, b ≤ x → x < N → f x < b) (hb : b ≤ N) :
    walksF f (List.range N) (List.replicate N false) = facesF f b (List.range b) (List.replicate b false) := by
  have h := walks_faces inj into axis hb b 0 (List.replicate N false) (by omega) (by simp) (by
    intro y hy hf
    have := into y hy
    simp [sat, this] at hf) (by intro y hy; omega)
  rw [Nat.sub_zero, ← List.range_eq_range', ← List.range_eq_range', List.take_replicate, Nat.min_eq_left hb] at h
  exact h
end

section
/-- What the walks need of a code: the letters are well formed, the first one is a pass. -/
structure Good (K : Int) (L : List Lt) : Prop where
  pos : 0 < L.length
  first : isP (la L 0) = true
  even : pN L L.length % 2 = 0
  gates : ∀ i, i < L.length → isP (la L i) = true → 0 ≤ (la L i).gate ∧ (la L i).gate ≤ K
  ranks : ∀ i, i < L.length → rkB L i = true
  cross : ∀ i, i < L.length → crB L i = true
  ceven : cN L L.length % 2 = 0
  kinds : ∀ i, i < L.length → isP (la L i) = true ∨ isC (la L i) = true
theorem good_of_parts {K : Int} {L : List Lt} (hp : 0 < L.length) (h1 : isP (la L 0) = true) (h2 : pN L L.length % 2 = 0) (h3 : lettersP K L = true) (h4 : ranksP L = true) (h5 : crossP L = true) : Good K L := by
  unfold lettersP at h3
  unfold ranksP at h4
  unfold crossP at h5
  simp only [Bool.and_eq_true, decide_eq_true_eq, allTo_iff] at h3 h4 h5
  refine ⟨hp, h1, h2, fun i hi hp => ?_, h4, h5.2, h5.1, fun i hi => ?_⟩
  · have := h3 i hi
    unfold lpB at this
    unfold isP at hp
    rw [if_pos (by simpa using hp)] at this
    simp only [decide_eq_true_eq] at this
    exact ⟨this.1, this.2.1⟩
  · have := h3 i hi
    unfold lpB at this
    unfold isP isC
    by_cases e1 : (la L i).kind = 1
    · left; simp [e1]
    · by_cases e2 : (la L i).kind = 2
      · right; simp [e2]
      · rw [if_neg e1, if_neg e2] at this; cases this
theorem good_of_valid {K : Int} {L : List Lt} (hp : 0 < L.length) (h : validB2 K L = true) : Good K L := by
  unfold validB2 at h
  rw [← letters_iff] at h
  simp only [Bool.and_eq_true, decide_eq_true_eq] at h
  exact good_of_parts hp h.1.1.1 h.1.1.2 h.1.2.1.1 h.1.2.1.2 h.1.2.2
section
variable {K : Int} {L : List Lt}
theorem la_ge {i : Nat} (h : L.length ≤ i) : la L i = dl := by unfold la; rw [List.getElem?_eq_none h]; rfl
theorem isP_lt {i : Nat} (h : isP (la L i) = true) : i < L.length := by
  rcases Nat.lt_or_ge i L.length with hl | hl
  · exact hl
  · rw [la_ge hl] at h; cases h
theorem isC_lt {i : Nat} (h : isC (la L i) = true) : i < L.length := by
  rcases Nat.lt_or_ge i L.length with hl | hl
  · exact hl
  · rw [la_ge hl] at h; cases h
theorem Good.nodup (g : Good K L) : (axL L).Nodup := ax_nodup g.ranks
theorem Good.at_ (g : Good K L) {i : Nat} (hp : isP (la L i) = true) : (axL L)[atN L i]? = some i := ax_at (fun i hi hp => (g.gates i hi hp).1) g.ranks (isP_lt hp) hp
theorem Good.idx (g : Good K L) {i : Nat} (hp : isP (la L i) = true) : idxN (axL L) i = atN L i := idxN_at g.nodup (g.at_ hp)
theorem Good.at_lt (g : Good K L) {i : Nat} (hp : isP (la L i) = true) : atN L i < (axL L).length := (List.getElem?_eq_some_iff.1 (g.at_ hp)).1
theorem ax_pass {j : Nat} (hj : j < (axL L).length) : isP (la L (xat (axL L) j)) = true ∧ xat (axL L) j < L.length := by
  have h : (axL L)[j]? = some (axL L)[j] := List.getElem?_eq_getElem hj
  have hm := (mem_axTo L (axL L)[j] L.length).1 (List.getElem_mem hj)
  unfold xat
  rw [h]
  exact ⟨hm.2, hm.1⟩
theorem Good.at_xat (g : Good K L) {j : Nat} (hj : j < (axL L).length) : atN L (xat (axL L) j) = j := by
  have h := (ax_pass hj).1
  have h1 := g.at_ h
  have h2 : (axL L)[j]? = some (xat (axL L) j) := by unfold xat; rw [List.getElem?_eq_getElem hj]; rfl
  have e1 := idxN_at g.nodup h1
  rw [idxN_at g.nodup h2] at e1
  exact e1.symm
theorem Good.m_pos (g : Good K L) : 0 < (axL L).length := by
  have := g.at_lt g.first
  omega
/-- The other visit. -/
theorem Good.other (g : Good K L) {i : Nat} (hc : isC (la L i) = true) :
    othN L i ≠ i ∧ isC (la L (othN L i)) = true ∧ (la L (othN L i)).id = (la L i).id ∧ (la L (othN L i)).over ≠ (la L i).over ∧ (la L (othN L i)).sign = (la L i).sign ∧ (∀ j, isC (la L j) = true → (la L j).id = (la L i).id → j ≠ i → j = othN L i) := by
  have hi := isC_lt hc
  have hb := (crB_iff.1 (g.cross i hi) hc).1
  have ht := tN_two (d := ((la L i).id - 1).toNat) g.ceven g.cross (by omega)
  rw [show ((((la L i).id - 1).toNat + 1 : Nat) : Int) = (la L i).id by omega] at ht
  have hex : ∃ j, j < L.length ∧ j ≠ i ∧ isC (la L j) = true ∧ (la L j).id = (la L i).id := by
    rcases Classical.em (∃ j, j < L.length ∧ j ≠ i ∧ isC (la L j) = true ∧ (la L j).id = (la L i).id) with h | h
    · exact h
    · have : tN L (la L i).id L.length = 1 := ct_one hi (by simp [hc]) (fun m hm hp => by
        simp at hp
        rcases Nat.decEq m i with e | e
        · exact absurd ⟨m, hm, e, hp.1, hp.2⟩ h
        · exact e)
      omega
  have hall : ∀ j k, isC (la L j) = true → (la L j).id = (la L i).id → j ≠ i → isC (la L k) = true → (la L k).id = (la L i).id → k ≠ i → j = k := by
    intro j k hj hji hjn hk hki hkn
    rcases Nat.decEq j k with e | e
    · have a1 := (cr_overs g.cross (isC_lt hj) (isC_lt hk) hj hk (hji.trans hki.symm) e).1
      have a2 := (cr_overs g.cross (isC_lt hj) hi hj hc hji hjn).1
      have a3 := (cr_overs g.cross (isC_lt hk) hi hk hc hki hkn).1
      revert a1 a2 a3
      cases (la L j).over <;> cases (la L k).over <;> cases (la L i).over <;> simp
    · exact e
  have hf : othN L i ≠ i ∧ isC (la L (othN L i)) = true ∧ (la L (othN L i)).id = (la L i).id := by
    unfold othN
    cases hq : (List.range L.length).find? (fun j => j != i && isC (la L j) && (la L j).id == (la L i).id) with
    | none =>
      rw [List.find?_eq_none] at hq
      obtain ⟨j, hj, h1, h2, h3⟩ := hex
      exact absurd (by simp [h1, h2, h3]) (hq j (List.mem_range.2 hj))
    | some j =>
      have := List.find?_some hq
      simp at this
      exact ⟨this.1.1, this.1.2, this.2⟩
  have ho := cr_overs g.cross (isC_lt hf.2.1) hi hf.2.1 hc hf.2.2 hf.1
  exact ⟨hf.1, hf.2.1, hf.2.2, ho.1, ho.2, fun j hj hji hjn => hall j _ hj hji hjn hf.2.1 hf.2.2 hf.1⟩
theorem Good.oth_oth (g : Good K L) {i : Nat} (hc : isC (la L i) = true) : othN L (othN L i) = i := by
  obtain ⟨h1, h2, h3, _, _, _⟩ := g.other hc
  obtain ⟨_, _, _, _, _, h6⟩ := g.other h2
  exact (h6 i hc h3.symm (fun e => h1 e.symm)).symm
/-- The ends of steps. -/
theorem alongN_lt {n i : Nat} {b : Bool} (hi : i < n) : alongN n i b < 2 * n := by
  unfold alongN
  split
  · omega
  · have := Nat.mod_lt (i + n - 1) (show 0 < n by omega)
    omega
theorem alongN_inj {n i j : Nat} {b c : Bool} (hi : i < n) (hj : j < n) (h : alongN n i b = alongN n j c) : i = j ∧ b = c := by
  unfold alongN at h
  have e : ∀ x, x < n → (x = 0 ∧ (x + n - 1) % n = n - 1) ∨ (0 < x ∧ (x + n - 1) % n = x - 1) := by
    intro x hx
    rcases Nat.eq_zero_or_pos x with h0 | h0
    · left; subst h0; exact ⟨rfl, by rw [Nat.zero_add, Nat.mod_eq_of_lt (by omega)]⟩
    · right
      refine ⟨h0, ?_⟩
      rw [show x + n - 1 = (x - 1) + n by omega, Nat.add_mod_right, Nat.mod_eq_of_lt (by omega)]
  have e1 := e i hi
  have e2 := e j hj
  cases b <;> cases c <;> simp at h ⊢ <;> omega
theorem headN_lt {n d : Nat} (h : d < 2 * n) : headN n d < n := by
  unfold headN
  split
  · exact Nat.mod_lt _ (by omega)
  · omega
theorem headN_inj {n d e : Nat} (hd : d < 2 * n) (he : e < 2 * n) (hp : d % 2 = e % 2) (h : headN n d = headN n e) : d = e := by
  unfold headN at h
  by_cases h0 : d % 2 = 0
  · rw [if_pos h0, if_pos (by omega)] at h
    have m : ∀ x, x < n → (x + 1 = n ∧ (x + 1) % n = 0) ∨ (x + 1 < n ∧ (x + 1) % n = x + 1) := by
      intro x hx
      rcases Nat.lt_or_ge (x + 1) n with hl | hl
      · exact .inr ⟨hl, Nat.mod_eq_of_lt hl⟩
      · left; have : x + 1 = n := by omega
        exact ⟨this, by rw [this, Nat.mod_self]⟩
    have m1 := m (d / 2) (by omega)
    have m2 := m (e / 2) (by omega)
    omega
  · rw [if_neg h0, if_neg (by omega)] at h
    omega
theorem succ_mod_inj {m i j : Nat} (hi : i < m) (hj : j < m) (h : (i + 1) % m = (j + 1) % m) : i = j := by
  have := headN_inj (n := m) (d := 2 * i) (e := 2 * j) (by omega) (by omega) (by omega) (by
    unfold headN
    rw [if_pos (by omega), if_pos (by omega), show 2 * i / 2 = i by omega, show 2 * j / 2 = j by omega]; exact h)
  omega
/-- The step's three kinds. -/
theorem left_axis {d : Nat} (hd : 2 * L.length ≤ d) (hm : 0 < (axL L).length) (hN : d < dartsN L) :
    ∃ v b, leftF L (axL L) d = alongN L.length v b ∧ isP (la L v) = true ∧ v < L.length ∧ ((d % 2 = 0 ∧ v = xat (axL L) (((d - 2 * L.length) / 2 + 1) % (axL L).length) ∧ b = !dwn L v) ∨ (d % 2 = 1 ∧ v = xat (axL L) ((d - 2 * L.length) / 2) ∧ b = dwn L v)) := by
  unfold leftF
  unfold dartsN at hN
  rw [if_pos hd]
  by_cases h0 : d % 2 = 0
  · rw [if_pos h0]
    have hj := ax_pass (L := L) (j := ((d - 2 * L.length) / 2 + 1) % (axL L).length) (Nat.mod_lt _ hm)
    exact ⟨_, _, rfl, hj.1, hj.2, .inl ⟨h0, rfl, rfl⟩⟩
  · rw [if_neg h0]
    have hj := ax_pass (L := L) (j := (d - 2 * L.length) / 2) (by omega)
    exact ⟨_, _, rfl, hj.1, hj.2, .inr ⟨by omega, rfl, rfl⟩⟩
theorem Good.left_cross (_g : Good K L) {d : Nat} (hd : d < 2 * L.length) (hc : isC (la L (headN L.length d)) = true) :
    leftF L (axL L) d = alongN L.length (othN L (headN L.length d)) ((d % 2 == 0) == ((la L (headN L.length d)).over == ((la L (headN L.length d)).sign == 1))) := by
  unfold leftF
  rw [if_neg (by omega), if_pos hc]
theorem Good.left_pass (g : Good K L) {d : Nat} (hd : d < 2 * L.length) (hp : isP (la L (headN L.length d)) = true) :
    leftF L (axL L) d = if dwn L (headN L.length d) == (d % 2 == 0) then 2 * L.length + 2 * atN L (headN L.length d) else 2 * L.length + 2 * ((atN L (headN L.length d) + (axL L).length - 1) % (axL L).length) + 1 := by
  unfold leftF
  rw [if_neg (by omega), if_neg (by rw [isP_isC hp]; simp), g.idx hp]
theorem Good.into (g : Good K L) {d : Nat} (hd : d < dartsN L) : leftF L (axL L) d < dartsN L := by
  rcases Nat.lt_or_ge d (2 * L.length) with hl | hl
  · rcases g.kinds _ (headN_lt hl) with hp | hc
    · have ha := g.at_lt hp
      rw [g.left_pass hl hp]
      unfold dartsN
      split
      · omega
      · have := Nat.mod_lt (atN L (headN L.length d) + (axL L).length - 1) g.m_pos
        omega
    · rw [g.left_cross hl hc]
      have := alongN_lt (b := (d % 2 == 0) == ((la L (headN L.length d)).over == ((la L (headN L.length d)).sign == 1))) (isC_lt (g.other hc).2.1)
      unfold dartsN
      omega
  · obtain ⟨v, b, h1, _, h3, _⟩ := left_axis hl g.m_pos hd
    rw [h1]
    have := alongN_lt (b := b) h3
    unfold dartsN
    omega
theorem Good.axis (g : Good K L) {d : Nat} (hl : 2 * L.length ≤ d) (hd : d < dartsN L) : leftF L (axL L) d < 2 * L.length := by
  obtain ⟨v, b, h1, _, h3, _⟩ := left_axis hl g.m_pos hd
  rw [h1]
  exact alongN_lt h3
theorem Good.xat_inj (g : Good K L) {i j : Nat} (hi : i < (axL L).length) (hj : j < (axL L).length) (h : xat (axL L) i = xat (axL L) j) : i = j := by
  have := g.at_xat hi
  rw [h, g.at_xat hj] at this
  exact this.symm
theorem Good.inj (g : Good K L) (x y : Nat) (hx : x < dartsN L) (hy : y < dartsN L) (h : leftF L (axL L) x = leftF L (axL L) y) : x = y := by
  have hm := g.m_pos
  rcases Nat.lt_or_ge x (2 * L.length) with hlx | hlx <;> rcases Nat.lt_or_ge y (2 * L.length) with hly | hly
  · have p1 : ∀ z, z < 2 * L.length → isP (la L (headN L.length z)) = true → 2 * L.length ≤ leftF L (axL L) z := by
      intro z hz hp
      rw [g.left_pass hz hp]
      split <;> omega
    have p2 : ∀ z, z < 2 * L.length → isC (la L (headN L.length z)) = true → leftF L (axL L) z < 2 * L.length := by
      intro z hz hc
      rw [g.left_cross hz hc]
      exact alongN_lt (isC_lt (g.other hc).2.1)
    rcases g.kinds _ (headN_lt hlx) with hpx | hcx <;> rcases g.kinds _ (headN_lt hly) with hpy | hcy
    · rw [g.left_pass hlx hpx, g.left_pass hly hpy] at h
      have hax := g.at_lt hpx
      have hay := g.at_lt hpy
      have cl : ∀ a b, a < (axL L).length → b < (axL L).length → (a + (axL L).length - 1) % (axL L).length = (b + (axL L).length - 1) % (axL L).length → a = b := by
        intro a b ha hb e
        have := alongN_inj (b := false) (c := false) ha hb (by unfold alongN; simp [e])
        exact this.1
      have key : headN L.length x = headN L.length y ∧ (dwn L (headN L.length x) == (x % 2 == 0)) = (dwn L (headN L.length y) == (y % 2 == 0)) := by
        cases hbx : (dwn L (headN L.length x) == (x % 2 == 0)) <;> cases hby : (dwn L (headN L.length y) == (y % 2 == 0)) <;> rw [hbx, hby] at h <;> simp at h
        · have h' : atN L (headN L.length x) = atN L (headN L.length y) := cl _ _ hax hay (by omega)
          have e1 := g.at_ hpx
          rw [h', g.at_ hpy] at e1
          exact ⟨(Option.some.inj e1).symm, rfl⟩
        · omega
        · omega
        · have h' : atN L (headN L.length x) = atN L (headN L.length y) := by omega
          have e1 := g.at_ hpx
          rw [h', g.at_ hpy] at e1
          exact ⟨(Option.some.inj e1).symm, rfl⟩
      refine headN_inj hlx hly ?_ key.1
      have k2 := key.2
      rw [key.1] at k2
      rcases Nat.mod_two_eq_zero_or_one x with a | a <;> rcases Nat.mod_two_eq_zero_or_one y with b | b <;> rw [a, b] at k2 <;> cases hq : dwn L (headN L.length y) <;> rw [hq] at k2 <;> simp at k2 <;> omega
    · have := p1 x hlx hpx; have := p2 y hly hcy; omega
    · have := p2 x hlx hcx; have := p1 y hly hpy; omega
    · rw [g.left_cross hlx hcx, g.left_cross hly hcy] at h
      obtain ⟨h1, h2⟩ := alongN_inj (isC_lt (g.other hcx).2.1) (isC_lt (g.other hcy).2.1) h
      have hh : headN L.length x = headN L.length y := by
        have := g.oth_oth hcx
        rw [h1, g.oth_oth hcy] at this
        exact this.symm
      refine headN_inj hlx hly ?_ hh
      rw [hh] at h2
      rcases Nat.mod_two_eq_zero_or_one x with a | a <;> rcases Nat.mod_two_eq_zero_or_one y with b | b <;> rw [a, b] at h2 <;> revert h2 <;> generalize ((la L (headN L.length y)).over == ((la L (headN L.length y)).sign == 1)) = q <;> cases q <;> simp <;> omega
  · obtain ⟨v, b, h1, h2, h3, _⟩ := left_axis hly hm hy
    rcases g.kinds _ (headN_lt hlx) with hpx | hcx
    · rw [h1, g.left_pass hlx hpx] at h
      have := alongN_lt (b := b) h3
      split at h <;> omega
    · rw [h1, g.left_cross hlx hcx] at h
      have hc' := (g.other hcx).2.1
      have := (alongN_inj (isC_lt hc') h3 h).1
      rw [this, isP_isC h2] at hc'
      cases hc'
  · obtain ⟨v, b, h1, h2, h3, _⟩ := left_axis hlx hm hx
    rcases g.kinds _ (headN_lt hly) with hpy | hcy
    · rw [h1, g.left_pass hly hpy] at h
      have := alongN_lt (b := b) h3
      split at h <;> omega
    · rw [h1, g.left_cross hly hcy] at h
      have hc' := (g.other hcy).2.1
      have := (alongN_inj h3 (isC_lt hc') h).1
      rw [← this, isP_isC h2] at hc'
      cases hc'
  · obtain ⟨v, b, h1, h2, h3, h4⟩ := left_axis hlx hm hx
    obtain ⟨v', b', h1', h2', h3', h4'⟩ := left_axis hly hm hy
    rw [h1, h1'] at h
    obtain ⟨rfl, rfl⟩ := alongN_inj h3 h3' h
    unfold dartsN at hx hy
    rcases h4 with ⟨a1, a2, a3⟩ | ⟨a1, a2, a3⟩ <;> rcases h4' with ⟨c1, c2, c3⟩ | ⟨c1, c2, c3⟩
    · have := g.xat_inj (Nat.mod_lt _ hm) (Nat.mod_lt _ hm) (a2.symm.trans c2)
      have := succ_mod_inj (by omega) (by omega) this
      omega
    · rw [a3] at c3; cases dwn L v <;> simp at c3
    · rw [a3] at c3; cases dwn L v <;> simp at c3
    · have := g.xat_inj (by omega) (by omega) (a2.symm.trans c2)
      omega
/-- The program's walks and the document's. -/
theorem Good.walks (g : Good K L) : walksL L = facesF (leftF L (axL L)) (2 * L.length) (List.range (2 * L.length)) (List.replicate (2 * L.length) false) :=
  walks_eq_faces g.inj (fun _ h => g.into h) (fun _ h1 h2 => g.axis h1 h2) (by unfold dartsN; omega)
end
end

section
structure Plc where
  gate : Int
  left : Int
instance : DecidableEq Plc := fun a b =>
  if h : a.gate = b.gate ∧ a.left = b.left then .isTrue (by cases a; cases b; simp at h; simp [h])
  else .isFalse (fun e => h (by subst e; simp))
structure Fc where
  above : Bool
  darts : List Int
  places : List Plc
  fingers : List Int
  outer : Bool
instance : DecidableEq Fc := fun a b =>
  if h : a.above = b.above ∧ a.darts = b.darts ∧ a.places = b.places ∧ a.fingers = b.fingers ∧ a.outer = b.outer then .isTrue (by cases a; cases b; simp at h; simp [h])
  else .isFalse (fun e => h (by subst e; simp))
/-- The numbers above g, up to t. -/
def upto (g t : Int) : List Int := (List.range (t - g).toNat).map (fun (i : Nat) => g + 1 + (i : Int))
theorem upto_none {g t : Int} (h : t ≤ g) : upto g t = [] := by unfold upto; rw [show (t - g).toNat = 0 by omega]; rfl
theorem upto_cons {g t : Int} (h : g < t) : upto g t = (g + 1) :: upto (g + 1) t := by
  unfold upto
  rw [show (t - g).toNat = (t - (g + 1)).toNat + 1 by omega, List.range_succ_eq_map, List.map_cons, List.map_map]
  refine List.cons_eq_cons.2 ⟨by simp, List.map_congr_left fun x _ => ?_⟩
  simp only [Function.comp]
  omega
theorem upto_len (g t : Int) : (upto g t).length = (t - g).toNat := by simp [upto]
theorem upto_at {g t : Int} {k : Nat} (h : g + k < t) : (upto g t)[k]? = some (g + 1 + k) := by
  unfold upto
  rw [List.getElem?_map, List.getElem?_range (by omega)]
  rfl
theorem mem_upto {g t x : Int} : x ∈ upto g t ↔ g < x ∧ x ≤ t := by
  unfold upto
  simp only [List.mem_map, List.mem_range]
  constructor
  · rintro ⟨i, hi, rfl⟩; omega
  · intro h; exact ⟨(x - (g + 1)).toNat, by omega, by omega⟩
theorem upto_snoc {g t : Int} (h : g ≤ t) : upto g (t + 1) = upto g t ++ [t + 1] := by
  unfold upto
  rw [show (t + 1 - g).toNat = (t - g).toNat + 1 by omega, List.range_succ, List.map_append]
  refine congrArg _ ?_
  simp
  omega
def flatPl (l : List Int) : List Plc := l.map (fun x => ⟨x, 0⟩)
def spanP (g r t : Int) : List Plc := ⟨g, r⟩ :: flatPl (upto g t)
/-- What the program's 'between' adds. -/
def betwP (g r tg tr : Int) : List Plc := if g < tg then ⟨g, r⟩ :: flatPl (upto g (tg - 1)) ++ [⟨tg, tr⟩] else [⟨tg, tr⟩]
theorem betw_span {g r tg tr : Int} (h : (g < tg ∧ tr = 0) ∨ (g = tg ∧ tr = r)) : betwP g r tg tr = spanP g r tg := by
  unfold betwP spanP
  rcases h with ⟨h1, rfl⟩ | ⟨rfl, rfl⟩
  · rw [if_pos h1]
    have := upto_snoc (g := g) (t := tg - 1) (by omega)
    rw [show tg - 1 + 1 = tg by omega] at this
    rw [this]
    simp [flatPl]
  · rw [if_neg (by omega), upto_none (by omega)]
    rfl
def pieceP (K : Int) (L : List Lt) (X : List Nat) (j : Nat) : List Plc :=
  if j + 1 < X.length then spanP (la L (xat X j)).gate (la L (xat X j)).rank (la L (xat X ((j + 1) % X.length))).gate
  else spanP (la L (xat X j)).gate (la L (xat X j)).rank K ++ spanP 0 0 (la L (xat X ((j + 1) % X.length))).gate
def pieceF (K : Int) (L : List Lt) (X : List Nat) (j : Nat) : List Int :=
  if j + 1 < X.length then upto (la L (xat X j)).gate (la L (xat X ((j + 1) % X.length))).gate
  else upto (la L (xat X j)).gate K ++ upto 0 (la L (xat X ((j + 1) % X.length))).gate
/-- One dart more on a face. -/
def fcAdd (K : Int) (L : List Lt) (X : List Nat) (f : Fc) (x : Nat) : Fc :=
  if x < 2 * L.length then { f with darts := f.darts ++ [(x : Int)] }
  else { f with places := f.places ++ (if x % 2 = 1 then (pieceP K L X ((x - 2 * L.length) / 2)).reverse else pieceP K L X ((x - 2 * L.length) / 2)), fingers := f.fingers ++ (if x % 2 = 1 then (pieceF K L X ((x - 2 * L.length) / 2)).reverse else pieceF K L X ((x - 2 * L.length) / 2)), outer := f.outer || (x - 2 * L.length) / 2 == X.length - 1 }
def fc0 (L : List Lt) (d : Nat) : Fc := ⟨dwn L (d / 2 + 1), [], [], [], false⟩
def faceOf (K : Int) (L : List Lt) (X : List Nat) (w : List Nat) : Fc := w.foldl (fcAdd K L X) (fc0 L (xat w 0))
def facesL (K : Int) (L : List Lt) : List Fc := (walksL L).map (faceOf K L (axL L))
section
variable {K : Int} {L : List Lt}
theorem fsN_step (L : List Lt) {a b : Nat} (h : a < b) : fsN L a + gN L (a : Int) L.length ≤ fsN L b := by
  obtain ⟨k, rfl⟩ : ∃ k, b = a + 1 + k := ⟨b - a - 1, by omega⟩
  unfold fsN
  induction k with
  | zero => exact Nat.le_refl _
  | succ k ih => exact Nat.le_trans (ih (by omega)) (Nat.le_add_right _ _)
theorem Good.rank (g : Good K L) {i : Nat} (hp : isP (la L i) = true) : 1 ≤ (la L i).rank ∧ (la L i).rank ≤ (gN L (la L i).gate L.length : Int) := (rkB_iff.1 (g.ranks i (isP_lt hp)) hp).1
/-- Neighbors on the axis. -/
theorem Good.next (g : Good K L) {j : Nat} (hj : j + 1 < (axL L).length) :
    ((la L (xat (axL L) j)).gate < (la L (xat (axL L) (j + 1))).gate ∧ (la L (xat (axL L) (j + 1))).rank - 1 = 0) ∨ ((la L (xat (axL L) j)).gate = (la L (xat (axL L) (j + 1))).gate ∧ (la L (xat (axL L) (j + 1))).rank - 1 = (la L (xat (axL L) j)).rank) := by
  have e1 := g.at_xat (j := j) (by omega)
  have e2 := g.at_xat (j := j + 1) hj
  have h1 := ax_pass (L := L) (j := j) (by omega)
  have h2 := ax_pass (L := L) (j := j + 1) hj
  have r1 := g.rank h1.1
  have r2 := g.rank h2.1
  have g1 := g.gates _ h1.2 h1.1
  have g2 := g.gates _ h2.2 h2.1
  unfold atN at e1 e2
  rcases Int.lt_trichotomy (la L (xat (axL L) j)).gate (la L (xat (axL L) (j + 1))).gate with h | h | h
  · left
    have := fsN_step L (a := (la L (xat (axL L) j)).gate.toNat) (b := (la L (xat (axL L) (j + 1))).gate.toNat) (by omega)
    rw [show (((la L (xat (axL L) j)).gate.toNat : Nat) : Int) = (la L (xat (axL L) j)).gate by omega] at this
    omega
  · right
    rw [h] at e1
    omega
  · have := fsN_step L (a := (la L (xat (axL L) (j + 1))).gate.toNat) (b := (la L (xat (axL L) j)).gate.toNat) (by omega)
    rw [show (((la L (xat (axL L) (j + 1))).gate.toNat : Nat) : Int) = (la L (xat (axL L) (j + 1))).gate by omega] at this
    omega
theorem Good.head_rank (g : Good K L) : (la L (xat (axL L) 0)).rank = 1 := by
  have e1 := g.at_xat (j := 0) g.m_pos
  have h1 := ax_pass (L := L) (j := 0) g.m_pos
  have r1 := g.rank h1.1
  unfold atN at e1
  omega
theorem pieceP_in {j : Nat} (h : j + 1 < (axL L).length) : pieceP K L (axL L) j = spanP (la L (xat (axL L) j)).gate (la L (xat (axL L) j)).rank (la L (xat (axL L) (j + 1))).gate := by
  unfold pieceP; rw [if_pos h, Nat.mod_eq_of_lt h]
/-- The letters of one part of a face of n letters. -/
theorem pieceP_len (hK : K ≤ 40) (g : Good K L) {j : Nat} (hj : j < (axL L).length) : (pieceP K L (axL L) j).length ≤ 100 ∧ (pieceF K L (axL L) j).length ≤ 100 := by
  have h1 := ax_pass (L := L) (j := j) hj
  have h2 := ax_pass (L := L) (j := (j + 1) % (axL L).length) (Nat.mod_lt _ g.m_pos)
  have g1 := g.gates _ h1.2 h1.1
  have g2 := g.gates _ h2.2 h2.1
  unfold pieceP pieceF spanP flatPl
  split <;> simp [upto_len] <;> omega
end
end

section
def visB (L : List Lt) (d : Int) (o : Bool) (j : Nat) : Bool := isC (la L j) && (la L j).id == d && (la L j).over == o
def lastV (L : List Lt) (d : Int) (o : Bool) : Nat → Int
  | 0 => -1
  | i + 1 => if visB L d o i then (i : Int) else lastV L d o i
theorem visB_iff {L : List Lt} {d : Int} {o : Bool} {j : Nat} : visB L d o j = true ↔ isC (la L j) = true ∧ (la L j).id = d ∧ (la L j).over = o := by
  unfold visB; simp [and_assoc]
theorem lastV_bd (L : List Lt) (d : Int) (o : Bool) (i : Nat) : -1 ≤ lastV L d o i ∧ lastV L d o i < i := by
  induction i with
  | zero => exact ⟨by simp [lastV], by simp [lastV]⟩
  | succ i ih => unfold lastV; split <;> omega
theorem lastV_no {L : List Lt} {d : Int} {o : Bool} {i : Nat} : lastV L d o i < 0 ↔ ∀ j, j < i → visB L d o j = false := by
  induction i with
  | zero => simp [lastV]
  | succ i ih =>
    unfold lastV
    cases h : visB L d o i with
    | true =>
      rw [if_pos rfl]
      exact ⟨fun hh => by omega, fun hh => by have := hh i (by omega); rw [h] at this; cases this⟩
    | false =>
      simp only [Bool.false_eq_true, if_false]
      rw [ih]
      constructor
      · intro hh j hj
        rcases Nat.decEq j i with e | e
        · exact hh j (by omega)
        · subst e; exact h
      · intro hh j hj; exact hh j (by omega)
theorem lastV_yes {L : List Lt} {d : Int} {o : Bool} {i : Nat} (h : 0 ≤ lastV L d o i) : ∃ j : Nat, lastV L d o i = (j : Int) ∧ j < i ∧ visB L d o j = true := by
  induction i with
  | zero => simp [lastV] at h
  | succ i ih =>
    unfold lastV at h ⊢
    cases hv : visB L d o i with
    | true => rw [if_pos rfl]; exact ⟨i, rfl, by omega, hv⟩
    | false =>
      rw [hv] at h
      simp only [Bool.false_eq_true, if_false] at h ⊢
      obtain ⟨j, h1, h2, h3⟩ := ih h
      exact ⟨j, h1, by omega, h3⟩
theorem lastV_stay {L : List Lt} {d : Int} {o : Bool} {i : Nat} (h : visB L d o i = false) : lastV L d o (i + 1) = lastV L d o i := by
  conv => lhs; unfold lastV
  rw [if_neg (by rw [h]; simp)]
theorem lastV_new {L : List Lt} {d : Int} {o : Bool} {i : Nat} (h : visB L d o i = true) : lastV L d o (i + 1) = i := by
  conv => lhs; unfold lastV
  rw [if_pos h]
/-- The program's test at a visit, when all before were well. -/
def crT (L : List Lt) (i : Nat) : Prop :=
  lastV L (la L i).id (la L i).over i < 0 ∧ (0 ≤ lastV L (la L i).id (!(la L i).over) i → (la L (lastV L (la L i).id (!(la L i).over) i).toNat).sign = (la L i).sign)
theorem crB_crT {L : List Lt} {i : Nat} (hall : ∀ j, j < i → crB L j = true) (hc : isC (la L i) = true) (hb : 1 ≤ (la L i).id ∧ (la L i).id ≤ ((cN L L.length / 2 : Nat) : Int)) : crB L i = true ↔ crT L i := by
  constructor
  · intro h
    have h2 := (crB_iff.1 h hc).2
    refine ⟨lastV_no.2 fun j hj => ?_, fun hp => ?_⟩
    · cases hv : visB L (la L i).id (la L i).over j with
      | false => rfl
      | true =>
        obtain ⟨v1, v2, v3⟩ := visB_iff.1 hv
        exact absurd v3 (h2 j hj v1 v2).1
    · obtain ⟨j, e, hj, hv⟩ := lastV_yes hp
      obtain ⟨v1, v2, v3⟩ := visB_iff.1 hv
      rw [e, Int.toNat_natCast]
      exact (h2 j hj v1 v2).2
  · rintro ⟨t1, t2⟩
    refine crB_iff.2 fun _ => ⟨hb, fun j hj hcj hid => ?_⟩
    have hov : (la L j).over ≠ (la L i).over := fun e => by
      have := lastV_no.1 t1 j hj
      rw [visB_iff.2 ⟨hcj, hid, e⟩] at this
      cases this
    refine ⟨hov, ?_⟩
    have hov' : (la L j).over = !(la L i).over := by revert hov; cases (la L j).over <;> cases (la L i).over <;> simp
    have hvj : visB L (la L i).id (!(la L i).over) j = true := visB_iff.2 ⟨hcj, hid, hov'⟩
    have hpos : 0 ≤ lastV L (la L i).id (!(la L i).over) i := by
      rcases (show _ < (0 : Int) ∨ (0 : Int) ≤ _ from Int.lt_or_le (lastV L (la L i).id (!(la L i).over) i) 0) with h | h
      · have := lastV_no.1 h j hj
        rw [hvj] at this; cases this
      · exact h
    obtain ⟨j', e, hj', hv'⟩ := lastV_yes hpos
    have hs := t2 hpos
    rw [e, Int.toNat_natCast] at hs
    obtain ⟨v1, v2, v3⟩ := visB_iff.1 hv'
    have : j' = j := by
      rcases Nat.lt_trichotomy j' j with hl | he | hl
      · exact absurd (v3.trans hov'.symm) ((crB_iff.1 (hall j hj) hcj).2 j' hl v1 (v2.trans hid.symm)).1
      · exact he
      · exact absurd (hov'.trans v3.symm) ((crB_iff.1 (hall j' hj') v1).2 j hl hcj (hid.trans v2.symm)).1
    rw [← this]; exact hs
/-- Whether a crossing has been visited. -/
theorem met_iff {L : List Lt} {d : Int} {i : Nat} : (0 ≤ lastV L d false i ∨ 0 ≤ lastV L d true i) ↔ 0 < tN L d i := by
  constructor
  · rintro (h | h)
    all_goals
      obtain ⟨j, _, hj, hv⟩ := lastV_yes h
      obtain ⟨v1, v2, _⟩ := visB_iff.1 hv
      exact ct_pos hj (by simp [v1, v2])
  · intro h
    obtain ⟨j, hj, hp⟩ := ct_ex h
    simp at hp
    rcases (show _ < (0 : Int) ∨ (0 : Int) ≤ _ from Int.lt_or_le (lastV L d false i) 0) with h1 | h1
    · rcases (show _ < (0 : Int) ∨ (0 : Int) ≤ _ from Int.lt_or_le (lastV L d true i) 0) with h2 | h2
      · have a := lastV_no.1 h1 j hj
        have b := lastV_no.1 h2 j hj
        unfold visB at a b
        rw [hp.1, hp.2] at a b
        revert a b
        cases (la L j).over <;> simp
      · exact .inr h2
    · exact .inl h1
theorem nw_iff {L : List Lt} {i : Nat} : nwB L i = true ↔ isC (la L i) = true ∧ tN L (la L i).id i = 0 := by
  unfold nwB
  rw [Bool.and_eq_true, allTo_iff]
  refine and_congr_right fun _ => ?_
  constructor
  · intro h
    exact ct_none fun m hm => by have := h m hm; simpa only [Bool.not_eq_true'] using this
  · intro h j hj
    cases hq : (isC (la L j) && (la L j).id == (la L i).id) with
    | false => rfl
    | true => have := ct_pos (p := fun m => isC (la L m) && (la L m).id == (la L i).id) hj hq; unfold tN at h; omega
section
variable {K : Int} {L : List Lt}
/-- The other visit is what the map holds. -/
theorem Good.last (g : Good K L) {i : Nat} (hc : isC (la L i) = true) : lastV L (la L i).id (!(la L i).over) L.length = (othN L i : Nat) := by
  obtain ⟨h1, h2, h3, h4, h5, h6⟩ := g.other hc
  have hlt := isC_lt h2
  have hv : visB L (la L i).id (!(la L i).over) (othN L i) = true := visB_iff.2 ⟨h2, h3, by revert h4; cases (la L (othN L i)).over <;> cases (la L i).over <;> simp⟩
  have hpos : 0 ≤ lastV L (la L i).id (!(la L i).over) L.length := by
    rcases (show _ < (0 : Int) ∨ (0 : Int) ≤ _ from Int.lt_or_le (lastV L (la L i).id (!(la L i).over) L.length) 0) with h | h
    · have := lastV_no.1 h _ hlt
      rw [hv] at this; cases this
    · exact h
  obtain ⟨j, e, hj, hvj⟩ := lastV_yes hpos
  obtain ⟨v1, v2, v3⟩ := visB_iff.1 hvj
  rw [e, h6 j v1 v2 (fun e => by subst e; revert v3; cases (la L j).over <;> simp)]
end
end

section
/-- M is L with other gates and ranks of the passes, in the same order on the axis. -/
structure Moved (L M : List Lt) : Prop where
  len : M.length = L.length
  kind : ∀ i, i < L.length → (la M i).kind = (la L i).kind
  id : ∀ i, i < L.length → (la M i).id = (la L i).id
  sign : ∀ i, i < L.length → (la M i).sign = (la L i).sign
  over : ∀ i, i < L.length → (la M i).over = (la L i).over
  still : ∀ i, i < L.length → isP (la L i) = false → la M i = la L i
  order : ∀ i j, i < L.length → j < L.length → isP (la L i) = true → isP (la L j) = true → lftB (la M i) (la M j) = lftB (la L i) (la L j)
section
variable {L M : List Lt} {K K' : Int}
theorem Moved.isP (h : Moved L M) (i : Nat) : isP (la M i) = isP (la L i) := by
  rcases Nat.lt_or_ge i L.length with hi | hi
  · unfold Go.Proofs.YtkjcmppaapbabaaDoor.isP; rw [h.kind i hi]
  · rw [la_ge hi, la_ge (by rw [h.len]; exact hi)]
theorem Moved.isC (h : Moved L M) (i : Nat) : isC (la M i) = isC (la L i) := by
  rcases Nat.lt_or_ge i L.length with hi | hi
  · unfold Go.Proofs.YtkjcmppaapbabaaDoor.isC; rw [h.kind i hi]
  · rw [la_ge hi, la_ge (by rw [h.len]; exact hi)]
theorem Moved.id_ (h : Moved L M) (i : Nat) : (la M i).id = (la L i).id := by
  rcases Nat.lt_or_ge i L.length with hi | hi
  · exact h.id i hi
  · rw [la_ge hi, la_ge (by rw [h.len]; exact hi)]
theorem Moved.sign_ (h : Moved L M) (i : Nat) : (la M i).sign = (la L i).sign := by
  rcases Nat.lt_or_ge i L.length with hi | hi
  · exact h.sign i hi
  · rw [la_ge hi, la_ge (by rw [h.len]; exact hi)]
theorem Moved.over_ (h : Moved L M) (i : Nat) : (la M i).over = (la L i).over := by
  rcases Nat.lt_or_ge i L.length with hi | hi
  · exact h.over i hi
  · rw [la_ge hi, la_ge (by rw [h.len]; exact hi)]
theorem Moved.pN (h : Moved L M) (m : Nat) : pN M m = pN L m := by unfold Go.Proofs.YtkjcmppaapbabaaDoor.pN; exact ct_congr fun i _ => h.isP i
theorem Moved.cN (h : Moved L M) (m : Nat) : cN M m = cN L m := by unfold Go.Proofs.YtkjcmppaapbabaaDoor.cN; exact ct_congr fun i _ => h.isC i
theorem Moved.dwn (h : Moved L M) (i : Nat) : dwn M i = dwn L i := by unfold Go.Proofs.YtkjcmppaapbabaaDoor.dwn; rw [h.pN]
theorem Moved.oth (h : Moved L M) (i : Nat) : othN M i = othN L i := by
  unfold othN
  rw [h.len]
  refine congrArg (fun o : Option Nat => o.getD i) (congrArg (fun p => (List.range L.length).find? p) (funext fun j => ?_))
  rw [h.isC, h.id_, h.id_]
theorem insX_moved (h : Moved L M) {i : Nat} (hi : i < L.length) (hp : isP (la L i) = true) : ∀ X : List Nat, (∀ x ∈ X, x < L.length ∧ isP (la L x) = true) → insX M i X = insX L i X
  | [], _ => rfl
  | x :: X, hX => by
    unfold insX
    rw [h.order x i (hX x (by simp)).1 hi (hX x (by simp)).2 hp, insX_moved h hi hp X (fun y hy => hX y (by simp [hy]))]
theorem Moved.axTo (h : Moved L M) : ∀ m, m ≤ L.length → axTo M m = axTo L m
  | 0, _ => rfl
  | m + 1, hm => by
    unfold Go.Proofs.YtkjcmppaapbabaaDoor.axTo
    rw [h.isP, h.axTo m (by omega)]
    cases hp : Go.Proofs.YtkjcmppaapbabaaDoor.isP (la L m) with
    | true =>
      rw [if_pos rfl, if_pos rfl]
      exact insX_moved h (by omega) hp _ (fun x hx => by
        obtain ⟨h1, h2⟩ := (mem_axTo L x m).1 hx
        exact ⟨by omega, h2⟩)
    | false => rfl
theorem Moved.axL (h : Moved L M) : axL M = axL L := by unfold Go.Proofs.YtkjcmppaapbabaaDoor.axL; rw [h.len]; exact h.axTo _ (Nat.le_refl _)
theorem Moved.leftF (h : Moved L M) (X : List Nat) : leftF M X = leftF L X := by
  funext d
  unfold Go.Proofs.YtkjcmppaapbabaaDoor.leftF
  simp only [h.len, h.dwn, h.isC, h.oth, h.over_, h.sign_]
theorem Moved.walks (h : Moved L M) : walksL M = walksL L := by
  unfold walksL dartsN
  rw [h.len, h.axL, h.leftF]
theorem Moved.flat (h : Moved L M) : flatB M = flatB L := by
  unfold flatB
  rw [h.walks, h.len, h.pN, h.cN]
theorem Moved.ranks (h : Moved L M) (hr : ∀ i, i < L.length → rkB L i = true) (hb : ∀ i, i < L.length → Go.Proofs.YtkjcmppaapbabaaDoor.isP (la L i) = true → 1 ≤ (la M i).rank ∧ (la M i).rank ≤ (gN M (la M i).gate M.length : Int)) : ∀ i, i < M.length → rkB M i = true := by
  intro i hi
  rw [h.len] at hi
  rw [rkB_iff, h.isP]
  intro hp
  refine ⟨hb i hi hp, fun j hj hpj hg he => ?_⟩
  rw [h.isP] at hpj
  have hji : j < L.length := by omega
  have o1 := h.order i j hi hji hp hpj
  have o2 := h.order j i hji hi hpj hp
  have f1 : lftB (la M i) (la M j) = false := by
    cases hq : lftB (la M i) (la M j) with
    | false => rfl
    | true => rw [lftB_iff] at hq; omega
  have f2 : lftB (la M j) (la M i) = false := by
    cases hq : lftB (la M j) (la M i) with
    | false => rfl
    | true => rw [lftB_iff] at hq; omega
  rw [f1] at o1
  rw [f2] at o2
  have n1 : ¬ lftB (la L i) (la L j) = true := by rw [← o1]; simp
  have n2 : ¬ lftB (la L j) (la L i) = true := by rw [← o2]; simp
  rw [lftB_iff] at n1 n2
  have := (rkB_iff.1 (hr i hi) hp).2 j hj hpj (by omega)
  omega
/-- The moved code is valid where its gates and ranks are. -/
theorem Moved.valid (h : Moved L M) (hL : 0 < L.length) (hv : validB2 K L = true) (hg : ∀ i, i < L.length → Go.Proofs.YtkjcmppaapbabaaDoor.isP (la L i) = true → 0 ≤ (la M i).gate ∧ (la M i).gate ≤ K')
    (hb : ∀ i, i < L.length → Go.Proofs.YtkjcmppaapbabaaDoor.isP (la L i) = true → 1 ≤ (la M i).rank ∧ (la M i).rank ≤ (gN M (la M i).gate M.length : Int)) : validB2 K' M = true := by
  have g := good_of_valid hL hv
  unfold validB2 at hv ⊢
  rw [← letters_iff] at hv ⊢
  simp only [Bool.and_eq_true, decide_eq_true_eq] at hv ⊢
  obtain ⟨⟨⟨v1, v2⟩, ⟨⟨v3, v4⟩, v5⟩⟩, v6⟩ := hv
  refine ⟨⟨⟨by rw [h.isP]; exact v1, by rw [h.len, h.pN]; exact v2⟩, ⟨⟨?_, ?_⟩, ?_⟩⟩, by rw [h.flat]; exact v6⟩
  · unfold lettersP at v3 ⊢
    rw [allTo_iff] at v3 ⊢
    rw [h.len]
    intro i hi
    have := v3 i hi
    cases hp : Go.Proofs.YtkjcmppaapbabaaDoor.isP (la L i) with
    | true =>
      have k1 : (la L i).kind = 1 := by unfold Go.Proofs.YtkjcmppaapbabaaDoor.isP at hp; simpa using hp
      have g1 := hg i hi hp
      unfold lpB at this ⊢
      rw [if_pos k1] at this
      rw [if_pos (by rw [h.kind i hi]; exact k1), h.id i hi, h.sign i hi, h.over i hi]
      simp only [decide_eq_true_eq] at this ⊢
      exact ⟨g1.1, g1.2, this.2.2⟩
    | false =>
      have k1 : ¬(la L i).kind = 1 := by unfold Go.Proofs.YtkjcmppaapbabaaDoor.isP at hp; simpa using hp
      rw [h.still i hi hp]
      unfold lpB at this ⊢
      rw [if_neg k1] at this ⊢
      exact this
  · unfold ranksP
    rw [allTo_iff]
    exact h.ranks g.ranks hb
  · unfold crossP at v5 ⊢
    simp only [Bool.and_eq_true, decide_eq_true_eq, allTo_iff] at v5 ⊢
    refine ⟨by rw [h.len, h.cN]; exact v5.1, fun i hi => ?_⟩
    rw [h.len] at hi
    have := v5.2 i hi
    rw [crB_iff] at this ⊢
    rw [h.isC, h.id_, h.cN, h.len]
    intro hc
    refine ⟨(this hc).1, fun j hj hcj e => ?_⟩
    rw [h.isC] at hcj
    rw [h.id_] at e
    rw [h.over_, h.over_, h.sign_, h.sign_]
    exact (this hc).2 j hj hcj e
end
end

section
def fgLt (L : List Lt) (f : Int) (l : Lt) : Lt := if isP l = true ∧ f ≤ l.gate then { l with gate := l.gate - 1, rank := if l.gate = f then l.rank + (gN L (f - 1) L.length : Int) else l.rank } else l
def forgetL (L : List Lt) (f : Int) : List Lt := L.map (fgLt L f)
theorem fg_no {L : List Lt} {f : Int} {l : Lt} (h : ¬(isP l = true ∧ f ≤ l.gate)) : fgLt L f l = l := by unfold fgLt; rw [if_neg h]
theorem fg_up {L : List Lt} {f : Int} {l : Lt} (h : isP l = true) (h2 : f < l.gate) : fgLt L f l = { l with gate := l.gate - 1 } := by
  unfold fgLt; rw [if_pos ⟨h, by omega⟩, if_neg (by omega)]
theorem fg_eq {L : List Lt} {f : Int} {l : Lt} (h : isP l = true) (h2 : l.gate = f) : fgLt L f l = { l with gate := l.gate - 1, rank := l.rank + (gN L (f - 1) L.length : Int) } := by
  unfold fgLt; rw [if_pos ⟨h, by omega⟩, if_pos h2]
def insLt (g l : Int) (x : Lt) : Lt :=
  if isP x = true ∧ g < x.gate then { x with gate := x.gate + 1 } else if isP x = true ∧ x.gate = g ∧ l < x.rank then { x with gate := x.gate + 1, rank := x.rank - l } else x
def insertL (L : List Lt) (g l : Int) : List Lt := L.map (insLt g l)
theorem in_np {g l : Int} {x : Lt} (h : isP x = false) : insLt g l x = x := by unfold insLt; simp [h]
theorem in_up {g l : Int} {x : Lt} (h : isP x = true) (h2 : g < x.gate) : insLt g l x = { x with gate := x.gate + 1 } := by unfold insLt; rw [if_pos ⟨h, h2⟩]
theorem in_eq {g l : Int} {x : Lt} (h : isP x = true) (h2 : x.gate = g) (h3 : l < x.rank) : insLt g l x = { x with gate := x.gate + 1, rank := x.rank - l } := by
  unfold insLt; rw [if_neg (by omega), if_pos ⟨h, h2, h3⟩]
theorem in_lo {g l : Int} {x : Lt} (h2 : ¬g < x.gate) (h3 : ¬(x.gate = g ∧ l < x.rank)) : insLt g l x = x := by
  unfold insLt; rw [if_neg (fun h => h2 h.2), if_neg (fun h => h3 h.2)]
theorem la_map {f : Lt → Lt} {L : List Lt} {i : Nat} (hi : i < L.length) : la (L.map f) i = f (la L i) := by
  unfold la
  rw [List.getElem?_map, List.getElem?_eq_getElem hi]; rfl
section
variable {K : Int} {L : List Lt}
theorem fg_kind {f : Int} {l : Lt} : (fgLt L f l).kind = l.kind ∧ (fgLt L f l).id = l.id ∧ (fgLt L f l).sign = l.sign ∧ (fgLt L f l).over = l.over := by unfold fgLt; split <;> simp
theorem in_kind {g r : Int} {l : Lt} : (insLt g r l).kind = l.kind ∧ (insLt g r l).id = l.id ∧ (insLt g r l).sign = l.sign ∧ (insLt g r l).over = l.over := by
  unfold insLt
  split
  · simp
  · split <;> simp
theorem fg_gate {f : Int} {l : Lt} (h : isP l = true) : (fgLt L f l).gate = (if f ≤ l.gate then l.gate - 1 else l.gate) ∧ (fgLt L f l).rank = (if l.gate = f then l.rank + (gN L (f - 1) L.length : Int) else l.rank) := by
  unfold fgLt
  by_cases h2 : f ≤ l.gate
  · rw [if_pos ⟨h, h2⟩, if_pos h2]; exact ⟨rfl, rfl⟩
  · rw [if_neg (fun e => h2 e.2), if_neg h2, if_neg (by omega)]; exact ⟨rfl, rfl⟩
theorem in_gate {g r : Int} {l : Lt} (h : isP l = true) : (insLt g r l).gate = (if g < l.gate ∨ (l.gate = g ∧ r < l.rank) then l.gate + 1 else l.gate) ∧ (insLt g r l).rank = (if l.gate = g ∧ r < l.rank then l.rank - r else l.rank) := by
  unfold insLt
  by_cases h2 : g < l.gate
  · rw [if_pos ⟨h, h2⟩, if_pos (.inl h2), if_neg (by omega)]; exact ⟨rfl, rfl⟩
  · rw [if_neg (fun e => h2 e.2)]
    by_cases h3 : l.gate = g ∧ r < l.rank
    · rw [if_pos ⟨h, h3.1, h3.2⟩, if_pos (.inr h3), if_pos h3]; exact ⟨rfl, rfl⟩
    · rw [if_neg (fun e => h3 e.2), if_neg (by omega), if_neg h3]; exact ⟨rfl, rfl⟩
theorem lftB_eq {a b c d : Lt} (h : (a.gate < b.gate ∨ (a.gate = b.gate ∧ a.rank < b.rank)) ↔ (c.gate < d.gate ∨ (c.gate = d.gate ∧ c.rank < d.rank))) : lftB a b = lftB c d := by
  rw [Bool.eq_iff_iff, lftB_iff, lftB_iff]; exact h
theorem Good.forget_moved (g : Good K L) {f : Int} : Moved L (forgetL L f) := by
  refine ⟨by simp [forgetL], fun i hi => ?_, fun i hi => ?_, fun i hi => ?_, fun i hi => ?_, fun i hi hp => ?_, fun i j hi hj hp hq => ?_⟩
  · unfold forgetL; rw [la_map hi]; exact fg_kind.1
  · unfold forgetL; rw [la_map hi]; exact fg_kind.2.1
  · unfold forgetL; rw [la_map hi]; exact fg_kind.2.2.1
  · unfold forgetL; rw [la_map hi]; exact fg_kind.2.2.2
  · unfold forgetL; rw [la_map hi, fg_no (by rw [hp]; simp)]
  · unfold forgetL
    rw [la_map hi, la_map hj]
    apply lftB_eq
    have r1 := g.rank hp
    have r2 := g.rank hq
    rw [(fg_gate hp).1, (fg_gate hp).2, (fg_gate hq).1, (fg_gate hq).2]
    by_cases e1 : (la L i).gate = f - 1
    · rw [e1] at r1
      by_cases e2 : (la L j).gate = f - 1
      · rw [e2] at r2
        repeat' split
        all_goals omega
      · repeat' split
        all_goals omega
    · by_cases e2 : (la L j).gate = f - 1
      · rw [e2] at r2
        repeat' split
        all_goals omega
      · repeat' split
        all_goals omega
theorem Good.insert_moved (g : Good K L) {f l : Int} : Moved L (insertL L f l) := by
  refine ⟨by simp [insertL], fun i hi => ?_, fun i hi => ?_, fun i hi => ?_, fun i hi => ?_, fun i hi hp => ?_, fun i j hi hj hp hq => ?_⟩
  · unfold insertL; rw [la_map hi]; exact in_kind.1
  · unfold insertL; rw [la_map hi]; exact in_kind.2.1
  · unfold insertL; rw [la_map hi]; exact in_kind.2.2.1
  · unfold insertL; rw [la_map hi]; exact in_kind.2.2.2
  · unfold insertL; rw [la_map hi, in_np hp]
  · unfold insertL
    rw [la_map hi, la_map hj]
    apply lftB_eq
    have r1 := g.rank hp
    have r2 := g.rank hq
    rw [(in_gate hp).1, (in_gate hp).2, (in_gate hq).1, (in_gate hq).2]
    repeat' split
    all_goals omega
/-- The code without a finger is valid. -/
theorem forget_valid (hL : 0 < L.length) (hv : validB2 K L = true) {f : Int} (h1 : 1 ≤ f) (h2 : f ≤ K) : validB2 (K - 1) (forgetL L f) = true := by
  have g := good_of_valid hL hv
  have hm := g.forget_moved (f := f)
  refine hm.valid hL hv (fun i hi hp => ?_) (fun i hi hp => ?_)
  · have gi := g.gates i hi hp
    unfold forgetL
    rw [la_map hi, (fg_gate hp).1]
    split <;> omega
  · have gi := g.gates i hi hp
    have ri := g.rank hp
    have sub : ∀ a b : Int, (∀ j, j < L.length → isP (la L j) = true → (la L j).gate = a → (la (forgetL L f) j).gate = b) → gN L a L.length ≤ gN (forgetL L f) b (forgetL L f).length := by
      intro a b h
      rw [hm.len]
      refine ct_sub fun j hj hp => ?_
      simp only [Bool.and_eq_true, beq_iff_eq] at hp ⊢
      exact ⟨by rw [hm.isP]; exact hp.1, h j hj hp.1 hp.2⟩
    have hrk : (la (forgetL L f) i).rank = (if (la L i).gate = f then (la L i).rank + (gN L (f - 1) L.length : Int) else (la L i).rank) := by unfold forgetL; rw [la_map hi]; exact (fg_gate hp).2
    have hj : ∀ j, j < L.length → isP (la L j) = true → (la (forgetL L f) j).gate = (if f ≤ (la L j).gate then (la L j).gate - 1 else (la L j).gate) := fun j hj hp => by
      unfold forgetL; rw [la_map hj]; exact (fg_gate hp).1
    by_cases e1 : (la L i).gate = f
    · rw [show (la (forgetL L f) i).gate = f - 1 by rw [hj i hi hp, if_pos (by omega)]; omega, hrk, if_pos e1]
      have hs : gN (forgetL L f) (f - 1) (forgetL L f).length = gN L f L.length + gN L (f - 1) L.length := by
        unfold gN
        rw [hm.len]
        refine ct_sum (fun j hj' => ?_) (fun j _ h => ?_)
        · rw [hm.isP]
          cases hp2 : isP (la L j) with
          | false => rfl
          | true =>
            rw [hj j hj' hp2]
            rw [Bool.eq_iff_iff]
            simp only [Bool.true_and, Bool.or_eq_true, beq_iff_eq]
            split <;> omega
        · simp only [Bool.and_eq_true, beq_iff_eq] at h
          omega
      rw [hs]
      rw [e1] at ri
      omega
    · by_cases e2 : f ≤ (la L i).gate
      · rw [show (la (forgetL L f) i).gate = (la L i).gate - 1 by rw [hj i hi hp, if_pos e2], hrk, if_neg e1]
        have := sub (la L i).gate ((la L i).gate - 1) (fun j hj' hp e => by rw [hj j hj' hp, if_pos (by omega)]; omega)
        omega
      · rw [show (la (forgetL L f) i).gate = (la L i).gate by rw [hj i hi hp, if_neg e2], hrk, if_neg e1]
        have := sub (la L i).gate (la L i).gate (fun j hj' hp e => by rw [hj j hj' hp, if_neg (by omega)]; omega)
        omega
/-- The passes of a gate up to a rank. -/
theorem Good.low (g : Good K L) (a : Int) {v : Nat} (hv : v ≤ gN L a L.length) : countTo (fun j => (isP (la L j) && (la L j).gate == a) && decide ((la L j).rank ≤ (v : Int))) L.length = v := by
  refine ct_low (p := fun j => isP (la L j) && (la L j).gate == a) (f := fun j => (la L j).rank) (fun j hj hp => ?_) (fun i j hi hj hpi hpj e => ?_) v hv
  · simp only [Bool.and_eq_true, beq_iff_eq] at hp
    have := g.rank hp.1
    rw [hp.2] at this
    exact this
  · simp only [Bool.and_eq_true, beq_iff_eq] at hpi hpj
    rcases Nat.lt_trichotomy i j with h | h | h
    · exact absurd e ((rkB_iff.1 (g.ranks j hj) hpj.1).2 i h hpi.1 (by rw [hpi.2, hpj.2]))
    · exact h
    · exact absurd e.symm ((rkB_iff.1 (g.ranks i hi) hpi.1).2 j h hpj.1 (by rw [hpi.2, hpj.2]))
/-- The code with a new finger is valid. -/
theorem insert_valid (hL : 0 < L.length) (hv : validB2 K L = true) {f l : Int} (h3 : 0 ≤ l) (h4 : l ≤ (gN L f L.length : Int)) : validB2 (K + 1) (insertL L f l) = true := by
  have g := good_of_valid hL hv
  have hm := g.insert_moved (f := f) (l := l)
  refine hm.valid hL hv (fun i hi hp => ?_) (fun i hi hp => ?_)
  · have gi := g.gates i hi hp
    unfold insertL
    rw [la_map hi, (in_gate hp).1]
    split <;> omega
  · have gi := g.gates i hi hp
    have ri := g.rank hp
    have sub : ∀ a b : Int, (∀ j, j < L.length → isP (la L j) = true → (la L j).gate = a → (la (insertL L f l) j).gate = b) → gN L a L.length ≤ gN (insertL L f l) b (insertL L f l).length := by
      intro a b h
      rw [hm.len]
      refine ct_sub fun j hj hp => ?_
      simp only [Bool.and_eq_true, beq_iff_eq] at hp ⊢
      exact ⟨by rw [hm.isP]; exact hp.1, h j hj hp.1 hp.2⟩
    have hrk : (la (insertL L f l) i).rank = (if (la L i).gate = f ∧ l < (la L i).rank then (la L i).rank - l else (la L i).rank) := by unfold insertL; rw [la_map hi]; exact (in_gate hp).2
    have hj : ∀ j, j < L.length → isP (la L j) = true → (la (insertL L f l) j).gate = (if f < (la L j).gate ∨ ((la L j).gate = f ∧ l < (la L j).rank) then (la L j).gate + 1 else (la L j).gate) := fun j hj hp => by
      unfold insertL; rw [la_map hj]; exact (in_gate hp).1
    obtain ⟨v, rfl⟩ : ∃ v : Nat, l = (v : Int) := ⟨l.toNat, by omega⟩
    have hlow := g.low f (v := v) (by omega)
    by_cases e1 : f < (la L i).gate
    · rw [show (la (insertL L f (v : Int)) i).gate = (la L i).gate + 1 by rw [hj i hi hp, if_pos (.inl e1)], hrk, if_neg (by omega)]
      have := sub (la L i).gate ((la L i).gate + 1) (fun j hj' hp e => by rw [hj j hj' hp, if_pos (by omega)]; omega)
      omega
    · by_cases e2 : (la L i).gate = f ∧ (v : Int) < (la L i).rank
      · rw [show (la (insertL L f (v : Int)) i).gate = f + 1 by rw [hj i hi hp, if_pos (.inr e2), e2.1], hrk, if_pos e2]
        have hs : gN L f L.length = countTo (fun j => (isP (la L j) && (la L j).gate == f) && decide ((la L j).rank ≤ (v : Int))) L.length + countTo (fun j => (isP (la L j) && (la L j).gate == f) && !decide ((la L j).rank ≤ (v : Int))) L.length := by
          unfold gN
          refine ct_sum (fun j _ => ?_) (fun j _ h => ?_)
          · cases decide ((la L j).rank ≤ (v : Int)) <;> simp
          · simp at h; omega
        have hs2 : countTo (fun j => (isP (la L j) && (la L j).gate == f) && !decide ((la L j).rank ≤ (v : Int))) L.length ≤ gN (insertL L f (v : Int)) (f + 1) (insertL L f (v : Int)).length := by
          rw [hm.len]
          refine ct_sub fun j hj' h => ?_
          simp only [Bool.and_eq_true, beq_iff_eq, Bool.not_eq_true', decide_eq_false_iff_not] at h ⊢
          refine ⟨by rw [hm.isP]; exact h.1.1, ?_⟩
          rw [hj j hj' h.1.1, if_pos (.inr ⟨h.1.2, by omega⟩), h.1.2]
        rw [e2.1] at ri
        omega
      · rw [show (la (insertL L f (v : Int)) i).gate = (la L i).gate by rw [hj i hi hp, if_neg (by omega)], hrk, if_neg e2]
        by_cases e3 : (la L i).gate = f
        · rw [e3]
          have hs2 : countTo (fun j => (isP (la L j) && (la L j).gate == f) && decide ((la L j).rank ≤ (v : Int))) L.length ≤ gN (insertL L f (v : Int)) f (insertL L f (v : Int)).length := by
            rw [hm.len]
            refine ct_sub fun j hj' h => ?_
            simp only [Bool.and_eq_true, beq_iff_eq, decide_eq_true_eq] at h ⊢
            refine ⟨by rw [hm.isP]; exact h.1.1, ?_⟩
            rw [hj j hj' h.1.1, if_neg (by omega), h.1.2]
          omega
        · have := sub (la L i).gate (la L i).gate (fun j hj' hp e => by rw [hj j hj' hp, if_neg (by omega)]; exact e)
          omega
/-- The finger that was put in is taken away again. -/
theorem forget_insert (g : Good K L) {f l : Int} (h3 : 0 ≤ l) (h4 : l ≤ (gN L f L.length : Int)) : forgetL (insertL L f l) (f + 1) = L := by
  have hm := g.insert_moved (f := f) (l := l)
  obtain ⟨v, rfl⟩ : ∃ v : Nat, l = (v : Int) := ⟨l.toNat, by omega⟩
  have hlow := g.low f (v := v) (by omega)
  have hgN : gN (insertL L f (v : Int)) f (insertL L f (v : Int)).length = v := by
    rw [hm.len]
    refine Eq.trans ?_ hlow
    unfold gN
    refine ct_congr fun j hj => ?_
    rw [hm.isP]
    cases hp : isP (la L j) with
    | false => simp
    | true =>
      have : (la (insertL L f (v : Int)) j).gate = (if f < (la L j).gate ∨ ((la L j).gate = f ∧ (v : Int) < (la L j).rank) then (la L j).gate + 1 else (la L j).gate) := by unfold insertL; rw [la_map hj]; exact (in_gate hp).1
      rw [this, Bool.eq_iff_iff]
      simp only [Bool.true_and, beq_iff_eq, Bool.and_eq_true, decide_eq_true_eq]
      split <;> omega
  have key : ∀ x ∈ L, fgLt (insertL L f (v : Int)) (f + 1) (insLt f (v : Int) x) = x := by
    intro x _
    cases hp : isP x with
    | false =>
      rw [in_np hp, fg_no (by rw [hp]; simp)]
    | true =>
      have hp2 : isP (insLt f (v : Int) x) = true := by unfold isP; rw [in_kind.1]; exact hp
      by_cases e1 : f < x.gate
      · rw [in_up hp e1]
        rw [fg_up (by exact hp) (by show f + 1 < x.gate + 1; omega)]
        cases x; simp
      · by_cases e2 : x.gate = f ∧ (v : Int) < x.rank
        · rw [in_eq hp e2.1 e2.2, fg_eq (by exact hp) (by show x.gate + 1 = f + 1; omega), show f + 1 - 1 = f by omega, hgN]
          cases x; simp
        · rw [in_lo e1 e2, fg_no (by omega)]
  unfold forgetL
  conv => lhs; arg 2; unfold insertL
  rw [List.map_map]
  conv => rhs; rw [← List.map_id L]
  exact List.map_congr_left key
end
end
end Go.Proofs.YtkjcmppaapbabaaDoor
