/-
  Plain: what line.reduce computes: a stack of letters with their directions, trimmed at both ends. No program in sight.
  Plain: rotations and comparisons of lists, and the normal form as line.normal computes it. No program in sight.
  Plain: lists that differ by pairs of equal neighbours, by an even rotation or by the direction have one normal form. No program in sight.
  Plain: the normal form is the least even rotation in one of the two directions, and it depends on the curve alone. No program in sight.
-/
import Derived.Test.YtkjcmppaapbabaaDoorJA
namespace Go.Proofs.YtkjcmppaapbabaaDoor
section
/-- One letter comes onto the stack (the top is at the end). -/
def pushS (S : List (Int × Bool)) (i : Nat) (g : Int) : List (Int × Bool) :=
  if S.getLast?.map (·.1) = some g then S.dropLast else S ++ [(g, decide (i % 2 = 0))]
/-- The stack behind k letters. -/
def stackTo (L : List Int) : Nat → List (Int × Bool)
  | 0 => []
  | k + 1 => match L[k]? with
    | some g => pushS (stackTo L k) k g
    | none => stackTo L k
theorem stackTo_succ {L : List Int} {k : Nat} {g : Int} (h : L[k]? = some g) : stackTo L (k + 1) = pushS (stackTo L k) k g := by rw [stackTo, h]
theorem pushS_len (S : List (Int × Bool)) (i : Nat) (g : Int) : (pushS S i g).length ≤ S.length + 1 := by
  unfold pushS; split <;> simp; omega
theorem stackTo_len (L : List Int) (k : Nat) : (stackTo L k).length ≤ k := by
  induction k with
  | zero => simp [stackTo]
  | succ k ih =>
    rw [stackTo]
    split
    · exact Nat.le_trans (pushS_len _ _ _) (by omega)
    · omega
theorem pushS_nil (i : Nat) (g : Int) : pushS [] i g = [(g, decide (i % 2 = 0))] := rfl
theorem pushS_pop {S : List (Int × Bool)} {q i : Nat} {g : Int} {b : Bool} (hq : S.length = q + 1) (h : S[q]? = some (g, b)) : pushS S i g = S.take q := by
  unfold pushS
  rw [List.getLast?_eq_getElem?, hq, Nat.add_sub_cancel, h]
  simp [List.dropLast_eq_take, hq]
theorem pushS_push {S : List (Int × Bool)} {q i : Nat} {g x : Int} {b : Bool} (hq : S.length = q + 1) (h : S[q]? = some (x, b)) (hx : x ≠ g) : pushS S i g = S ++ [(g, decide (i % 2 = 0))] := by
  unfold pushS
  rw [List.getLast?_eq_getElem?, hq, Nat.add_sub_cancel, h]
  simp [hx]
/-- Both ends are taken away as long as they are equal. -/
def trimF : Nat → List (Int × Bool) → List (Int × Bool)
  | 0, S => S
  | f + 1, S => if 1 < S.length ∧ S.head?.map (·.1) = S.getLast?.map (·.1) then trimF f S.tail.dropLast else S
theorem trimF_more (f : Nat) : ∀ S : List (Int × Bool), S.length ≤ 2 * f + 1 → trimF (f + 1) S = trimF f S := by
  induction f with
  | zero => intro S h; unfold trimF; rw [if_neg (by omega)]
  | succ f ih =>
    intro S h
    rw [trimF]
    conv => rhs; rw [trimF]
    split
    · rw [ih]; simp; omega
    · rfl
def trimS (S : List (Int × Bool)) : List (Int × Bool) := trimF S.length S
theorem trimF_eq (f : Nat) (S : List (Int × Bool)) (h : S.length ≤ f) : trimF f S = trimS S := by
  induction f with
  | zero => have : S.length = 0 := by omega
            unfold trimS; rw [this]
  | succ f ih =>
    by_cases e : S.length = f + 1
    · unfold trimS; rw [e]
    · rw [trimF_more f S (by omega), ih (by omega)]
theorem trimS_step {S : List (Int × Bool)} (h : 1 < S.length ∧ S.head?.map (·.1) = S.getLast?.map (·.1)) : trimS S = trimS S.tail.dropLast := by
  unfold trimS
  obtain ⟨n, hn⟩ : ∃ n, S.length = n + 1 := ⟨S.length - 1, by omega⟩
  rw [hn, trimF, if_pos h]
  rw [trimF_eq _ _ (by simp; omega)]
  rfl
theorem trimS_stop {S : List (Int × Bool)} (h : ¬ (1 < S.length ∧ S.head?.map (·.1) = S.getLast?.map (·.1))) : trimS S = S := by
  unfold trimS
  cases hn : S.length with
  | zero => rfl
  | succ n => rw [trimF, if_neg h]
theorem trimF_len (f : Nat) : ∀ S, (trimF f S).length ≤ S.length := by
  induction f with
  | zero => intro S; exact Nat.le_refl _
  | succ f ih =>
    intro S
    rw [trimF]
    split
    · refine Nat.le_trans (ih _) ?_
      simp; omega
    · exact Nat.le_refl _
theorem tail_dropLast {S : List (Int × Bool)} {q : Nat} (hq : S.length = q + 1) : S.tail.dropLast = (S.take q).drop 1 := by
  rw [List.dropLast_eq_take, List.length_tail, hq, List.drop_take, List.drop_one]
  simp
/-- It begins with a letter that goes down. -/
def turnS : List (Int × Bool) → List (Int × Bool)
  | [] => []
  | x :: r => if x.2 then x :: r else r ++ [x]
theorem turnS_len (S : List (Int × Bool)) : (turnS S).length = S.length := by
  cases S with
  | nil => rfl
  | cons x r =>
    show (if x.2 = true then x :: r else r ++ [x]).length = _
    split <;> simp
/-- line.reduce. -/
def reduceL (L : List Int) : List Int := (turnS (trimS (stackTo L L.length))).map (·.1)
end

section
/-- A list from one place on, and then what is ahead of it. -/
def rotL {α : Type} (L : List α) (i : Nat) : List α := L.drop i ++ L.take i
theorem rotL_len {α : Type} (L : List α) (i : Nat) (h : i ≤ L.length) : (rotL L i).length = L.length := by simp [rotL]; omega
theorem rotL_get {α : Type} (L : List α) {a i : Nat} (ha : a < L.length) (hi : i < L.length) : (rotL L a)[i]? = L[(a + i) % L.length]? := by
  unfold rotL
  by_cases h : i < L.length - a
  · rw [List.getElem?_append_left (by simpa using h), List.getElem?_drop, Nat.mod_eq_of_lt (by omega)]
  · rw [List.getElem?_append_right (by simpa using h), List.length_drop, List.getElem?_take, if_pos (by omega)]
    have e : (a + i) % L.length = i - (L.length - a) := by
      rw [show a + i = (i - (L.length - a)) + L.length by omega, Nat.add_mod_right, Nat.mod_eq_of_lt (by omega)]
    rw [e]
/-- The first difference. -/
def cmpL : List Int → List Int → Int
  | x :: xs, y :: ys => if x = y then cmpL xs ys else x - y
  | _, _ => 0
theorem cmpL_nil (M : List Int) : cmpL [] M = 0 := by cases M <;> rfl
theorem cmpL_same {x : Int} {A B : List Int} {i : Nat} (ha : A[i]? = some x) (hb : B[i]? = some x) : cmpL (A.drop i) (B.drop i) = cmpL (A.drop (i + 1)) (B.drop (i + 1)) := by
  obtain ⟨h1, e1⟩ := List.getElem?_eq_some_iff.1 ha
  obtain ⟨h2, e2⟩ := List.getElem?_eq_some_iff.1 hb
  rw [List.drop_eq_getElem_cons h1, List.drop_eq_getElem_cons h2, e1, e2, cmpL, if_pos rfl]
theorem cmpL_diff {x y : Int} {A B : List Int} {i : Nat} (ha : A[i]? = some x) (hb : B[i]? = some y) (h : x ≠ y) : cmpL (A.drop i) (B.drop i) = x - y := by
  obtain ⟨h1, e1⟩ := List.getElem?_eq_some_iff.1 ha
  obtain ⟨h2, e2⟩ := List.getElem?_eq_some_iff.1 hb
  rw [List.drop_eq_getElem_cons h1, List.drop_eq_getElem_cons h2, e1, e2, cmpL, if_neg h]
/-- The best even place among 0, 2, .., 2 k. -/
def bestTo (L : List Int) : Nat → Nat
  | 0 => 0
  | k + 1 => if cmpL (rotL L (2 * (k + 1))) (rotL L (bestTo L k)) < 0 then 2 * (k + 1) else bestTo L k
theorem bestTo_le (L : List Int) (k : Nat) : bestTo L k ≤ 2 * k := by
  induction k with
  | zero => exact Nat.le_refl _
  | succ k ih => rw [bestTo]; split <;> omega
/-- line.least. -/
def leastL (L : List Int) : List Int := rotL L (bestTo L ((L.length - 1) / 2))
theorem leastL_len (L : List Int) : (leastL L).length = L.length := by
  unfold leastL
  refine rotL_len _ _ ?_
  have := bestTo_le L ((L.length - 1) / 2)
  omega
/-- slices.Compare. -/
def cmpS : List Int → List Int → Int
  | [], [] => 0
  | [], _ :: _ => -1
  | _ :: _, [] => 1
  | x :: xs, y :: ys => if x < y then -1 else if y < x then 1 else cmpS xs ys
/-- line.normal. -/
def normalL (L : List Int) : List Int :=
  if reduceL L = [] then [] else
    if cmpS (leastL (reduceL L).reverse) (leastL (reduceL L)) < 0 then leastL (reduceL L).reverse else leastL (reduceL L)
theorem mem_dropLast {α : Type} {l : List α} {x : α} (h : x ∈ l.dropLast) : x ∈ l := by rw [List.dropLast_eq_take] at h; exact List.mem_of_mem_take h
theorem mem_stackTo {L : List Int} {k : Nat} {y : Int × Bool} (h : y ∈ stackTo L k) : y.1 ∈ L := by
  induction k with
  | zero => simp [stackTo] at h
  | succ k ih =>
    rw [stackTo] at h
    split at h
    · rename_i g hg
      unfold pushS at h
      split at h
      · exact ih (mem_dropLast h)
      · rcases List.mem_append.1 h with h | h
        · exact ih h
        · simp at h; subst h; exact List.mem_of_getElem? hg
    · exact ih h
theorem mem_trimF {f : Nat} : ∀ {S : List (Int × Bool)} {y : Int × Bool}, y ∈ trimF f S → y ∈ S := by
  induction f with
  | zero => intro S y h; exact h
  | succ f ih =>
    intro S y h
    rw [trimF] at h
    split at h
    · exact List.mem_of_mem_tail (mem_dropLast (ih h))
    · exact h
theorem mem_turnS {S : List (Int × Bool)} {y : Int × Bool} (h : y ∈ turnS S) : y ∈ S := by
  cases S with
  | nil => exact h
  | cons x r =>
    change y ∈ (if x.2 = true then x :: r else r ++ [x]) at h
    split at h
    · exact h
    · simp at h ⊢; exact h.symm
theorem mem_reduceL {L : List Int} {x : Int} (h : x ∈ reduceL L) : x ∈ L := by
  unfold reduceL at h
  obtain ⟨y, hy, rfl⟩ := List.mem_map.1 h
  exact mem_stackTo (mem_trimF (mem_turnS hy))
theorem reduceL_len (L : List Int) : (reduceL L).length ≤ L.length := by
  unfold reduceL
  rw [List.length_map, turnS_len]
  exact Nat.le_trans (trimF_len _ _) (stackTo_len _ _)
end

section
/-- A letter comes ahead of a list without equal neighbours. -/
def lpush (a : Int) : List Int → List Int
  | [] => [a]
  | x :: r => if x = a then r else a :: x :: r
/-- A letter comes behind it. -/
def rpush (P : List Int) (b : Int) : List Int := if P.getLast? = some b then P.dropLast else P ++ [b]
def fr : List Int → List Int
  | [] => []
  | a :: r => lpush a (fr r)
/-- No two neighbours are equal. -/
def RedP : List Int → Prop
  | a :: b :: r => a ≠ b ∧ RedP (b :: r)
  | _ => True
theorem RedP.tail {a : Int} {r : List Int} (h : RedP (a :: r)) : RedP r := by
  cases r with
  | nil => trivial
  | cons b r => exact h.2
theorem redP_lpush {P : List Int} (h : RedP P) (a : Int) : RedP (lpush a P) := by
  cases P with
  | nil => trivial
  | cons x r =>
    by_cases e : x = a
    · rw [show lpush a (x :: r) = r by simp [lpush, e]]
      exact h.tail
    · rw [show lpush a (x :: r) = a :: x :: r by simp [lpush, e]]
      exact ⟨fun h => e h.symm, h⟩
theorem redP_fr (L : List Int) : RedP (fr L) := by
  induction L with
  | nil => trivial
  | cons a r ih => exact redP_lpush ih a
theorem redP_last : ∀ {Q : List Int} {y z : Int}, RedP (Q ++ [y, z]) → y ≠ z
  | [], _, _, h => h.1
  | _ :: Q, _, _, h => redP_last (Q := Q) (RedP.tail h)
theorem lpush_lpush {P : List Int} (h : RedP P) (a : Int) : lpush a (lpush a P) = P := by
  cases P with
  | nil => simp [lpush]
  | cons x r =>
    by_cases e : x = a
    · subst e
      cases r with
      | nil => simp [lpush]
      | cons y s =>
        have := h.1
        simp [lpush, show ¬ y = x from fun e => this e.symm]
    · simp [lpush, e]
theorem fr_del (u : List Int) (g : Int) (v : List Int) : fr (u ++ g :: g :: v) = fr (u ++ v) := by
  induction u with
  | nil => exact lpush_lpush (redP_fr v) g
  | cons a u ih => exact congrArg (lpush a) ih
theorem rpush_cons (x y : Int) (r : List Int) (b : Int) : rpush (x :: y :: r) b = x :: rpush (y :: r) b := by
  unfold rpush
  rw [List.getLast?_cons_cons, List.dropLast_cons_cons]
  split <;> rfl
theorem rpush_snoc (Q : List Int) (z b : Int) : rpush (Q ++ [z]) b = if z = b then Q else Q ++ [z, b] := by
  unfold rpush
  simp
theorem lpush_rpush (P : List Int) (a b : Int) : rpush (lpush a P) b = lpush a (rpush P b) := by
  match P with
  | [] =>
    by_cases e : a = b
    · subst e; simp [lpush, rpush]
    · simp [lpush, rpush, e, show ¬ b = a from fun h => e h.symm]
  | [x] =>
    by_cases e : x = a
    · subst e
      by_cases e2 : x = b
      · subst e2; simp [lpush, rpush]
      · simp [lpush, rpush, e2]
    · by_cases e2 : x = b
      · subst e2; simp [lpush, rpush, e]
      · simp [lpush, rpush, e, e2]
  | x :: y :: r =>
    rw [rpush_cons]
    by_cases e : x = a
    · subst e; simp [lpush]
    · simp only [lpush, if_neg e]
      rw [rpush_cons, rpush_cons]
theorem fr_snoc (w : List Int) (b : Int) : fr (w ++ [b]) = rpush (fr w) b := by
  induction w with
  | nil => simp [fr, rpush, lpush]
  | cons a w ih =>
    show lpush a (fr (w ++ [b])) = rpush (lpush a (fr w)) b
    rw [ih, lpush_rpush]
theorem lpush_len (a : Int) (P : List Int) : (lpush a P).length % 2 = (P.length + 1) % 2 := by
  cases P with
  | nil => rfl
  | cons x r =>
    by_cases e : x = a
    · rw [show lpush a (x :: r) = r by simp [lpush, e], List.length_cons]; omega
    · rw [show lpush a (x :: r) = a :: x :: r by simp [lpush, e], List.length_cons]
theorem fr_len (L : List Int) : (fr L).length % 2 = L.length % 2 := by
  induction L with
  | nil => rfl
  | cons a r ih => rw [fr, lpush_len, List.length_cons]; omega
theorem rpush_reverse (a : Int) (P : List Int) : rpush P.reverse a = (lpush a P).reverse := by
  cases P with
  | nil => simp [rpush, lpush]
  | cons x r =>
    rw [List.reverse_cons, rpush_snoc]
    by_cases e : x = a
    · rw [show lpush a (x :: r) = r by simp [lpush, e], if_pos e]
    · rw [show lpush a (x :: r) = a :: x :: r by simp [lpush, e], if_neg e]; simp
theorem fr_reverse (L : List Int) : fr L.reverse = (fr L).reverse := by
  induction L with
  | nil => rfl
  | cons a r ih => rw [List.reverse_cons, fr_snoc, ih, rpush_reverse]; rfl

/-- The letters with their directions, one by one. -/
def marked : Bool → List Int → List (Int × Bool)
  | _, [] => []
  | b, g :: r => (g, b) :: marked (!b) r
theorem marked_len (b : Bool) (P : List Int) : (marked b P).length = P.length := by
  induction P generalizing b with
  | nil => rfl
  | cons g r ih => simp [marked, ih]
theorem marked_fst (b : Bool) (P : List Int) : (marked b P).map (·.1) = P := by
  induction P generalizing b with
  | nil => rfl
  | cons g r ih => simp [marked, ih]
theorem marked_snoc (b : Bool) (P : List Int) (g : Int) : marked b (P ++ [g]) = marked b P ++ [(g, if P.length % 2 = 0 then b else !b)] := by
  induction P generalizing b with
  | nil => rfl
  | cons x r ih =>
    simp only [List.cons_append, marked, ih, List.length_cons]
    rcases Nat.mod_two_eq_zero_or_one r.length with h | h
    · rw [if_pos h, if_neg (by omega)]
    · rw [if_neg (by omega), if_pos (by omega)]; simp
theorem marked_dropLast (b : Bool) (P : List Int) : (marked b P).dropLast = marked b P.dropLast := by
  induction P generalizing b with
  | nil => rfl
  | cons x r ih =>
    cases r with
    | nil => rfl
    | cons y s =>
      have := ih (!b)
      simp only [marked, List.dropLast_cons_cons] at this ⊢
      rw [this]
theorem marked_getLast (b : Bool) (P : List Int) : (marked b P).getLast?.map (·.1) = P.getLast? := by rw [← List.getLast?_map, marked_fst]
theorem marked_head (b : Bool) (P : List Int) : (marked b P).head?.map (·.1) = P.head? := by rw [← List.head?_map, marked_fst]
theorem marked_tail (b : Bool) (P : List Int) : (marked b P).tail = marked (!b) P.tail := by cases P <;> rfl
theorem stackTo_fr (L : List Int) (k : Nat) (hk : k ≤ L.length) : stackTo L k = marked true (fr (L.take k)) := by
  induction k with
  | zero => simp [stackTo, fr, marked]
  | succ k ih =>
    have hx : L[k]? = some (L[k]'(by omega)) := List.getElem?_eq_getElem _
    obtain ⟨x, hxe⟩ : ∃ x, L[k]'(by omega) = x := ⟨_, rfl⟩
    rw [hxe] at hx
    rw [stackTo_succ hx, ih (by omega), List.take_add_one, hx]
    show pushS _ _ _ = marked true (fr (L.take k ++ [x]))
    rw [fr_snoc]
    have hl := fr_len (L.take k)
    rw [List.length_take, Nat.min_eq_left (by omega)] at hl
    unfold pushS rpush
    rw [marked_getLast]
    split
    · rw [marked_dropLast]
    · rw [marked_snoc]
      congr 3
      by_cases h2 : k % 2 = 0
      · rw [if_pos (by omega)]; simp [h2]
      · rw [if_neg (by omega)]; simp [h2]

/-- Both ends are taken away as long as they are equal; the direction of the first letter changes each time. -/
def core : Nat → Bool → List Int → Bool × List Int
  | 0, b, P => (b, P)
  | f + 1, b, P => if 1 < P.length ∧ P.head? = P.getLast? then core f (!b) P.tail.dropLast else (b, P)
theorem core_more (f : Nat) : ∀ (b : Bool) (P : List Int), P.length ≤ 2 * f + 1 → core (f + 1) b P = core f b P := by
  induction f with
  | zero => intro b P h; unfold core; rw [if_neg (by omega)]
  | succ f ih =>
    intro b P h
    rw [core]
    conv => rhs; rw [core]
    split
    · rw [ih]; simp; omega
    · rfl
def cor (b : Bool) (P : List Int) : Bool × List Int := core P.length b P
theorem core_eq (f : Nat) (b : Bool) (P : List Int) (h : P.length ≤ f) : core f b P = cor b P := by
  induction f with
  | zero => have : P.length = 0 := by omega
            unfold cor; rw [this]
  | succ f ih =>
    by_cases e : P.length = f + 1
    · unfold cor; rw [e]
    · rw [core_more f b P (by omega), ih (by omega)]
theorem cor_step {b : Bool} {P : List Int} (h : 1 < P.length ∧ P.head? = P.getLast?) : cor b P = cor (!b) P.tail.dropLast := by
  unfold cor
  obtain ⟨n, hn⟩ : ∃ n, P.length = n + 1 := ⟨P.length - 1, by omega⟩
  rw [hn, core, if_pos h]
  rw [core_eq _ _ _ (by simp; omega)]
  rfl
theorem cor_stop {b : Bool} {P : List Int} (h : ¬ (1 < P.length ∧ P.head? = P.getLast?)) : cor b P = (b, P) := by
  unfold cor
  cases hn : P.length with
  | zero => rfl
  | succ n => rw [core, if_neg h]
theorem trimF_marked (f : Nat) : ∀ (b : Bool) (P : List Int), trimF f (marked b P) = marked (core f b P).1 (core f b P).2 := by
  induction f with
  | zero => intro b P; rfl
  | succ f ih =>
    intro b P
    rw [trimF, core, marked_len, marked_head, marked_getLast]
    split
    · rw [marked_tail, marked_dropLast, ih]
    · rfl
/-- It begins with a letter that goes down. -/
def outP (c : Bool × List Int) : List Int := if c.1 then c.2 else rotL c.2 1
theorem turnS_marked (b : Bool) (Q : List Int) : (turnS (marked b Q)).map (·.1) = outP (b, Q) := by
  cases Q with
  | nil => cases b <;> rfl
  | cons x r =>
    cases b
    · show ((marked true r) ++ [(x, false)]).map (·.1) = rotL (x :: r) 1
      rw [List.map_append, marked_fst]
      rfl
    · show ((x, true) :: marked false r).map (·.1) = x :: r
      rw [List.map_cons, marked_fst]
def KK (b : Bool) (L : List Int) : List Int := outP (cor b (fr L))
theorem reduceL_KK (L : List Int) : reduceL L = KK true L := by
  unfold reduceL KK trimS
  rw [stackTo_fr L L.length (Nat.le_refl _), List.take_length, trimF_marked, turnS_marked, marked_len]
  rfl
theorem core_len (f : Nat) : ∀ (b : Bool) (P : List Int), (core f b P).2.length % 2 = P.length % 2 := by
  induction f with
  | zero => intro b P; rfl
  | succ f ih =>
    intro b P
    rw [core]
    split
    · rw [ih]; simp; omega
    · rfl
theorem outP_len (c : Bool × List Int) : (outP c).length = c.2.length := by
  unfold outP
  split
  · rfl
  · rcases Nat.eq_zero_or_pos c.2.length with h | h
    · have := List.eq_nil_of_length_eq_zero h
      rw [this]; rfl
    · exact rotL_len _ _ h
theorem KK_len (b : Bool) (L : List Int) : (KK b L).length % 2 = L.length % 2 := by
  unfold KK cor
  rw [outP_len, core_len, fr_len]

/-- An even rotation. -/
def Rot2 (X Y : List Int) : Prop := ∃ U V, X = U ++ V ∧ Y = V ++ U ∧ U.length % 2 = 0
theorem Rot2.refl (X : List Int) : Rot2 X X := ⟨[], X, rfl, by simp, rfl⟩
theorem Rot2.len {X Y : List Int} (h : Rot2 X Y) : Y.length = X.length := by
  obtain ⟨U, V, rfl, rfl, _⟩ := h
  simp; omega
theorem Rot2.symm {X Y : List Int} (h : Rot2 X Y) (he : X.length % 2 = 0) : Rot2 Y X := by
  obtain ⟨U, V, rfl, rfl, hu⟩ := h
  rw [List.length_append] at he
  exact ⟨V, U, rfl, rfl, by omega⟩
theorem Rot2.trans {X Y Z : List Int} (h : Rot2 X Y) (k : Rot2 Y Z) (he : X.length % 2 = 0) : Rot2 X Z := by
  obtain ⟨U, V, rfl, rfl, hu⟩ := h
  obtain ⟨U', V', e, rfl, hu'⟩ := k
  rw [List.length_append] at he
  rcases List.append_eq_append_iff.1 e with ⟨W, h1, h2⟩ | ⟨W, h1, h2⟩
  · -- U' = V ++ W, U = W ++ V'
    subst h1; subst h2
    exact ⟨W, V' ++ V, by simp, by simp, by simp at hu' hu he ⊢; omega⟩
  · -- V = U' ++ W, V' = W ++ U
    subst h1; subst h2
    exact ⟨U ++ U', W, by simp, by simp, by simp at hu' hu he ⊢; omega⟩
theorem Rot2.reverse {X Y : List Int} (h : Rot2 X Y) (he : X.length % 2 = 0) : Rot2 X.reverse Y.reverse := by
  obtain ⟨U, V, rfl, rfl, hu⟩ := h
  rw [List.length_append] at he
  exact ⟨V.reverse, U.reverse, by simp, by simp, by simp; omega⟩

theorem last_cs (x : Int) (M : List Int) (z : Int) : (x :: (M ++ [z])).getLast? = some z := by rw [← List.cons_append]; exact List.getLast?_concat
theorem drop_cs (x : Int) (M : List Int) (z : Int) : (x :: (M ++ [z])).dropLast = x :: M := by rw [← List.cons_append]; exact List.dropLast_concat
theorem two_snoc (M : List Int) (y z : Int) : M ++ [y, z] = (M ++ [y]) ++ [z] := by simp
/-- A letter that moves from the front to the end changes every direction. -/
theorem conj_P (b : Bool) (a : Int) {P : List Int} (h : RedP P) (he : (lpush a P).length % 2 = 0) : Rot2 (outP (cor b (lpush a P))) (outP (cor (!b) (rpush P a))) := by
  match P with
  | [] => simp [lpush] at he
  | [x] =>
    by_cases e : x = a
    · subst e
      simp only [lpush, rpush, if_true, List.getLast?_singleton, List.dropLast_singleton]
      rw [cor_stop (by simp), cor_stop (by simp)]
      cases b <;> exact Rot2.refl _
    · have h1 : lpush a [x] = [a, x] := by simp [lpush, e]
      have h2 : rpush [x] a = [x, a] := by simp [rpush, e]
      rw [h1, h2, cor_stop (by simp; exact fun h => e h.symm), cor_stop (by simp; exact e)]
      cases b <;> exact Rot2.refl _
  | x :: y :: r =>
    obtain ⟨M, z, hM⟩ : ∃ M z, y :: r = M ++ [z] := ⟨_, _, (List.dropLast_concat_getLast (by simp)).symm⟩
    rw [hM] at h he ⊢
    have hR : rpush (x :: (M ++ [z])) a = if z = a then x :: M else x :: M ++ [z, a] := by
      rw [← List.cons_append, rpush_snoc]
    have hLp : lpush a (x :: (M ++ [z])) = if x = a then M ++ [z] else a :: x :: (M ++ [z]) := rfl
    rw [hLp] at he
    rw [hR, hLp]
    by_cases e1 : x = a
    · subst e1
      rw [if_pos rfl] at he ⊢
      by_cases e2 : z = x
      · subst e2
        rw [if_pos rfl]
        cases M with
        | nil => exact absurd rfl h.1
        | cons m M' =>
          have hm : z ≠ m := h.1
          have hs1 : cor b (m :: M' ++ [z]) = (b, m :: M' ++ [z]) := cor_stop (fun hh => hm (by have := hh.2; rw [List.cons_append, last_cs] at this; exact (Option.some.inj this).symm))
          have hs2 : cor (!b) (z :: m :: M') = (!b, z :: m :: M') := by
            refine cor_stop fun ⟨_, hh⟩ => ?_
            obtain ⟨Q, y', hQ⟩ : ∃ Q y', m :: M' = Q ++ [y'] := ⟨_, _, (List.dropLast_concat_getLast (by simp)).symm⟩
            rw [hQ] at h hh
            have h' : RedP ((z :: Q) ++ [y', z]) := by simpa using h
            have := redP_last h'
            rw [← List.cons_append, List.getLast?_concat] at hh
            exact this (Option.some.inj hh).symm
          rw [hs1, hs2]
          cases b
          · refine ⟨M', [z, m], ?_, ?_, ?_⟩
            · simp [outP, rotL]
            · simp [outP]
            · simp at he; omega
          · have : outP (!true, z :: m :: M') = outP (true, m :: M' ++ [z]) := by simp [outP, rotL]
            rw [this]
            exact Rot2.refl _
      · rw [if_neg e2]
        have hst : cor (!b) (x :: (M ++ [z, x])) = cor b (M ++ [z]) := by
          rw [two_snoc, cor_step ⟨by simp, by rw [last_cs]; rfl⟩, Bool.not_not]
          congr 1
          exact List.dropLast_concat
        rw [List.cons_append, hst]
        exact Rot2.refl _
    · rw [if_neg e1] at he ⊢
      by_cases e2 : z = a
      · subst e2
        rw [if_pos rfl]
        have hst : cor b (z :: x :: (M ++ [z])) = cor (!b) (x :: M) := by
          rw [cor_step ⟨by simp, by rw [← List.cons_append, last_cs]; rfl⟩]
          congr 1
          exact drop_cs _ _ _
        rw [hst]
        exact Rot2.refl _
      · rw [if_neg e2]
        have hs1 : cor b (a :: x :: (M ++ [z])) = (b, a :: x :: (M ++ [z])) := by
          refine cor_stop fun ⟨_, hh⟩ => ?_
          rw [← List.cons_append, last_cs] at hh
          exact e2 (Option.some.inj hh).symm
        have hs2 : cor (!b) (x :: M ++ [z, a]) = (!b, x :: M ++ [z, a]) := by
          refine cor_stop fun ⟨_, hh⟩ => ?_
          rw [List.cons_append, two_snoc, last_cs] at hh
          exact e1 (Option.some.inj hh)
        rw [hs1, hs2]
        cases b
        · have : outP (false, a :: x :: (M ++ [z])) = outP (!false, x :: M ++ [z, a]) := by simp [outP, rotL]
          rw [this]
          exact Rot2.refl _
        · exact ⟨[a, x], M ++ [z], by simp [outP], by simp [outP, rotL], by simp⟩
theorem KK_conj (b : Bool) (a : Int) (w : List Int) (he : (a :: w).length % 2 = 0) : Rot2 (KK b (a :: w)) (KK (!b) (w ++ [a])) := by
  unfold KK
  rw [fr_snoc]
  exact conj_P b a (redP_fr w) ((fr_len (a :: w)).trans he)
theorem KK_rot (b : Bool) : ∀ (n : Nat) (U V : List Int), U.length = 2 * n → (U ++ V).length % 2 = 0 → Rot2 (KK b (U ++ V)) (KK b (V ++ U)) := by
  intro n
  induction n with
  | zero =>
    intro U V hU _
    have : U = [] := List.eq_nil_of_length_eq_zero (by omega)
    subst this
    simpa using Rot2.refl _
  | succ n ih =>
    intro U V hU he
    match U, hU with
    | [], hU => simp at hU
    | [_], hU => simp at hU; omega
    | x :: y :: U', hU =>
      have h1 := KK_conj b x (y :: U' ++ V) (by simpa using he)
      have h2 := KK_conj (!b) y (U' ++ V ++ [x]) (by simp at he ⊢; omega)
      have h3 := ih U' (V ++ [x, y]) (by simp at hU; omega) (by simp at he ⊢; omega)
      rw [Bool.not_not] at h2
      have e1 : y :: U' ++ V ++ [x] = y :: (U' ++ V ++ [x]) := rfl
      have e2 : U' ++ V ++ [x] ++ [y] = U' ++ (V ++ [x, y]) := by simp
      have e3 : V ++ [x, y] ++ U' = V ++ (x :: y :: U') := by simp
      rw [e1] at h1
      rw [e2] at h2
      rw [e3] at h3
      have l1 := (KK_len b (x :: (y :: U' ++ V))).trans (by simpa using he)
      exact (h1.trans h2 l1).trans h3 l1
theorem core_reverse (f : Nat) : ∀ (b : Bool) (P : List Int), core f b P.reverse = ((core f b P).1, (core f b P).2.reverse) := by
  induction f with
  | zero => intro b P; rfl
  | succ f ih =>
    intro b P
    rw [core, core]
    by_cases h : 1 < P.length ∧ P.head? = P.getLast?
    · rw [if_pos h, if_pos (by simpa using ⟨h.1, h.2.symm⟩), ← ih]
      congr 1
      rw [List.tail_reverse, List.dropLast_reverse, List.tail_dropLast]
    · rw [if_neg h, if_neg (by simpa using fun h1 h2 => h ⟨h1, h2.symm⟩)]
theorem KK_reverse (L : List Int) : Rot2 (KK true L).reverse (KK true L.reverse) := by
  unfold KK cor
  rw [fr_reverse, core_reverse, List.length_reverse]
  obtain ⟨p, Q⟩ := core (fr L).length true (fr L)
  cases p
  · match Q with
    | [] => exact Rot2.refl _
    | [x] => exact Rot2.refl _
    | x :: y :: r =>
      obtain ⟨M, z, hM⟩ : ∃ M z, y :: r = M ++ [z] := ⟨_, _, (List.dropLast_concat_getLast (by simp)).symm⟩
      rw [hM]
      exact ⟨[x, z], M.reverse, by simp [outP, rotL], by simp [outP, rotL], by simp⟩
  · exact Rot2.refl _
end

section
theorem cmpL_refl : ∀ A : List Int, cmpL A A = 0
  | [] => rfl
  | x :: xs => by rw [cmpL, if_pos rfl]; exact cmpL_refl xs
theorem cmpL_neg : ∀ A B : List Int, A.length = B.length → cmpL B A = - cmpL A B
  | [], [], _ => rfl
  | [], _ :: _, h => by simp at h
  | _ :: _, [], h => by simp at h
  | x :: xs, y :: ys, h => by
    rw [cmpL, cmpL]
    by_cases e : x = y
    · rw [if_pos e, if_pos e.symm]; exact cmpL_neg xs ys (by simpa using h)
    · rw [if_neg e, if_neg (fun h => e h.symm)]; omega
theorem cmpL_trans : ∀ A B C : List Int, A.length = B.length → B.length = C.length → cmpL A B ≤ 0 → cmpL B C ≤ 0 → cmpL A C ≤ 0
  | [], _, _, _, _, _, _ => by rw [cmpL_nil]; omega
  | _ :: _, [], _, h, _, _, _ => by simp at h
  | _ :: _, _ :: _, [], _, h, _, _ => by simp at h
  | x :: xs, y :: ys, z :: zs, h1, h2, h3, h4 => by
    rw [cmpL] at h3 h4 ⊢
    have ih := cmpL_trans xs ys zs (by simpa using h1) (by simpa using h2)
    by_cases e1 : x = y
    · subst e1
      rw [if_pos rfl] at h3
      by_cases e2 : x = z
      · subst e2; rw [if_pos rfl] at h4 ⊢; exact ih h3 h4
      · rw [if_neg e2] at h4 ⊢; exact h4
    · rw [if_neg e1] at h3
      by_cases e2 : y = z
      · subst e2; rw [if_neg e1]; exact h3
      · rw [if_neg e2] at h4; rw [if_neg (by omega)]; omega
theorem cmpL_eq : ∀ A B : List Int, A.length = B.length → cmpL A B = 0 → A = B
  | [], [], _, _ => rfl
  | [], _ :: _, h, _ => by simp at h
  | _ :: _, [], h, _ => by simp at h
  | x :: xs, y :: ys, h, k => by
    rw [cmpL] at k
    by_cases e : x = y
    · rw [if_pos e] at k; rw [e, cmpL_eq xs ys (by simpa using h) k]
    · rw [if_neg e] at k; omega
theorem cmpS_neg : ∀ A B : List Int, A.length = B.length → (cmpS A B < 0 ↔ cmpL A B < 0)
  | [], [], _ => Iff.rfl
  | [], _ :: _, h => by simp at h
  | _ :: _, [], h => by simp at h
  | x :: xs, y :: ys, h => by
    rw [cmpS, cmpL]
    by_cases e : x = y
    · subst e
      rw [if_neg (by omega), if_neg (by omega), if_pos rfl]; exact cmpS_neg xs ys (by simpa using h)
    · rw [if_neg e]
      by_cases l : x < y
      · rw [if_pos l]; omega
      · rw [if_neg l, if_pos (by omega)]; omega
/-- The lesser one. -/
def bet (A B : List Int) : List Int := if cmpL A B < 0 then A else B
theorem bet_len {A B : List Int} {n : Nat} (h : A.length = n) (k : B.length = n) : (bet A B).length = n := by unfold bet; split <;> assumption
theorem bet_left {A B : List Int} (h : A.length = B.length) : cmpL (bet A B) A ≤ 0 := by
  unfold bet
  split
  · rw [cmpL_refl]; omega
  · rw [cmpL_neg A B h]; omega
theorem bet_right (A B : List Int) : cmpL (bet A B) B ≤ 0 := by
  unfold bet
  split
  · omega
  · rw [cmpL_refl]; omega
theorem bet_or (A B : List Int) : bet A B = A ∨ bet A B = B := by
  unfold bet; split
  · exact .inl rfl
  · exact .inr rfl

/-- An even rotation of a list or of its reverse. -/
def Dih (X Y : List Int) : Prop := Rot2 X Y ∨ Rot2 X.reverse Y
theorem Dih.len {X Y : List Int} (h : Dih X Y) : Y.length = X.length := by
  rcases h with h | h
  · exact h.len
  · have := h.len; simpa using this
theorem dih_rot {X X' Y : List Int} (h : Rot2 X X') (he : X.length % 2 = 0) : Dih X' Y ↔ Dih X Y := by
  have he' : X'.length % 2 = 0 := by rw [h.len]; exact he
  have hr : X.reverse.length % 2 = 0 := by simpa using he
  have hr' : X'.reverse.length % 2 = 0 := by simpa using he'
  constructor
  · rintro (k | k)
    · exact .inl (h.trans k he)
    · exact .inr ((h.reverse he).trans k hr)
  · rintro (k | k)
    · exact .inl ((h.symm he).trans k he')
    · exact .inr (((h.symm he).reverse he').trans k hr')
theorem dih_rev {X Y : List Int} : Dih X.reverse Y ↔ Dih X Y := by
  unfold Dih
  rw [List.reverse_reverse]
  exact Or.comm
/-- The least of them. -/
def IsMin (X M : List Int) : Prop := Dih X M ∧ ∀ Y, Dih X Y → cmpL M Y ≤ 0
theorem isMin_unique {X M M' : List Int} (h : IsMin X M) (k : IsMin X M') : M = M' := by
  have hl : M.length = M'.length := by rw [h.1.len, k.1.len]
  have h1 := h.2 M' k.1
  have h2 := k.2 M h.1
  rw [cmpL_neg M M' hl] at h2
  exact cmpL_eq _ _ hl (by omega)
theorem isMin_congr {X X' M : List Int} (hd : ∀ Y, Dih X' Y ↔ Dih X Y) (h : IsMin X M) : IsMin X' M :=
  ⟨(hd M).2 h.1, fun Y hY => h.2 Y ((hd Y).1 hY)⟩
theorem rot2_cases {X Y : List Int} (he : X.length % 2 = 0) (h : Rot2 X Y) : ∃ j, (2 * j < X.length ∨ j = 0) ∧ Y = rotL X (2 * j) := by
  obtain ⟨U, V, rfl, rfl, hu⟩ := h
  cases V with
  | nil => exact ⟨0, .inr rfl, by simp [rotL]⟩
  | cons v V =>
    refine ⟨U.length / 2, .inl (by simp; omega), ?_⟩
    rw [show 2 * (U.length / 2) = U.length by omega]
    simp [rotL]
theorem rot2_of {X : List Int} {j : Nat} (h : 2 * j ≤ X.length) : Rot2 X (rotL X (2 * j)) :=
  ⟨X.take (2 * j), X.drop (2 * j), (List.take_append_drop _ _).symm, rfl, by rw [List.length_take]; omega⟩
theorem bestTo_even (L : List Int) (k : Nat) : ∃ j, j ≤ k ∧ bestTo L k = 2 * j := by
  induction k with
  | zero => exact ⟨0, Nat.le_refl _, rfl⟩
  | succ k ih =>
    rw [bestTo]
    split
    · exact ⟨k + 1, Nat.le_refl _, rfl⟩
    · obtain ⟨j, h, e⟩ := ih
      exact ⟨j, by omega, e⟩
theorem bestTo_bet (L : List Int) (k : Nat) : rotL L (bestTo L (k + 1)) = bet (rotL L (2 * (k + 1))) (rotL L (bestTo L k)) := by
  rw [bestTo]; unfold bet
  split <;> rfl
theorem bestTo_le_all (L : List Int) (k : Nat) (hk : 2 * k ≤ L.length) : ∀ i, i ≤ k → cmpL (rotL L (bestTo L k)) (rotL L (2 * i)) ≤ 0 := by
  induction k with
  | zero =>
    intro i hi
    obtain rfl : i = 0 := by omega
    rw [show bestTo L 0 = 2 * 0 from rfl, cmpL_refl]; omega
  | succ k ih =>
    intro i hi
    rw [bestTo_bet]
    have l1 : (rotL L (2 * (k + 1))).length = L.length := rotL_len _ _ hk
    have hb := bestTo_le L k
    have l2 : (rotL L (bestTo L k)).length = L.length := rotL_len _ _ (by omega)
    by_cases e : i = k + 1
    · subst e
      exact bet_left (by rw [l1, l2])
    · have l3 : (rotL L (2 * i)).length = L.length := rotL_len _ _ (by omega)
      exact cmpL_trans _ _ _ (by rw [bet_len l1 l2, l2]) (by rw [l2, l3]) (bet_right _ _) (ih (by omega) i (by omega))
theorem leastL_spec {L : List Int} (hL : L ≠ []) (he : L.length % 2 = 0) : Rot2 L (leastL L) ∧ ∀ Y, Rot2 L Y → cmpL (leastL L) Y ≤ 0 := by
  have hpos : 0 < L.length := List.length_pos_iff.2 hL
  constructor
  · obtain ⟨j, hj, e⟩ := bestTo_even L ((L.length - 1) / 2)
    unfold leastL
    rw [e]
    exact rot2_of (by omega)
  · intro Y hY
    obtain ⟨j, hj, rfl⟩ := rot2_cases he hY
    exact bestTo_le_all L _ (by omega) j (by omega)
/-- What line.normal makes of a reduced word. -/
def bestL (r : List Int) : List Int :=
  if r = [] then [] else if cmpS (leastL r.reverse) (leastL r) < 0 then leastL r.reverse else leastL r
theorem normalL_best (L : List Int) : normalL L = bestL (reduceL L) := rfl
theorem dih_nil {Y : List Int} (h : Dih [] Y) : Y = [] := List.eq_nil_of_length_eq_zero h.len
theorem bestL_isMin {r : List Int} (he : r.length % 2 = 0) : IsMin r (bestL r) := by
  by_cases h0 : r = []
  · subst h0
    refine ⟨.inl (Rot2.refl _), fun Y hY => ?_⟩
    rw [dih_nil hY]
    exact Int.le_refl _
  · have h0' : r.reverse ≠ [] := by simpa using h0
    obtain ⟨a1, a2⟩ := leastL_spec h0 he
    obtain ⟨b1, b2⟩ := leastL_spec h0' (by simpa using he)
    have la := a1.len
    have lb : (leastL r.reverse).length = r.length := by rw [b1.len]; simp
    have e : bestL r = bet (leastL r.reverse) (leastL r) := by
      unfold bestL bet
      rw [if_neg h0]
      by_cases hc : cmpL (leastL r.reverse) (leastL r) < 0
      · rw [if_pos hc, if_pos ((cmpS_neg _ _ (by rw [la, lb])).2 hc)]
      · rw [if_neg hc, if_neg (fun h => hc ((cmpS_neg _ _ (by rw [la, lb])).1 h))]
    rw [e]
    have lbt := bet_len lb la
    constructor
    · rcases bet_or (leastL r.reverse) (leastL r) with h | h <;> rw [h]
      · exact .inr b1
      · exact .inl a1
    · rintro Y (hY | hY)
      · exact cmpL_trans _ _ _ (by rw [lbt, la]) (by rw [la, hY.len]) (bet_right _ _) (a2 Y hY)
      · exact cmpL_trans _ _ _ (by rw [lbt, lb]) (by rw [lb, hY.len]; simp) (bet_left (by rw [la, lb])) (b2 Y hY)
theorem bestL_rot {X Y : List Int} (h : Rot2 X Y) (he : X.length % 2 = 0) : bestL X = bestL Y :=
  isMin_unique (isMin_congr (fun _ => dih_rot h he) (bestL_isMin he)) (bestL_isMin (by rw [h.len]; exact he))
theorem bestL_rev {X : List Int} (he : X.length % 2 = 0) : bestL X.reverse = bestL X :=
  isMin_unique (bestL_isMin (by simpa using he)) (isMin_congr (fun _ => dih_rev) (bestL_isMin he))

/-- What ref.Normal makes of a reduced word, behind k rounds. -/
def refTo (X : List Int) : Nat → List Int
  | 0 => X
  | k + 1 => bet (rotL X.reverse (2 * k)) (bet (rotL X (2 * k)) (refTo X k))
theorem refTo_len (X : List Int) (k : Nat) (hk : 2 * k ≤ X.length + 1) : (refTo X k).length = X.length := by
  induction k with
  | zero => rfl
  | succ k ih =>
    rw [refTo]
    exact bet_len (by rw [rotL_len _ _ (by simp; omega)]; simp) (bet_len (rotL_len _ _ (by omega)) (ih (by omega)))
theorem refTo_dih (X : List Int) (k : Nat) (hk : 2 * k ≤ X.length + 1) : Dih X (refTo X k) := by
  induction k with
  | zero => exact .inl (Rot2.refl _)
  | succ k ih =>
    rw [refTo]
    rcases bet_or (rotL X.reverse (2 * k)) (bet (rotL X (2 * k)) (refTo X k)) with h | h <;> rw [h]
    · exact .inr (rot2_of (by simp; omega))
    · rcases bet_or (rotL X (2 * k)) (refTo X k) with h | h <;> rw [h]
      · exact .inl (rot2_of (by omega))
      · exact ih (by omega)
theorem refTo_le (X : List Int) (k : Nat) (hk : 2 * k ≤ X.length + 1) : ∀ i, i < k → cmpL (refTo X k) (rotL X (2 * i)) ≤ 0 ∧ cmpL (refTo X k) (rotL X.reverse (2 * i)) ≤ 0 := by
  induction k with
  | zero => intro i hi; omega
  | succ k ih =>
    intro i hi
    rw [refTo]
    have l1 : (rotL X (2 * k)).length = X.length := rotL_len _ _ (by omega)
    have l2 : (rotL X.reverse (2 * k)).length = X.length := by rw [rotL_len _ _ (by simp; omega)]; simp
    have l3 := refTo_len X k (by omega)
    have l4 := bet_len l1 l3
    have l5 := bet_len l2 l4
    have s1 := bet_right (rotL X.reverse (2 * k)) (bet (rotL X (2 * k)) (refTo X k))
    by_cases e : i = k
    · subst e
      exact ⟨cmpL_trans _ _ _ (by rw [l5, l4]) (by rw [l4, l1]) s1 (bet_left (by rw [l1, l3])), bet_left (by rw [l2, l4])⟩
    · have s2 := cmpL_trans _ _ _ (by rw [l5, l4]) (by rw [l4, l3]) s1 (bet_right _ _)
      obtain ⟨i1, i2⟩ := ih (by omega) i (by omega)
      exact ⟨cmpL_trans _ _ _ (by rw [l5, l3]) (by rw [l3, rotL_len _ _ (by omega)]) s2 i1, cmpL_trans _ _ _ (by rw [l5, l3]) (by rw [l3, rotL_len _ _ (by simp; omega)]; simp) s2 i2⟩
theorem refTo_isMin {X : List Int} (he : X.length % 2 = 0) : IsMin X (refTo X (X.length / 2)) := by
  refine ⟨refTo_dih X _ (by omega), fun Y hY => ?_⟩
  by_cases h0 : X = []
  · subst h0
    rw [dih_nil hY]
    exact Int.le_refl _
  · have hpos : 0 < X.length := List.length_pos_iff.2 h0
    rcases hY with hY | hY
    · obtain ⟨j, hj, rfl⟩ := rot2_cases he hY
      exact (refTo_le X _ (by omega) j (by omega)).1
    · obtain ⟨j, hj, rfl⟩ := rot2_cases (by simpa using he) hY
      rw [List.length_reverse] at hj
      exact (refTo_le X _ (by omega) j (by omega)).2
theorem refTo_best {X : List Int} (he : X.length % 2 = 0) : refTo X (X.length / 2) = bestL X := isMin_unique (refTo_isMin he) (bestL_isMin he)

/-- Two lists stand for one curve. -/
inductive Eqv : List Int → List Int → Prop
  | refl (x : List Int) : Eqv x x
  | symm {x y : List Int} : Eqv x y → Eqv y x
  | trans {x y z : List Int} : Eqv x y → Eqv y z → Eqv x z
  | del (u : List Int) (g : Int) (v : List Int) : Eqv (u ++ g :: g :: v) (u ++ v)
  | rot (u v : List Int) : u.length % 2 = 0 → Eqv (u ++ v) (v ++ u)
  | rev (x : List Int) : Eqv x x.reverse
theorem Eqv.len {x y : List Int} (h : Eqv x y) : x.length % 2 = y.length % 2 := by
  induction h with
  | refl => rfl
  | symm _ ih => exact ih.symm
  | trans _ _ h1 h2 => exact h1.trans h2
  | del u g v => simp; omega
  | rot u v _ => simp; omega
  | rev x => simp
theorem Eqv.normal {x y : List Int} (h : Eqv x y) : x.length % 2 = 0 → normalL x = normalL y := by
  induction h with
  | refl => intro _; rfl
  | symm h ih => intro he; exact (ih (by rw [h.len]; exact he)).symm
  | trans h _ h1 h2 => intro he; exact (h1 he).trans (h2 (by rw [← h.len]; exact he))
  | del u g v =>
    intro _
    rw [normalL_best, normalL_best, reduceL_KK, reduceL_KK]
    unfold KK
    rw [fr_del]
  | rot u v hu =>
    intro he
    rw [normalL_best, normalL_best, reduceL_KK, reduceL_KK]
    exact bestL_rot (KK_rot true (u.length / 2) u v (by omega) he) ((KK_len _ _).trans he)
  | rev x =>
    intro he
    rw [normalL_best, normalL_best, reduceL_KK, reduceL_KK]
    have hk := (KK_len true x).trans he
    rw [← bestL_rot (KK_reverse x) (by simpa using hk), bestL_rev hk]
theorem Eqv.of_rot2 {x y : List Int} (h : Rot2 x y) : Eqv x y := by
  obtain ⟨u, v, rfl, rfl, hu⟩ := h
  exact Eqv.rot u v hu
theorem Eqv.of_dih {x y : List Int} (h : Dih x y) : Eqv x y := by
  rcases h with h | h
  · exact Eqv.of_rot2 h
  · exact (Eqv.rev x).trans (Eqv.of_rot2 h)
theorem eqv_fr : ∀ (L u : List Int), Eqv (u ++ L) (u ++ fr L)
  | [], u => Eqv.refl _
  | a :: r, u => by
    have ih := eqv_fr r (u ++ [a])
    rw [List.append_assoc, List.append_assoc] at ih
    refine Eqv.trans ih ?_
    show Eqv (u ++ a :: fr r) (u ++ lpush a (fr r))
    cases h : fr r with
    | nil => exact Eqv.refl _
    | cons x s =>
      by_cases e : x = a
      · subst e
        rw [show lpush x (x :: s) = s by simp [lpush]]
        exact Eqv.del u x s
      · rw [show lpush a (x :: s) = a :: x :: s by simp [lpush, e]]
        exact Eqv.refl _
theorem eqv_core (f : Nat) : ∀ (b : Bool) (P : List Int), P.length % 2 = 0 → Eqv (outP (b, P)) (outP (core f b P)) := by
  induction f with
  | zero => intro b P _; exact Eqv.refl _
  | succ f ih =>
    intro b P he
    rw [core]
    by_cases h : 1 < P.length ∧ P.head? = P.getLast?
    · rw [if_pos h]
      refine Eqv.trans ?_ (ih (!b) P.tail.dropLast (by simp; omega))
      obtain ⟨h1, h2⟩ := h
      match P with
      | [] => simp at h1
      | [_] => simp at h1
      | x :: y :: r =>
        obtain ⟨Q, z, hQ⟩ : ∃ Q z, y :: r = Q ++ [z] := ⟨_, _, (List.dropLast_concat_getLast (by simp)).symm⟩
        rw [hQ] at h2 he ⊢
        have hz : x = z := by
          rw [last_cs] at h2
          exact Option.some.inj h2
        subst hz
        have ht : (x :: (Q ++ [x])).tail.dropLast = Q := by simp
        rw [ht]
        cases b
        · have e1 : outP (false, x :: (Q ++ [x])) = Q ++ x :: x :: [] := by simp [outP, rotL]
          have e2 : outP (!false, Q) = Q ++ [] := by simp [outP]
          rw [e1, e2]
          exact Eqv.del Q x []
        · cases Q with
          | nil => exact Eqv.del [] x []
          | cons q Q' =>
            have e1 : outP (true, x :: (q :: Q' ++ [x])) = [x, q] ++ (Q' ++ [x]) := by simp [outP]
            have e2 : outP (!true, q :: Q') = Q' ++ [q] := by simp [outP, rotL]
            rw [e1, e2]
            refine (Eqv.rot [x, q] (Q' ++ [x]) (by simp)).trans ?_
            have := Eqv.del Q' x [q]
            simpa using this
    · rw [if_neg h]
      exact Eqv.refl _
theorem eqv_reduceL {L : List Int} (he : L.length % 2 = 0) : Eqv L (reduceL L) := by
  rw [reduceL_KK]
  have h1 := eqv_fr L []
  have h2 := eqv_core (fr L).length true (fr L) (by rw [fr_len]; exact he)
  exact h1.trans h2
theorem eqv_normalL {L : List Int} (he : L.length % 2 = 0) : Eqv L (normalL L) :=
  (eqv_reduceL he).trans (Eqv.of_dih (bestL_isMin (by rw [reduceL_KK, KK_len]; exact he)).1)
theorem Eqv.map {x y : List Int} (h : Eqv x y) (f : Int → Int) : Eqv (x.map f) (y.map f) := by
  induction h with
  | refl => exact Eqv.refl _
  | symm _ ih => exact ih.symm
  | trans _ _ h1 h2 => exact h1.trans h2
  | del u g v => simpa using Eqv.del (u.map f) (f g) (v.map f)
  | rot u v hu => simpa using Eqv.rot (u.map f) (v.map f) (by simpa using hu)
  | rev x => simpa using Eqv.rev (x.map f)
theorem normalL_map {L : List Int} (f : Int → Int) (he : L.length % 2 = 0) : normalL ((normalL L).map f) = normalL (L.map f) :=
  (((eqv_normalL he).map f).normal (by simpa using he)).symm

/-- No letter is equal to its neighbour behind it, cyclically. -/
theorem reduceL_of_red {r : List Int} (he : r.length % 2 = 0) (hr : RedP r) (hc : 0 < r.length → r.head? ≠ r.getLast?) : reduceL r = r := by
  have hf : fr r = r := by
    clear he hc
    induction r with
    | nil => rfl
    | cons a r ih =>
      rw [fr, ih hr.tail]
      cases r with
      | nil => rfl
      | cons b s =>
        have hab : ¬ b = a := fun e => hr.1 e.symm
        simp [lpush, hab]
  rw [reduceL_KK]
  unfold KK
  rw [hf, cor_stop (fun h => hc (by omega) h.2)]
  rfl
end
end Go.Proofs.YtkjcmppaapbabaaDoor
