/-
  Plain: lists that differ by pairs of equal neighbours, by an even rotation or by the direction have one normal form. No program in sight.
-/
import Derived.Test.YtpdkonpnhalecaaDoorP2
namespace Go.Proofs.YtpdkonpnhalecaaDoor
/-- A letter comes ahead of a list without equal neighbours. -/
def lpush (a : Int) : List Int → List Int
  | [] => [a]
  | x :: r => if x = a then r else a :: x :: r
/-- A letter comes behind it. -/
def rpush (P : List Int) (b : Int) : List Int := if P.getLast? = some b then P.dropLast else P ++ [b]
def fr : List Int → List Int
  | [] => []
  | a :: r => lpush a (fr r)
/-- No two neighbours are equal. -/
def RedP : List Int → Prop
  | a :: b :: r => a ≠ b ∧ RedP (b :: r)
  | _ => True
theorem RedP.tail {a : Int} {r : List Int} (h : RedP (a :: r)) : RedP r := by
  cases r with
  | nil => trivial
  | cons b r => exact h.2
theorem redP_lpush {P : List Int} (h : RedP P) (a : Int) : RedP (lpush a P) := by
  cases P with
  | nil => trivial
  | cons x r =>
    by_cases e : x = a
    · rw [show lpush a (x :: r) = r by simp [lpush, e]]
      exact h.tail
    · rw [show lpush a (x :: r) = a :: x :: r by simp [lpush, e]]
      exact ⟨fun h => e h.symm, h⟩
theorem redP_fr (L : List Int) : RedP (fr L) := by
  induction L with
  | nil => trivial
  | cons a r ih => exact redP_lpush ih a
theorem redP_last : ∀ {Q : List Int} {y z : Int}, RedP (Q ++ [y, z]) → y ≠ z
  | [], _, _, h => h.1
  | _ :: Q, _, _, h => redP_last (Q := Q) (RedP.tail h)
theorem lpush_lpush {P : List Int} (h : RedP P) (a : Int) : lpush a (lpush a P) = P := by
  cases P with
  | nil => simp [lpush]
  | cons x r =>
    by_cases e : x = a
    · subst e
      cases r with
      | nil => simp [lpush]
      | cons y s =>
        have := h.1
        simp [lpush, show ¬ y = x from fun e => this e.symm]
    · simp [lpush, e]
theorem fr_del (u : List Int) (g : Int) (v : List Int) : fr (u ++ g :: g :: v) = fr (u ++ v) := by
  induction u with
  | nil => exact lpush_lpush (redP_fr v) g
  | cons a u ih => exact congrArg (lpush a) ih
theorem rpush_cons (x y : Int) (r : List Int) (b : Int) : rpush (x :: y :: r) b = x :: rpush (y :: r) b := by
  unfold rpush
  rw [List.getLast?_cons_cons, List.dropLast_cons_cons]
  split <;> rfl
theorem rpush_snoc (Q : List Int) (z b : Int) : rpush (Q ++ [z]) b = if z = b then Q else Q ++ [z, b] := by
  unfold rpush
  simp
theorem lpush_rpush (P : List Int) (a b : Int) : rpush (lpush a P) b = lpush a (rpush P b) := by
  match P with
  | [] =>
    by_cases e : a = b
    · subst e; simp [lpush, rpush]
    · simp [lpush, rpush, e, show ¬ b = a from fun h => e h.symm]
  | [x] =>
    by_cases e : x = a
    · subst e
      by_cases e2 : x = b
      · subst e2; simp [lpush, rpush]
      · simp [lpush, rpush, e2]
    · by_cases e2 : x = b
      · subst e2; simp [lpush, rpush, e]
      · simp [lpush, rpush, e, e2]
  | x :: y :: r =>
    rw [rpush_cons]
    by_cases e : x = a
    · subst e; simp [lpush]
    · simp only [lpush, if_neg e]
      rw [rpush_cons, rpush_cons]
theorem fr_snoc (w : List Int) (b : Int) : fr (w ++ [b]) = rpush (fr w) b := by
  induction w with
  | nil => simp [fr, rpush, lpush]
  | cons a w ih =>
    show lpush a (fr (w ++ [b])) = rpush (lpush a (fr w)) b
    rw [ih, lpush_rpush]
theorem lpush_len (a : Int) (P : List Int) : (lpush a P).length % 2 = (P.length + 1) % 2 := by
  cases P with
  | nil => rfl
  | cons x r =>
    by_cases e : x = a
    · rw [show lpush a (x :: r) = r by simp [lpush, e], List.length_cons]; omega
    · rw [show lpush a (x :: r) = a :: x :: r by simp [lpush, e], List.length_cons]
theorem fr_len (L : List Int) : (fr L).length % 2 = L.length % 2 := by
  induction L with
  | nil => rfl
  | cons a r ih => rw [fr, lpush_len, List.length_cons]; omega
theorem rpush_reverse (a : Int) (P : List Int) : rpush P.reverse a = (lpush a P).reverse := by
  cases P with
  | nil => simp [rpush, lpush]
  | cons x r =>
    rw [List.reverse_cons, rpush_snoc]
    by_cases e : x = a
    · rw [show lpush a (x :: r) = r by simp [lpush, e], if_pos e]
    · rw [show lpush a (x :: r) = a :: x :: r by simp [lpush, e], if_neg e]; simp
theorem fr_reverse (L : List Int) : fr L.reverse = (fr L).reverse := by
  induction L with
  | nil => rfl
  | cons a r ih => rw [List.reverse_cons, fr_snoc, ih, rpush_reverse]; rfl

/-- The letters with their directions, one by one. -/
def marked : Bool → List Int → List (Int × Bool)
  | _, [] => []
  | b, g :: r => (g, b) :: marked (!b) r
theorem marked_len (b : Bool) (P : List Int) : (marked b P).length = P.length := by
  induction P generalizing b with
  | nil => rfl
  | cons g r ih => simp [marked, ih]
theorem marked_fst (b : Bool) (P : List Int) : (marked b P).map (·.1) = P := by
  induction P generalizing b with
  | nil => rfl
  | cons g r ih => simp [marked, ih]
theorem marked_snoc (b : Bool) (P : List Int) (g : Int) : marked b (P ++ [g]) = marked b P ++ [(g, if P.length % 2 = 0 then b else !b)] := by
  induction P generalizing b with
  | nil => rfl
  | cons x r ih =>
    simp only [List.cons_append, marked, ih, List.length_cons]
    rcases Nat.mod_two_eq_zero_or_one r.length with h | h
    · rw [if_pos h, if_neg (by omega)]
    · rw [if_neg (by omega), if_pos (by omega)]; simp
theorem marked_dropLast (b : Bool) (P : List Int) : (marked b P).dropLast = marked b P.dropLast := by
  induction P generalizing b with
  | nil => rfl
  | cons x r ih =>
    cases r with
    | nil => rfl
    | cons y s =>
      have := ih (!b)
      simp only [marked, List.dropLast_cons_cons] at this ⊢
      rw [this]
theorem marked_getLast (b : Bool) (P : List Int) : (marked b P).getLast?.map (·.1) = P.getLast? := by rw [← List.getLast?_map, marked_fst]
theorem marked_head (b : Bool) (P : List Int) : (marked b P).head?.map (·.1) = P.head? := by rw [← List.head?_map, marked_fst]
theorem marked_tail (b : Bool) (P : List Int) : (marked b P).tail = marked (!b) P.tail := by cases P <;> rfl
theorem stackTo_fr (L : List Int) (k : Nat) (hk : k ≤ L.length) : stackTo L k = marked true (fr (L.take k)) := by
  induction k with
  | zero => simp [stackTo, fr, marked]
  | succ k ih =>
    have hx : L[k]? = some (L[k]'(by omega)) := List.getElem?_eq_getElem _
    obtain ⟨x, hxe⟩ : ∃ x, L[k]'(by omega) = x := ⟨_, rfl⟩
    rw [hxe] at hx
    rw [stackTo_succ hx, ih (by omega), List.take_add_one, hx]
    show pushS _ _ _ = marked true (fr (L.take k ++ [x]))
    rw [fr_snoc]
    have hl := fr_len (L.take k)
    rw [List.length_take, Nat.min_eq_left (by omega)] at hl
    unfold pushS rpush
    rw [marked_getLast]
    split
    · rw [marked_dropLast]
    · rw [marked_snoc]
      congr 3
      by_cases h2 : k % 2 = 0
      · rw [if_pos (by omega)]; simp [h2]
      · rw [if_neg (by omega)]; simp [h2]

/-- Both ends are taken away as long as they are equal; the direction of the first letter changes each time. -/
def core : Nat → Bool → List Int → Bool × List Int
  | 0, b, P => (b, P)
  | f + 1, b, P => if 1 < P.length ∧ P.head? = P.getLast? then core f (!b) P.tail.dropLast else (b, P)
theorem core_more (f : Nat) : ∀ (b : Bool) (P : List Int), P.length ≤ 2 * f + 1 → core (f + 1) b P = core f b P := by
  induction f with
  | zero => intro b P h; unfold core; rw [if_neg (by omega)]
  | succ f ih =>
    intro b P h
    rw [core]
    conv => rhs; rw [core]
    split
    · rw [ih]; simp; omega
    · rfl
def cor (b : Bool) (P : List Int) : Bool × List Int := core P.length b P
theorem core_eq (f : Nat) (b : Bool) (P : List Int) (h : P.length ≤ f) : core f b P = cor b P := by
  induction f with
  | zero => have : P.length = 0 := by omega
            unfold cor; rw [this]
  | succ f ih =>
    by_cases e : P.length = f + 1
    · unfold cor; rw [e]
    · rw [core_more f b P (by omega), ih (by omega)]
theorem cor_step {b : Bool} {P : List Int} (h : 1 < P.length ∧ P.head? = P.getLast?) : cor b P = cor (!b) P.tail.dropLast := by
  unfold cor
  obtain ⟨n, hn⟩ : ∃ n, P.length = n + 1 := ⟨P.length - 1, by omega⟩
  rw [hn, core, if_pos h]
  rw [core_eq _ _ _ (by simp; omega)]
  rfl
theorem cor_stop {b : Bool} {P : List Int} (h : ¬ (1 < P.length ∧ P.head? = P.getLast?)) : cor b P = (b, P) := by
  unfold cor
  cases hn : P.length with
  | zero => rfl
  | succ n => rw [core, if_neg h]
theorem trimF_marked (f : Nat) : ∀ (b : Bool) (P : List Int), trimF f (marked b P) = marked (core f b P).1 (core f b P).2 := by
  induction f with
  | zero => intro b P; rfl
  | succ f ih =>
    intro b P
    rw [trimF, core, marked_len, marked_head, marked_getLast]
    split
    · rw [marked_tail, marked_dropLast, ih]
    · rfl
/-- It begins with a letter that goes down. -/
def outP (c : Bool × List Int) : List Int := if c.1 then c.2 else rotL c.2 1
theorem turnS_marked (b : Bool) (Q : List Int) : (turnS (marked b Q)).map (·.1) = outP (b, Q) := by
  cases Q with
  | nil => cases b <;> rfl
  | cons x r =>
    cases b
    · show ((marked true r) ++ [(x, false)]).map (·.1) = rotL (x :: r) 1
      rw [List.map_append, marked_fst]
      rfl
    · show ((x, true) :: marked false r).map (·.1) = x :: r
      rw [List.map_cons, marked_fst]
def KK (b : Bool) (L : List Int) : List Int := outP (cor b (fr L))
theorem reduceL_KK (L : List Int) : reduceL L = KK true L := by
  unfold reduceL KK trimS
  rw [stackTo_fr L L.length (Nat.le_refl _), List.take_length, trimF_marked, turnS_marked, marked_len]
  rfl
theorem core_len (f : Nat) : ∀ (b : Bool) (P : List Int), (core f b P).2.length % 2 = P.length % 2 := by
  induction f with
  | zero => intro b P; rfl
  | succ f ih =>
    intro b P
    rw [core]
    split
    · rw [ih]; simp; omega
    · rfl
theorem outP_len (c : Bool × List Int) : (outP c).length = c.2.length := by
  unfold outP
  split
  · rfl
  · rcases Nat.eq_zero_or_pos c.2.length with h | h
    · have := List.eq_nil_of_length_eq_zero h
      rw [this]; rfl
    · exact rotL_len _ _ h
theorem KK_len (b : Bool) (L : List Int) : (KK b L).length % 2 = L.length % 2 := by
  unfold KK cor
  rw [outP_len, core_len, fr_len]

/-- An even rotation. -/
def Rot2 (X Y : List Int) : Prop := ∃ U V, X = U ++ V ∧ Y = V ++ U ∧ U.length % 2 = 0
theorem Rot2.refl (X : List Int) : Rot2 X X := ⟨[], X, rfl, by simp, rfl⟩
theorem Rot2.len {X Y : List Int} (h : Rot2 X Y) : Y.length = X.length := by
  obtain ⟨U, V, rfl, rfl, _⟩ := h
  simp; omega
theorem Rot2.symm {X Y : List Int} (h : Rot2 X Y) (he : X.length % 2 = 0) : Rot2 Y X := by
  obtain ⟨U, V, rfl, rfl, hu⟩ := h
  rw [List.length_append] at he
  exact ⟨V, U, rfl, rfl, by omega⟩
theorem Rot2.trans {X Y Z : List Int} (h : Rot2 X Y) (k : Rot2 Y Z) (he : X.length % 2 = 0) : Rot2 X Z := by
  obtain ⟨U, V, rfl, rfl, hu⟩ := h
  obtain ⟨U', V', e, rfl, hu'⟩ := k
  rw [List.length_append] at he
  rcases List.append_eq_append_iff.1 e with ⟨W, h1, h2⟩ | ⟨W, h1, h2⟩
  · -- U' = V ++ W, U = W ++ V'
    subst h1; subst h2
    exact ⟨W, V' ++ V, by simp, by simp, by simp at hu' hu he ⊢; omega⟩
  · -- V = U' ++ W, V' = W ++ U
    subst h1; subst h2
    exact ⟨U ++ U', W, by simp, by simp, by simp at hu' hu he ⊢; omega⟩
theorem Rot2.reverse {X Y : List Int} (h : Rot2 X Y) (he : X.length % 2 = 0) : Rot2 X.reverse Y.reverse := by
  obtain ⟨U, V, rfl, rfl, hu⟩ := h
  rw [List.length_append] at he
  exact ⟨V.reverse, U.reverse, by simp, by simp, by simp; omega⟩

theorem last_cs (x : Int) (M : List Int) (z : Int) : (x :: (M ++ [z])).getLast? = some z := by rw [← List.cons_append]; exact List.getLast?_concat
theorem drop_cs (x : Int) (M : List Int) (z : Int) : (x :: (M ++ [z])).dropLast = x :: M := by rw [← List.cons_append]; exact List.dropLast_concat
theorem two_snoc (M : List Int) (y z : Int) : M ++ [y, z] = (M ++ [y]) ++ [z] := by simp
/-- A letter that moves from the front to the end changes every direction. -/
theorem conj_P (b : Bool) (a : Int) {P : List Int} (h : RedP P) (he : (lpush a P).length % 2 = 0) : Rot2 (outP (cor b (lpush a P))) (outP (cor (!b) (rpush P a))) := by
  match P with
  | [] => simp [lpush] at he
  | [x] =>
    by_cases e : x = a
    · subst e
      simp only [lpush, rpush, if_true, List.getLast?_singleton, List.dropLast_singleton]
      rw [cor_stop (by simp), cor_stop (by simp)]
      cases b <;> exact Rot2.refl _
    · have h1 : lpush a [x] = [a, x] := by simp [lpush, e]
      have h2 : rpush [x] a = [x, a] := by simp [rpush, e]
      rw [h1, h2, cor_stop (by simp; exact fun h => e h.symm), cor_stop (by simp; exact e)]
      cases b <;> exact Rot2.refl _
  | x :: y :: r =>
    obtain ⟨M, z, hM⟩ : ∃ M z, y :: r = M ++ [z] := ⟨_, _, (List.dropLast_concat_getLast (by simp)).symm⟩
    rw [hM] at h he ⊢
    have hR : rpush (x :: (M ++ [z])) a = if z = a then x :: M else x :: M ++ [z, a] := by
      rw [← List.cons_append, rpush_snoc]
    have hLp : lpush a (x :: (M ++ [z])) = if x = a then M ++ [z] else a :: x :: (M ++ [z]) := rfl
    rw [hLp] at he
    rw [hR, hLp]
    by_cases e1 : x = a
    · subst e1
      rw [if_pos rfl] at he ⊢
      by_cases e2 : z = x
      · subst e2
        rw [if_pos rfl]
        cases M with
        | nil => exact absurd rfl h.1
        | cons m M' =>
          have hm : z ≠ m := h.1
          have hs1 : cor b (m :: M' ++ [z]) = (b, m :: M' ++ [z]) := cor_stop (fun hh => hm (by have := hh.2; rw [List.cons_append, last_cs] at this; exact (Option.some.inj this).symm))
          have hs2 : cor (!b) (z :: m :: M') = (!b, z :: m :: M') := by
            refine cor_stop fun ⟨_, hh⟩ => ?_
            obtain ⟨Q, y', hQ⟩ : ∃ Q y', m :: M' = Q ++ [y'] := ⟨_, _, (List.dropLast_concat_getLast (by simp)).symm⟩
            rw [hQ] at h hh
            have h' : RedP ((z :: Q) ++ [y', z]) := by simpa using h
            have := redP_last h'
            rw [← List.cons_append, List.getLast?_concat] at hh
            exact this (Option.some.inj hh).symm
          rw [hs1, hs2]
          cases b
          · refine ⟨M', [z, m], ?_, ?_, ?_⟩
            · simp [outP, rotL]
            · simp [outP]
            · simp at he; omega
          · have : outP (!true, z :: m :: M') = outP (true, m :: M' ++ [z]) := by simp [outP, rotL]
            rw [this]
            exact Rot2.refl _
      · rw [if_neg e2]
        have hst : cor (!b) (x :: (M ++ [z, x])) = cor b (M ++ [z]) := by
          rw [two_snoc, cor_step ⟨by simp, by rw [last_cs]; rfl⟩, Bool.not_not]
          congr 1
          exact List.dropLast_concat
        rw [List.cons_append, hst]
        exact Rot2.refl _
    · rw [if_neg e1] at he ⊢
      by_cases e2 : z = a
      · subst e2
        rw [if_pos rfl]
        have hst : cor b (z :: x :: (M ++ [z])) = cor (!b) (x :: M) := by
          rw [cor_step ⟨by simp, by rw [← List.cons_append, last_cs]; rfl⟩]
          congr 1
          exact drop_cs _ _ _
        rw [hst]
        exact Rot2.refl _
      · rw [if_neg e2]
        have hs1 : cor b (a :: x :: (M ++ [z])) = (b, a :: x :: (M ++ [z])) := by
          refine cor_stop fun ⟨_, hh⟩ => ?_
          rw [← List.cons_append, last_cs] at hh
          exact e2 (Option.some.inj hh).symm
        have hs2 : cor (!b) (x :: M ++ [z, a]) = (!b, x :: M ++ [z, a]) := by
          refine cor_stop fun ⟨_, hh⟩ => ?_
          rw [List.cons_append, two_snoc, last_cs] at hh
          exact e1 (Option.some.inj hh)
        rw [hs1, hs2]
        cases b
        · have : outP (false, a :: x :: (M ++ [z])) = outP (!false, x :: M ++ [z, a]) := by simp [outP, rotL]
          rw [this]
          exact Rot2.refl _
        · exact ⟨[a, x], M ++ [z], by simp [outP], by simp [outP, rotL], by simp⟩
theorem KK_conj (b : Bool) (a : Int) (w : List Int) (he : (a :: w).length % 2 = 0) : Rot2 (KK b (a :: w)) (KK (!b) (w ++ [a])) := by
  unfold KK
  rw [fr_snoc]
  exact conj_P b a (redP_fr w) ((fr_len (a :: w)).trans he)
theorem KK_rot (b : Bool) : ∀ (n : Nat) (U V : List Int), U.length = 2 * n → (U ++ V).length % 2 = 0 → Rot2 (KK b (U ++ V)) (KK b (V ++ U)) := by
  intro n
  induction n with
  | zero =>
    intro U V hU _
    have : U = [] := List.eq_nil_of_length_eq_zero (by omega)
    subst this
    simpa using Rot2.refl _
  | succ n ih =>
    intro U V hU he
    match U, hU with
    | [], hU => simp at hU
    | [_], hU => simp at hU; omega
    | x :: y :: U', hU =>
      have h1 := KK_conj b x (y :: U' ++ V) (by simpa using he)
      have h2 := KK_conj (!b) y (U' ++ V ++ [x]) (by simp at he ⊢; omega)
      have h3 := ih U' (V ++ [x, y]) (by simp at hU; omega) (by simp at he ⊢; omega)
      rw [Bool.not_not] at h2
      have e1 : y :: U' ++ V ++ [x] = y :: (U' ++ V ++ [x]) := rfl
      have e2 : U' ++ V ++ [x] ++ [y] = U' ++ (V ++ [x, y]) := by simp
      have e3 : V ++ [x, y] ++ U' = V ++ (x :: y :: U') := by simp
      rw [e1] at h1
      rw [e2] at h2
      rw [e3] at h3
      have l1 := (KK_len b (x :: (y :: U' ++ V))).trans (by simpa using he)
      exact (h1.trans h2 l1).trans h3 l1
theorem core_reverse (f : Nat) : ∀ (b : Bool) (P : List Int), core f b P.reverse = ((core f b P).1, (core f b P).2.reverse) := by
  induction f with
  | zero => intro b P; rfl
  | succ f ih =>
    intro b P
    rw [core, core]
    by_cases h : 1 < P.length ∧ P.head? = P.getLast?
    · rw [if_pos h, if_pos (by simpa using ⟨h.1, h.2.symm⟩), ← ih]
      congr 1
      rw [List.tail_reverse, List.dropLast_reverse, List.tail_dropLast]
    · rw [if_neg h, if_neg (by simpa using fun h1 h2 => h ⟨h1, h2.symm⟩)]
theorem KK_reverse (L : List Int) : Rot2 (KK true L).reverse (KK true L.reverse) := by
  unfold KK cor
  rw [fr_reverse, core_reverse, List.length_reverse]
  obtain ⟨p, Q⟩ := core (fr L).length true (fr L)
  cases p
  · match Q with
    | [] => exact Rot2.refl _
    | [x] => exact Rot2.refl _
    | x :: y :: r =>
      obtain ⟨M, z, hM⟩ : ∃ M z, y :: r = M ++ [z] := ⟨_, _, (List.dropLast_concat_getLast (by simp)).symm⟩
      rw [hM]
      exact ⟨[x, z], M.reverse, by simp [outP, rotL], by simp [outP, rotL], by simp⟩
  · exact Rot2.refl _
end Go.Proofs.YtpdkonpnhalecaaDoor
