/-
  Plain: the normal form is the least even rotation in one of the two directions, and it depends on the curve alone. No program in sight.
-/
import Derived.Test.YtpdkonpnhalecaaDoorP6
namespace Go.Proofs.YtpdkonpnhalecaaDoor
theorem cmpL_refl : ∀ A : List Int, cmpL A A = 0
  | [] => rfl
  | x :: xs => by rw [cmpL, if_pos rfl]; exact cmpL_refl xs
theorem cmpL_neg : ∀ A B : List Int, A.length = B.length → cmpL B A = - cmpL A B
  | [], [], _ => rfl
  | [], _ :: _, h => by simp at h
  | _ :: _, [], h => by simp at h
  | x :: xs, y :: ys, h => by
    rw [cmpL, cmpL]
    by_cases e : x = y
    · rw [if_pos e, if_pos e.symm]; exact cmpL_neg xs ys (by simpa using h)
    · rw [if_neg e, if_neg (fun h => e h.symm)]; omega
theorem cmpL_trans : ∀ A B C : List Int, A.length = B.length → B.length = C.length → cmpL A B ≤ 0 → cmpL B C ≤ 0 → cmpL A C ≤ 0
  | [], _, _, _, _, _, _ => by rw [cmpL_nil]; omega
  | _ :: _, [], _, h, _, _, _ => by simp at h
  | _ :: _, _ :: _, [], _, h, _, _ => by simp at h
  | x :: xs, y :: ys, z :: zs, h1, h2, h3, h4 => by
    rw [cmpL] at h3 h4 ⊢
    have ih := cmpL_trans xs ys zs (by simpa using h1) (by simpa using h2)
    by_cases e1 : x = y
    · subst e1
      rw [if_pos rfl] at h3
      by_cases e2 : x = z
      · subst e2; rw [if_pos rfl] at h4 ⊢; exact ih h3 h4
      · rw [if_neg e2] at h4 ⊢; exact h4
    · rw [if_neg e1] at h3
      by_cases e2 : y = z
      · subst e2; rw [if_neg e1]; exact h3
      · rw [if_neg e2] at h4; rw [if_neg (by omega)]; omega
theorem cmpL_eq : ∀ A B : List Int, A.length = B.length → cmpL A B = 0 → A = B
  | [], [], _, _ => rfl
  | [], _ :: _, h, _ => by simp at h
  | _ :: _, [], h, _ => by simp at h
  | x :: xs, y :: ys, h, k => by
    rw [cmpL] at k
    by_cases e : x = y
    · rw [if_pos e] at k; rw [e, cmpL_eq xs ys (by simpa using h) k]
    · rw [if_neg e] at k; omega
theorem cmpS_neg : ∀ A B : List Int, A.length = B.length → (cmpS A B < 0 ↔ cmpL A B < 0)
  | [], [], _ => Iff.rfl
  | [], _ :: _, h => by simp at h
  | _ :: _, [], h => by simp at h
  | x :: xs, y :: ys, h => by
    rw [cmpS, cmpL]
    by_cases e : x = y
    · subst e
      rw [if_neg (by omega), if_neg (by omega), if_pos rfl]; exact cmpS_neg xs ys (by simpa using h)
    · rw [if_neg e]
      by_cases l : x < y
      · rw [if_pos l]; omega
      · rw [if_neg l, if_pos (by omega)]; omega
/-- The lesser one. -/
def bet (A B : List Int) : List Int := if cmpL A B < 0 then A else B
theorem bet_len {A B : List Int} {n : Nat} (h : A.length = n) (k : B.length = n) : (bet A B).length = n := by unfold bet; split <;> assumption
theorem bet_left {A B : List Int} (h : A.length = B.length) : cmpL (bet A B) A ≤ 0 := by
  unfold bet
  split
  · rw [cmpL_refl]; omega
  · rw [cmpL_neg A B h]; omega
theorem bet_right (A B : List Int) : cmpL (bet A B) B ≤ 0 := by
  unfold bet
  split
  · omega
  · rw [cmpL_refl]; omega
theorem bet_or (A B : List Int) : bet A B = A ∨ bet A B = B := by
  unfold bet; split
  · exact .inl rfl
  · exact .inr rfl

/-- An even rotation of a list or of its reverse. -/
def Dih (X Y : List Int) : Prop := Rot2 X Y ∨ Rot2 X.reverse Y
theorem Dih.len {X Y : List Int} (h : Dih X Y) : Y.length = X.length := by
  rcases h with h | h
  · exact h.len
  · have := h.len; simpa using this
theorem dih_rot {X X' Y : List Int} (h : Rot2 X X') (he : X.length % 2 = 0) : Dih X' Y ↔ Dih X Y := by
  have he' : X'.length % 2 = 0 := by rw [h.len]; exact he
  have hr : X.reverse.length % 2 = 0 := by simpa using he
  have hr' : X'.reverse.length % 2 = 0 := by simpa using he'
  constructor
  · rintro (k | k)
    · exact .inl (h.trans k he)
    · exact .inr ((h.reverse he).trans k hr)
  · rintro (k | k)
    · exact .inl ((h.symm he).trans k he')
    · exact .inr (((h.symm he).reverse he').trans k hr')
theorem dih_rev {X Y : List Int} : Dih X.reverse Y ↔ Dih X Y := by
  unfold Dih
  rw [List.reverse_reverse]
  exact Or.comm
/-- The least of them. -/
def IsMin (X M : List Int) : Prop := Dih X M ∧ ∀ Y, Dih X Y → cmpL M Y ≤ 0
theorem isMin_unique {X M M' : List Int} (h : IsMin X M) (k : IsMin X M') : M = M' := by
  have hl : M.length = M'.length := by rw [h.1.len, k.1.len]
  have h1 := h.2 M' k.1
  have h2 := k.2 M h.1
  rw [cmpL_neg M M' hl] at h2
  exact cmpL_eq _ _ hl (by omega)
theorem isMin_congr {X X' M : List Int} (hd : ∀ Y, Dih X' Y ↔ Dih X Y) (h : IsMin X M) : IsMin X' M :=
  ⟨(hd M).2 h.1, fun Y hY => h.2 Y ((hd Y).1 hY)⟩
theorem rot2_cases {X Y : List Int} (he : X.length % 2 = 0) (h : Rot2 X Y) : ∃ j, (2 * j < X.length ∨ j = 0) ∧ Y = rotL X (2 * j) := by
  obtain ⟨U, V, rfl, rfl, hu⟩ := h
  cases V with
  | nil => exact ⟨0, .inr rfl, by simp [rotL]⟩
  | cons v V =>
    refine ⟨U.length / 2, .inl (by simp; omega), ?_⟩
    rw [show 2 * (U.length / 2) = U.length by omega]
    simp [rotL]
theorem rot2_of {X : List Int} {j : Nat} (h : 2 * j ≤ X.length) : Rot2 X (rotL X (2 * j)) :=
  ⟨X.take (2 * j), X.drop (2 * j), (List.take_append_drop _ _).symm, rfl, by rw [List.length_take]; omega⟩
theorem bestTo_even (L : List Int) (k : Nat) : ∃ j, j ≤ k ∧ bestTo L k = 2 * j := by
  induction k with
  | zero => exact ⟨0, Nat.le_refl _, rfl⟩
  | succ k ih =>
    rw [bestTo]
    split
    · exact ⟨k + 1, Nat.le_refl _, rfl⟩
    · obtain ⟨j, h, e⟩ := ih
      exact ⟨j, by omega, e⟩
theorem bestTo_bet (L : List Int) (k : Nat) : rotL L (bestTo L (k + 1)) = bet (rotL L (2 * (k + 1))) (rotL L (bestTo L k)) := by
  rw [bestTo]; unfold bet
  split <;> rfl
theorem bestTo_le_all (L : List Int) (k : Nat) (hk : 2 * k ≤ L.length) : ∀ i, i ≤ k → cmpL (rotL L (bestTo L k)) (rotL L (2 * i)) ≤ 0 := by
  induction k with
  | zero =>
    intro i hi
    obtain rfl : i = 0 := by omega
    rw [show bestTo L 0 = 2 * 0 from rfl, cmpL_refl]; omega
  | succ k ih =>
    intro i hi
    rw [bestTo_bet]
    have l1 : (rotL L (2 * (k + 1))).length = L.length := rotL_len _ _ hk
    have hb := bestTo_le L k
    have l2 : (rotL L (bestTo L k)).length = L.length := rotL_len _ _ (by omega)
    by_cases e : i = k + 1
    · subst e
      exact bet_left (by rw [l1, l2])
    · have l3 : (rotL L (2 * i)).length = L.length := rotL_len _ _ (by omega)
      exact cmpL_trans _ _ _ (by rw [bet_len l1 l2, l2]) (by rw [l2, l3]) (bet_right _ _) (ih (by omega) i (by omega))
theorem leastL_spec {L : List Int} (hL : L ≠ []) (he : L.length % 2 = 0) : Rot2 L (leastL L) ∧ ∀ Y, Rot2 L Y → cmpL (leastL L) Y ≤ 0 := by
  have hpos : 0 < L.length := List.length_pos_iff.2 hL
  constructor
  · obtain ⟨j, hj, e⟩ := bestTo_even L ((L.length - 1) / 2)
    unfold leastL
    rw [e]
    exact rot2_of (by omega)
  · intro Y hY
    obtain ⟨j, hj, rfl⟩ := rot2_cases he hY
    exact bestTo_le_all L _ (by omega) j (by omega)
/-- What line.normal makes of a reduced word. -/
def bestL (r : List Int) : List Int :=
  if r = [] then [] else if cmpS (leastL r.reverse) (leastL r) < 0 then leastL r.reverse else leastL r
theorem normalL_best (L : List Int) : normalL L = bestL (reduceL L) := rfl
theorem dih_nil {Y : List Int} (h : Dih [] Y) : Y = [] := List.eq_nil_of_length_eq_zero h.len
theorem bestL_isMin {r : List Int} (he : r.length % 2 = 0) : IsMin r (bestL r) := by
  by_cases h0 : r = []
  · subst h0
    refine ⟨.inl (Rot2.refl _), fun Y hY => ?_⟩
    rw [dih_nil hY]
    exact Int.le_refl _
  · have h0' : r.reverse ≠ [] := by simpa using h0
    obtain ⟨a1, a2⟩ := leastL_spec h0 he
    obtain ⟨b1, b2⟩ := leastL_spec h0' (by simpa using he)
    have la := a1.len
    have lb : (leastL r.reverse).length = r.length := by rw [b1.len]; simp
    have e : bestL r = bet (leastL r.reverse) (leastL r) := by
      unfold bestL bet
      rw [if_neg h0]
      by_cases hc : cmpL (leastL r.reverse) (leastL r) < 0
      · rw [if_pos hc, if_pos ((cmpS_neg _ _ (by rw [la, lb])).2 hc)]
      · rw [if_neg hc, if_neg (fun h => hc ((cmpS_neg _ _ (by rw [la, lb])).1 h))]
    rw [e]
    have lbt := bet_len lb la
    constructor
    · rcases bet_or (leastL r.reverse) (leastL r) with h | h <;> rw [h]
      · exact .inr b1
      · exact .inl a1
    · rintro Y (hY | hY)
      · exact cmpL_trans _ _ _ (by rw [lbt, la]) (by rw [la, hY.len]) (bet_right _ _) (a2 Y hY)
      · exact cmpL_trans _ _ _ (by rw [lbt, lb]) (by rw [lb, hY.len]; simp) (bet_left (by rw [la, lb])) (b2 Y hY)
theorem bestL_rot {X Y : List Int} (h : Rot2 X Y) (he : X.length % 2 = 0) : bestL X = bestL Y :=
  isMin_unique (isMin_congr (fun _ => dih_rot h he) (bestL_isMin he)) (bestL_isMin (by rw [h.len]; exact he))
theorem bestL_rev {X : List Int} (he : X.length % 2 = 0) : bestL X.reverse = bestL X :=
  isMin_unique (bestL_isMin (by simpa using he)) (isMin_congr (fun _ => dih_rev) (bestL_isMin he))

/-- What ref.Normal makes of a reduced word, behind k rounds. -/
def refTo (X : List Int) : Nat → List Int
  | 0 => X
  | k + 1 => bet (rotL X.reverse (2 * k)) (bet (rotL X (2 * k)) (refTo X k))
theorem refTo_len (X : List Int) (k : Nat) (hk : 2 * k ≤ X.length + 1) : (refTo X k).length = X.length := by
  induction k with
  | zero => rfl
  | succ k ih =>
    rw [refTo]
    exact bet_len (by rw [rotL_len _ _ (by simp; omega)]; simp) (bet_len (rotL_len _ _ (by omega)) (ih (by omega)))
theorem refTo_dih (X : List Int) (k : Nat) (hk : 2 * k ≤ X.length + 1) : Dih X (refTo X k) := by
  induction k with
  | zero => exact .inl (Rot2.refl _)
  | succ k ih =>
    rw [refTo]
    rcases bet_or (rotL X.reverse (2 * k)) (bet (rotL X (2 * k)) (refTo X k)) with h | h <;> rw [h]
    · exact .inr (rot2_of (by simp; omega))
    · rcases bet_or (rotL X (2 * k)) (refTo X k) with h | h <;> rw [h]
      · exact .inl (rot2_of (by omega))
      · exact ih (by omega)
theorem refTo_le (X : List Int) (k : Nat) (hk : 2 * k ≤ X.length + 1) : ∀ i, i < k → cmpL (refTo X k) (rotL X (2 * i)) ≤ 0 ∧ cmpL (refTo X k) (rotL X.reverse (2 * i)) ≤ 0 := by
  induction k with
  | zero => intro i hi; omega
  | succ k ih =>
    intro i hi
    rw [refTo]
    have l1 : (rotL X (2 * k)).length = X.length := rotL_len _ _ (by omega)
    have l2 : (rotL X.reverse (2 * k)).length = X.length := by rw [rotL_len _ _ (by simp; omega)]; simp
    have l3 := refTo_len X k (by omega)
    have l4 := bet_len l1 l3
    have l5 := bet_len l2 l4
    have s1 := bet_right (rotL X.reverse (2 * k)) (bet (rotL X (2 * k)) (refTo X k))
    by_cases e : i = k
    · subst e
      exact ⟨cmpL_trans _ _ _ (by rw [l5, l4]) (by rw [l4, l1]) s1 (bet_left (by rw [l1, l3])), bet_left (by rw [l2, l4])⟩
    · have s2 := cmpL_trans _ _ _ (by rw [l5, l4]) (by rw [l4, l3]) s1 (bet_right _ _)
      obtain ⟨i1, i2⟩ := ih (by omega) i (by omega)
      exact ⟨cmpL_trans _ _ _ (by rw [l5, l3]) (by rw [l3, rotL_len _ _ (by omega)]) s2 i1, cmpL_trans _ _ _ (by rw [l5, l3]) (by rw [l3, rotL_len _ _ (by simp; omega)]; simp) s2 i2⟩
theorem refTo_isMin {X : List Int} (he : X.length % 2 = 0) : IsMin X (refTo X (X.length / 2)) := by
  refine ⟨refTo_dih X _ (by omega), fun Y hY => ?_⟩
  by_cases h0 : X = []
  · subst h0
    rw [dih_nil hY]
    exact Int.le_refl _
  · have hpos : 0 < X.length := List.length_pos_iff.2 h0
    rcases hY with hY | hY
    · obtain ⟨j, hj, rfl⟩ := rot2_cases he hY
      exact (refTo_le X _ (by omega) j (by omega)).1
    · obtain ⟨j, hj, rfl⟩ := rot2_cases (by simpa using he) hY
      rw [List.length_reverse] at hj
      exact (refTo_le X _ (by omega) j (by omega)).2
theorem refTo_best {X : List Int} (he : X.length % 2 = 0) : refTo X (X.length / 2) = bestL X := isMin_unique (refTo_isMin he) (bestL_isMin he)

/-- Two lists stand for one curve. -/
inductive Eqv : List Int → List Int → Prop
  | refl (x : List Int) : Eqv x x
  | symm {x y : List Int} : Eqv x y → Eqv y x
  | trans {x y z : List Int} : Eqv x y → Eqv y z → Eqv x z
  | del (u : List Int) (g : Int) (v : List Int) : Eqv (u ++ g :: g :: v) (u ++ v)
  | rot (u v : List Int) : u.length % 2 = 0 → Eqv (u ++ v) (v ++ u)
  | rev (x : List Int) : Eqv x x.reverse
theorem Eqv.len {x y : List Int} (h : Eqv x y) : x.length % 2 = y.length % 2 := by
  induction h with
  | refl => rfl
  | symm _ ih => exact ih.symm
  | trans _ _ h1 h2 => exact h1.trans h2
  | del u g v => simp; omega
  | rot u v _ => simp; omega
  | rev x => simp
theorem Eqv.normal {x y : List Int} (h : Eqv x y) : x.length % 2 = 0 → normalL x = normalL y := by
  induction h with
  | refl => intro _; rfl
  | symm h ih => intro he; exact (ih (by rw [h.len]; exact he)).symm
  | trans h _ h1 h2 => intro he; exact (h1 he).trans (h2 (by rw [← h.len]; exact he))
  | del u g v =>
    intro _
    rw [normalL_best, normalL_best, reduceL_KK, reduceL_KK]
    unfold KK
    rw [fr_del]
  | rot u v hu =>
    intro he
    rw [normalL_best, normalL_best, reduceL_KK, reduceL_KK]
    exact bestL_rot (KK_rot true (u.length / 2) u v (by omega) he) ((KK_len _ _).trans he)
  | rev x =>
    intro he
    rw [normalL_best, normalL_best, reduceL_KK, reduceL_KK]
    have hk := (KK_len true x).trans he
    rw [← bestL_rot (KK_reverse x) (by simpa using hk), bestL_rev hk]
theorem Eqv.of_rot2 {x y : List Int} (h : Rot2 x y) : Eqv x y := by
  obtain ⟨u, v, rfl, rfl, hu⟩ := h
  exact Eqv.rot u v hu
theorem Eqv.of_dih {x y : List Int} (h : Dih x y) : Eqv x y := by
  rcases h with h | h
  · exact Eqv.of_rot2 h
  · exact (Eqv.rev x).trans (Eqv.of_rot2 h)
theorem eqv_fr : ∀ (L u : List Int), Eqv (u ++ L) (u ++ fr L)
  | [], u => Eqv.refl _
  | a :: r, u => by
    have ih := eqv_fr r (u ++ [a])
    rw [List.append_assoc, List.append_assoc] at ih
    refine Eqv.trans ih ?_
    show Eqv (u ++ a :: fr r) (u ++ lpush a (fr r))
    cases h : fr r with
    | nil => exact Eqv.refl _
    | cons x s =>
      by_cases e : x = a
      · subst e
        rw [show lpush x (x :: s) = s by simp [lpush]]
        exact Eqv.del u x s
      · rw [show lpush a (x :: s) = a :: x :: s by simp [lpush, e]]
        exact Eqv.refl _
theorem eqv_core (f : Nat) : ∀ (b : Bool) (P : List Int), P.length % 2 = 0 → Eqv (outP (b, P)) (outP (core f b P)) := by
  induction f with
  | zero => intro b P _; exact Eqv.refl _
  | succ f ih =>
    intro b P he
    rw [core]
    by_cases h : 1 < P.length ∧ P.head? = P.getLast?
    · rw [if_pos h]
      refine Eqv.trans ?_ (ih (!b) P.tail.dropLast (by simp; omega))
      obtain ⟨h1, h2⟩ := h
      match P with
      | [] => simp at h1
      | [_] => simp at h1
      | x :: y :: r =>
        obtain ⟨Q, z, hQ⟩ : ∃ Q z, y :: r = Q ++ [z] := ⟨_, _, (List.dropLast_concat_getLast (by simp)).symm⟩
        rw [hQ] at h2 he ⊢
        have hz : x = z := by
          rw [last_cs] at h2
          exact Option.some.inj h2
        subst hz
        have ht : (x :: (Q ++ [x])).tail.dropLast = Q := by simp
        rw [ht]
        cases b
        · have e1 : outP (false, x :: (Q ++ [x])) = Q ++ x :: x :: [] := by simp [outP, rotL]
          have e2 : outP (!false, Q) = Q ++ [] := by simp [outP]
          rw [e1, e2]
          exact Eqv.del Q x []
        · cases Q with
          | nil => exact Eqv.del [] x []
          | cons q Q' =>
            have e1 : outP (true, x :: (q :: Q' ++ [x])) = [x, q] ++ (Q' ++ [x]) := by simp [outP]
            have e2 : outP (!true, q :: Q') = Q' ++ [q] := by simp [outP, rotL]
            rw [e1, e2]
            refine (Eqv.rot [x, q] (Q' ++ [x]) (by simp)).trans ?_
            have := Eqv.del Q' x [q]
            simpa using this
    · rw [if_neg h]
      exact Eqv.refl _
theorem eqv_reduceL {L : List Int} (he : L.length % 2 = 0) : Eqv L (reduceL L) := by
  rw [reduceL_KK]
  have h1 := eqv_fr L []
  have h2 := eqv_core (fr L).length true (fr L) (by rw [fr_len]; exact he)
  exact h1.trans h2
theorem eqv_normalL {L : List Int} (he : L.length % 2 = 0) : Eqv L (normalL L) :=
  (eqv_reduceL he).trans (Eqv.of_dih (bestL_isMin (by rw [reduceL_KK, KK_len]; exact he)).1)
theorem Eqv.map {x y : List Int} (h : Eqv x y) (f : Int → Int) : Eqv (x.map f) (y.map f) := by
  induction h with
  | refl => exact Eqv.refl _
  | symm _ ih => exact ih.symm
  | trans _ _ h1 h2 => exact h1.trans h2
  | del u g v => simpa using Eqv.del (u.map f) (f g) (v.map f)
  | rot u v hu => simpa using Eqv.rot (u.map f) (v.map f) (by simpa using hu)
  | rev x => simpa using Eqv.rev (x.map f)
theorem normalL_map {L : List Int} (f : Int → Int) (he : L.length % 2 = 0) : normalL ((normalL L).map f) = normalL (L.map f) :=
  (((eqv_normalL he).map f).normal (by simpa using he)).symm

/-- No letter is equal to its neighbour behind it, cyclically. -/
theorem reduceL_of_red {r : List Int} (he : r.length % 2 = 0) (hr : RedP r) (hc : 0 < r.length → r.head? ≠ r.getLast?) : reduceL r = r := by
  have hf : fr r = r := by
    clear he hc
    induction r with
    | nil => rfl
    | cons a r ih =>
      rw [fr, ih hr.tail]
      cases r with
      | nil => rfl
      | cons b s =>
        have hab : ¬ b = a := fun e => hr.1 e.symm
        simp [lpush, hab]
  rw [reduceL_KK]
  unfold KK
  rw [hf, cor_stop (fun h => hc (by omega) h.2)]
  rfl
end Go.Proofs.YtpdkonpnhalecaaDoor
