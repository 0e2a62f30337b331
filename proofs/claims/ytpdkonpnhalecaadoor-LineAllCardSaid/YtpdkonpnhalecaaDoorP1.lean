/-
  Plain: what line.reduce computes: a stack of letters with their directions, trimmed at both ends. No program in sight.
-/
import Derived.Test.YtpdkonpnhalecaaDoorP0
namespace Go.Proofs.YtpdkonpnhalecaaDoor
/-- One letter comes onto the stack (the top is at the end). -/
def pushS (S : List (Int × Bool)) (i : Nat) (g : Int) : List (Int × Bool) :=
  if S.getLast?.map (·.1) = some g then S.dropLast else S ++ [(g, decide (i % 2 = 0))]
/-- The stack behind k letters. -/
def stackTo (L : List Int) : Nat → List (Int × Bool)
  | 0 => []
  | k + 1 => match L[k]? with
    | some g => pushS (stackTo L k) k g
    | none => stackTo L k
theorem stackTo_succ {L : List Int} {k : Nat} {g : Int} (h : L[k]? = some g) : stackTo L (k + 1) = pushS (stackTo L k) k g := by rw [stackTo, h]
theorem pushS_len (S : List (Int × Bool)) (i : Nat) (g : Int) : (pushS S i g).length ≤ S.length + 1 := by
  unfold pushS; split <;> simp; omega
theorem stackTo_len (L : List Int) (k : Nat) : (stackTo L k).length ≤ k := by
  induction k with
  | zero => simp [stackTo]
  | succ k ih =>
    rw [stackTo]
    split
    · exact Nat.le_trans (pushS_len _ _ _) (by omega)
    · omega
theorem pushS_nil (i : Nat) (g : Int) : pushS [] i g = [(g, decide (i % 2 = 0))] := rfl
theorem pushS_pop {S : List (Int × Bool)} {q i : Nat} {g : Int} {b : Bool} (hq : S.length = q + 1) (h : S[q]? = some (g, b)) : pushS S i g = S.take q := by
  unfold pushS
  rw [List.getLast?_eq_getElem?, hq, Nat.add_sub_cancel, h]
  simp [List.dropLast_eq_take, hq]
theorem pushS_push {S : List (Int × Bool)} {q i : Nat} {g x : Int} {b : Bool} (hq : S.length = q + 1) (h : S[q]? = some (x, b)) (hx : x ≠ g) : pushS S i g = S ++ [(g, decide (i % 2 = 0))] := by
  unfold pushS
  rw [List.getLast?_eq_getElem?, hq, Nat.add_sub_cancel, h]
  simp [hx]
/-- Both ends are taken away as long as they are equal. -/
def trimF : Nat → List (Int × Bool) → List (Int × Bool)
  | 0, S => S
  | f + 1, S => if 1 < S.length ∧ S.head?.map (·.1) = S.getLast?.map (·.1) then trimF f S.tail.dropLast else S
theorem trimF_more (f : Nat) : ∀ S : List (Int × Bool), S.length ≤ 2 * f + 1 → trimF (f + 1) S = trimF f S := by
  induction f with
  | zero => intro S h; unfold trimF; rw [if_neg (by omega)]
  | succ f ih =>
    intro S h
    rw [trimF]
    conv => rhs; rw [trimF]
    split
    · rw [ih]; simp; omega
    · rfl
def trimS (S : List (Int × Bool)) : List (Int × Bool) := trimF S.length S
theorem trimF_eq (f : Nat) (S : List (Int × Bool)) (h : S.length ≤ f) : trimF f S = trimS S := by
  induction f with
  | zero => have : S.length = 0 := by omega
            unfold trimS; rw [this]
  | succ f ih =>
    by_cases e : S.length = f + 1
    · unfold trimS; rw [e]
    · rw [trimF_more f S (by omega), ih (by omega)]
theorem trimS_step {S : List (Int × Bool)} (h : 1 < S.length ∧ S.head?.map (·.1) = S.getLast?.map (·.1)) : trimS S = trimS S.tail.dropLast := by
  unfold trimS
  obtain ⟨n, hn⟩ : ∃ n, S.length = n + 1 := ⟨S.length - 1, by omega⟩
  rw [hn, trimF, if_pos h]
  rw [trimF_eq _ _ (by simp; omega)]
  rfl
theorem trimS_stop {S : List (Int × Bool)} (h : ¬ (1 < S.length ∧ S.head?.map (·.1) = S.getLast?.map (·.1))) : trimS S = S := by
  unfold trimS
  cases hn : S.length with
  | zero => rfl
  | succ n => rw [trimF, if_neg h]
theorem trimF_len (f : Nat) : ∀ S, (trimF f S).length ≤ S.length := by
  induction f with
  | zero => intro S; exact Nat.le_refl _
  | succ f ih =>
    intro S
    rw [trimF]
    split
    · refine Nat.le_trans (ih _) ?_
      simp; omega
    · exact Nat.le_refl _
theorem tail_dropLast {S : List (Int × Bool)} {q : Nat} (hq : S.length = q + 1) : S.tail.dropLast = (S.take q).drop 1 := by
  rw [List.dropLast_eq_take, List.length_tail, hq, List.drop_take, List.drop_one]
  simp
/-- It begins with a letter that goes down. -/
def turnS : List (Int × Bool) → List (Int × Bool)
  | [] => []
  | x :: r => if x.2 then x :: r else r ++ [x]
theorem turnS_len (S : List (Int × Bool)) : (turnS S).length = S.length := by
  cases S with
  | nil => rfl
  | cons x r =>
    show (if x.2 = true then x :: r else r ++ [x]).length = _
    split <;> simp
/-- line.reduce. -/
def reduceL (L : List Int) : List Int := (turnS (trimS (stackTo L L.length))).map (·.1)
end Go.Proofs.YtpdkonpnhalecaaDoor
