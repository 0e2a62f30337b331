/-
  Plain: the swapped, mirrored, turned code, and the one that is traveled backwards. No walk of the program.
-/
import Derived.Test.YtkjcmppaapbabaaDoorJA
namespace Go.Proofs.YtkjcmppaapbabaaDoor
def rotT {α : Type} (L : List α) (i : Nat) : List α := L.drop i ++ L.take i
def swLt (x : Lt) : Lt := if isC x then { x with over := !x.over, sign := -x.sign } else x
def mrLt (K : Int) (L : List Lt) (x : Lt) : Lt := if isP x then { x with gate := K - x.gate, rank := (gN L x.gate L.length : Int) + 1 - x.rank } else { x with sign := -x.sign }
def toLt (x : Lt) : Lt := if isC x then { x with over := !x.over } else x
theorem sw_c {x : Lt} (h : isC x = true) : swLt x = { x with over := !x.over, sign := -x.sign } := by unfold swLt; rw [if_pos h]
theorem sw_n {x : Lt} (h : isC x = false) : swLt x = x := by unfold swLt; rw [if_neg (by rw [h]; simp)]
theorem mr_p {K : Int} {L : List Lt} {x : Lt} (h : isP x = true) : mrLt K L x = { x with gate := K - x.gate, rank := (gN L x.gate L.length : Int) + 1 - x.rank } := by unfold mrLt; rw [if_pos h]
theorem mr_n {K : Int} {L : List Lt} {x : Lt} (h : isP x = false) : mrLt K L x = { x with sign := -x.sign } := by unfold mrLt; rw [if_neg (by rw [h]; simp)]
theorem to_c {x : Lt} (h : isC x = true) : toLt x = { x with over := !x.over } := by unfold toLt; rw [if_pos h]
theorem to_n {x : Lt} (h : isC x = false) : toLt x = x := by unfold toLt; rw [if_neg (by rw [h]; simp)]
/-- The first pass that goes down, by the directions d. -/
def settleI (L : List Lt) (d : Nat → Bool) : Nat := ((List.range L.length).find? (fun i => isP (la L i) && d i)).getD 0
def settleL (L : List Lt) (d : Nat → Bool) : List Lt := rotT L (settleI L d)
def swapL (L : List Lt) : List Lt := L.map swLt
def mirrorL (K : Int) (L : List Lt) : List Lt := L.map (mrLt K L)
def turnL (L : List Lt) : List Lt := settleL (L.map toLt) (fun i => !dwn L i)
def backL (L : List Lt) : List Lt := settleL L.reverse (fun i => !dwn L (L.length - 1 - i))
theorem settle_none {L : List Lt} {d : Nat → Bool} (h : ∀ i, i < L.length → (isP (la L i) && d i) = false) : settleL L d = L := by
  unfold settleL settleI
  rw [List.find?_eq_none.2 (by intro i hi; rw [h i (List.mem_range.1 hi)]; simp)]
  simp [rotT]
theorem range_find {p : Nat → Bool} : ∀ {n k : Nat}, (∀ i, i < k → p i = false) → p k = true → k < n → (List.range n).find? p = some k := by
  intro n
  induction n with
  | zero => intro k _ _ h; omega
  | succ n ih =>
    intro k h1 h2 h3
    rw [List.range_succ, List.find?_append]
    by_cases e : k < n
    · rw [ih h1 h2 e]; rfl
    · have : k = n := by omega
      subst this
      rw [List.find?_eq_none.2 (by intro i hi; rw [h1 i (List.mem_range.1 hi)]; simp)]
      simp [h2]
theorem settle_at {L : List Lt} {d : Nat → Bool} {k : Nat} (h : ∀ i, i < k → (isP (la L i) && d i) = false) (hk : (isP (la L k) && d k) = true) (hl : k < L.length) : settleL L d = rotT L k := by
  unfold settleL settleI
  rw [range_find h hk hl]; rfl
end Go.Proofs.YtkjcmppaapbabaaDoor
