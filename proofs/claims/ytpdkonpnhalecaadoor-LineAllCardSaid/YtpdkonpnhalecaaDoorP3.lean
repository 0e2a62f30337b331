/-
  Plain: what line.order, line.ranks and line.drawn compute. No program in sight.
-/
import Derived.Test.YtpdkonpnhalecaaDoorP2
namespace Go.Proofs.YtpdkonpnhalecaaDoor
def aheadI (a g : Int) : Int := if a < g then g - a else g - a + 41
theorem aheadI_bd {a g : Int} (h : 0 ≤ a ∧ a ≤ 40) (h' : 0 ≤ g ∧ g ≤ 40) : 0 ≤ aheadI a g ∧ aheadI a g ≤ 100 := by unfold aheadI; split <;> omega
/-- The letter i of a word. -/
def lat (L : List Int) (i : Nat) : Int := (L[i]?).getD 0
theorem lat_of {L : List Int} {i : Nat} {x : Int} (h : L[i]? = some x) : lat L i = x := by unfold lat; rw [h]; rfl
/-- Two strands are followed; f rounds at most. -/
def ordF (L : List Int) (a b : Nat) : Nat → Nat → Nat → Int → Int
  | 0, _, _, _ => 0
  | f + 1, i, j, s =>
    if aheadI (lat L i) (lat L ((i + a) % L.length)) = aheadI (lat L j) (lat L ((j + b) % L.length)) then ordF L a b f ((i + a) % L.length) ((j + b) % L.length) (-s)
    else if aheadI (lat L i) (lat L ((i + a) % L.length)) < aheadI (lat L j) (lat L ((j + b) % L.length)) then -s else s
def stepN (n i : Nat) : Nat := if i % 2 = 0 then 1 else n - 1
def orderI (L : List Int) (i j : Nat) : Int := ordF L (stepN L.length i) (stepN L.length j) (L.length + 1) i j (-1)
theorem ordF_bd (L : List Int) (a b : Nat) : ∀ (f i j : Nat) (s : Int), (s = 1 ∨ s = -1) → ordF L a b f i j s = 0 ∨ ordF L a b f i j s = 1 ∨ ordF L a b f i j s = -1 := by
  intro f
  induction f with
  | zero => intro i j s _; exact .inl rfl
  | succ f ih =>
    intro i j s hs
    rw [ordF]
    split
    · exact ih _ _ _ (by omega)
    · split <;> omega
theorem orderI_bd (L : List Int) (i j : Nat) : orderI L i j = 0 ∨ orderI L i j = 1 ∨ orderI L i j = -1 := ordF_bd _ _ _ _ _ _ _ (.inr rfl)
end Go.Proofs.YtpdkonpnhalecaaDoor
