/-
  Plain: when ranks draw a curve, as the program tests it. No program in sight.
-/
import Derived.Test.YtpdkonpnhalecaaDoorP3
namespace Go.Proofs.YtpdkonpnhalecaaDoor
/-- Where a letter's crossing lies: an order of all crossings. -/
def placeI (L R : List Int) (n i : Nat) : Int := lat L i * ((n : Int) + 1) + lat R i
def inn (x a b : Int) : Prop := min a b < x ∧ x < max a b
instance (x a b : Int) : Decidable (inn x a b) := by unfold inn; infer_instance
/-- Two arcs on one side of the axis do not cross. -/
def apart (L R : List Int) (n i j : Nat) : Prop :=
  inn (placeI L R n j) (placeI L R n i) (placeI L R n ((i + 1) % n)) ↔ inn (placeI L R n ((j + 1) % n)) (placeI L R n i) (placeI L R n ((i + 1) % n))
def two (L R : List Int) (i j : Nat) : Prop := lat L i = lat L j ∧ lat R i = lat R j
def DrawnP (L R : List Int) : Prop :=
  (∀ i j, j < i → i < L.length → ¬two L R i j) ∧ ∀ i j, i < j → j < L.length → j % 2 = i % 2 → apart L R L.length i j
theorem place_bd {L R : List Int} {n i : Nat} (hn : n ≤ 400) (h1 : 0 ≤ lat L i ∧ lat L i ≤ 40) (h2 : 0 ≤ lat R i ∧ lat R i ≤ 1000) : 0 ≤ placeI L R n i ∧ placeI L R n i ≤ 18000 := by
  unfold placeI
  have : 0 ≤ lat L i * ((n : Int) + 1) := Int.mul_nonneg h1.1 (by omega)
  have : lat L i * ((n : Int) + 1) ≤ 40 * 401 := Int.mul_le_mul h1.2 (by omega) (by omega) (by omega)
  omega
end Go.Proofs.YtpdkonpnhalecaaDoor
