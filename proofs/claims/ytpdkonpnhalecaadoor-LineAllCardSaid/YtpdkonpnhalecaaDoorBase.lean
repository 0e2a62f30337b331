/-
  The words in which this seat's contracts speak of memory: a slice of ints that reads as a list, worlds that differ by draws alone; and small laws on them. No condition.
-/
import Derived.Test.YtpdkonpnhalecaaDoorProg
import Derived.WalkKit
import Derived.Deep.QuietTactic
import Derived.BigQuiet
import Derived.Lib.Hide
import Derived.Laws.OwnMore
import Derived.Maps.AppendAt
import Derived.Deep.AppendLies
import Derived.Deep.LoopGhost
import Derived.Deep.DeepFit
import Derived.Deep.DeepMust
import Derived.Outline
namespace Go.Proofs.YtpdkonpnhalecaaDoor
open Go.RowKit

/-- w' is w behind some draws. -/
def Drawn (w w' : World) : Prop := ∃ m, w' = w.drewN m
theorem Drawn.refl (w : World) : Drawn w w := ⟨0, rfl⟩
theorem Drawn.drewN {w w' : World} (h : Drawn w w') (k : Nat) : Drawn w (w'.drewN k) := by
  obtain ⟨m, rfl⟩ := h
  exact ⟨m + k, by rw [World.drewN_drewN]⟩
theorem Drawn.trans {a b c : World} (h : Drawn a b) (k : Drawn b c) : Drawn a c := by
  obtain ⟨m, rfl⟩ := k
  exact h.drewN m
theorem drawn1 (w : World) (m : Nat) : Drawn w (w.drewN m) := ⟨m, rfl⟩
theorem drawn2 (w : World) (m n : Nat) : Drawn w ((w.drewN m).drewN n) := (drawn1 w m).drewN n
theorem Drawn.below {w w' : World} (h : Drawn w w') (B : Nat) : Below B w w' := by
  obtain ⟨m, rfl⟩ := h
  exact ⟨rfl, rfl, rfl, Nat.le_refl _, fun _ _ => rfl⟩
theorem Drawn.size {w w' : World} (h : Drawn w w') : w'.heap.size = w.heap.size := by
  obtain ⟨m, rfl⟩ := h
  rfl
theorem below_drewN {B : Nat} {a w : World} (h : Below B a w) (n : Nat) : Below B a (w.drewN n) := ⟨h.os, h.tape, h.output, h.size, h.block⟩
theorem below_chain {B C : Nat} {a b c : World} (h : Below B a b) (k : Below C b c) (hB : B ≤ C) : Below B a c := h.trans (k.mono hB)

/-- A contract's quiet form. -/
theorem quiet_calls {P : Program} {f : FuncId} {args : Array Value} {w : World} {n : Nat} {v : Value}
    (h : Calls P f args (w.drewN n) fun e w' => e = .returned v ∧ Drawn (w.drewN n) w') : Calls P f args (w.drewN n) fun e w'' => e = .returned v ∧ ∃ m, w'' = w.drewN m :=
  h.mono fun _ _ ⟨he, m, hm⟩ => ⟨he, n + m, by rw [hm, World.drewN_drewN]⟩

theorem block_of_add (a : Addr) (n : Nat) : (a.add n).block = a.block := by unfold Addr.add; split <;> rfl
theorem add_of_add (a : Addr) (i j : Nat) : (a.add i).add j = a.add (i + j) := by
  unfold Addr.add
  by_cases hi : i = 0 <;> by_cases hj : j = 0 <;> simp [hi, hj, Nat.add_assoc]

/-- x fits an int. -/
def I64 (x : Int) : Prop := -9223372036854775808 ≤ x ∧ x ≤ 9223372036854775807

/-- The slice '.slice A n c' reads as the list L of ints. -/
def Ints (w : World) (A : Option Addr) (n : Nat) (L : List Int) : Prop :=
  L.length = n ∧ n ≤ 17592186044416 ∧ (∀ x ∈ L, I64 x) ∧
  (0 < n → ∃ ad, A = some ad ∧ ad.block < w.heap.size ∧ ∀ j x, L[j]? = some x → w.cell? (ad.add j) = some (.int .i64 x))

theorem Ints.len {w : World} {A : Option Addr} {n : Nat} {L : List Int} (h : Ints w A n L) : L.length = n := h.1
theorem Ints.le {w : World} {A : Option Addr} {n : Nat} {L : List Int} (h : Ints w A n L) : n ≤ 17592186044416 := h.2.1
theorem Ints.fits {w : World} {A : Option Addr} {n : Nat} {L : List Int} (h : Ints w A n L) : ∀ x ∈ L, I64 x := h.2.2.1
theorem Ints.nil (w : World) (A : Option Addr) : Ints w A 0 [] := ⟨rfl, by omega, by simp, fun h => absurd h (by omega)⟩

/-- Inside a round: the address, the element, its cell. -/
theorem Ints.at_ {w : World} {A : Option Addr} {n k : Nat} {L : List Int} (h : Ints w A n L) (hk : k < n) :
    ∃ ad x, A = some ad ∧ Hid (L[k]? = some x) ∧ -9223372036854775808 ≤ x ∧ x ≤ 9223372036854775807 ∧ w.cell? (ad.add k) = some (.int .i64 x) := by
  obtain ⟨hl, _, hf, hc⟩ := h
  obtain ⟨ad, e, _, hcell⟩ := hc (by omega)
  have hkl : k < L.length := by omega
  have hx : L[k]? = some L[k] := List.getElem?_eq_getElem hkl
  have := hf L[k] (List.getElem_mem hkl)
  exact ⟨ad, L[k], e, hx, this.1, this.2, hcell k _ hx⟩
/-- Another element of a slice whose address is known. -/
theorem Ints.also {w : World} {ad : Addr} {n k : Nat} {L : List Int} (h : Ints w (some ad) n L) (hk : k < n) :
    ∃ x, Hid (L[k]? = some x) ∧ -9223372036854775808 ≤ x ∧ x ≤ 9223372036854775807 ∧ w.cell? (ad.add k) = some (.int .i64 x) := by
  obtain ⟨ad', x, e, h1, h2, h3, h4⟩ := h.at_ hk
  obtain rfl := Option.some.inj e
  exact ⟨x, h1, h2, h3, h4⟩
theorem Ints.keep {w w' : World} {A : Option Addr} {n : Nat} {L : List Int} (h : Ints w A n L) (hs : w.heap.size ≤ w'.heap.size)
    (hk : ∀ p : Addr, p.block < w.heap.size → w'.cell? p = w.cell? p) : Ints w' A n L :=
  ⟨h.1, h.2.1, h.2.2.1, fun hn => by
    obtain ⟨ad, e, hb, hc⟩ := h.2.2.2 hn
    exact ⟨ad, e, by omega, fun j x hx => (hk _ (by rw [block_of_add]; exact hb)).trans (hc j x hx)⟩⟩
theorem Ints.below {w w' : World} {A : Option Addr} {n : Nat} {L : List Int} (h : Ints w A n L) (hb : Below w.heap.size w w') : Ints w' A n L :=
  h.keep hb.size fun _ hp => hb.cell hp
theorem Ints.drewN {w : World} {A : Option Addr} {n : Nat} {L : List Int} (h : Ints w A n L) (k : Nat) : Ints (w.drewN k) A n L := h
theorem Ints.drawn {w w' : World} {A : Option Addr} {n : Nat} {L : List Int} (h : Ints w A n L) (hd : Drawn w w') : Ints w' A n L := h.below (hd.below _)
theorem Ints.alloc {w : World} {A : Option Addr} {n : Nat} {L : List Int} (h : Ints w A n L) (o : Obj) : Ints (w.alloc o) A n L :=
  h.below ((Below.refl _ _).alloc (Nat.le_refl _) o)

/-- The lists behind a Bool of all elements. -/
theorem all_take_succ {α : Type} (p : α → Bool) (L : List α) (k : Nat) (x : α) (hx : L[k]? = some x) : (L.take (k + 1)).all p = ((L.take k).all p && p x) := by
  rw [List.take_add_one, hx]; simp
theorem all_of_take {α : Type} (p : α → Bool) (L : List α) (k : Nat) (h : L.length ≤ k) : (L.take k).all p = L.all p := by rw [List.take_of_length_le h]
theorem all_false_of {α : Type} (p : α → Bool) (L : List α) (k : Nat) (x : α) (hx : L[k]? = some x) (h : p x = false) : L.all p = false := by
  rw [List.all_eq_false]
  exact ⟨x, List.mem_of_getElem? hx, by simp [h]⟩
theorem ret_bool {a b : Bool} (h : a = b) : Ending.returned (.bool a) = .returned (.bool b) := by rw [h]
theorem ret_int {k : IntKind} {a b : Int} (h : a = b) : Ending.returned (.int k a) = .returned (.int k b) := by rw [h]
end Go.Proofs.YtpdkonpnhalecaaDoor
