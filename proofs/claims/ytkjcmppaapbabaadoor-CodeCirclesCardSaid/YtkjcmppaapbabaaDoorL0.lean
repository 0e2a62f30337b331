/-
  Slices of letters in memory: the word 'Lets'. No condition.
-/
import Derived.Test.YtkjcmppaapbabaaDoorBase
import Derived.Test.YtkjcmppaapbabaaDoorK0
namespace Go.Proofs.YtkjcmppaapbabaaDoor
open Go.RowKit

structure LtOk (l : Lt) : Prop where
  kind : I64 l.kind
  gate : I64 l.gate
  rank : I64 l.rank
  id : I64 l.id
  sign : I64 l.sign
/-- The six cells of a letter. -/
structure LtAt (w : World) (g p : Nat) (l : Lt) : Prop where
  kind : w.cell? ⟨g, p, none⟩ = some (.int .i64 l.kind)
  gate : w.cell? ⟨g, p + 1, none⟩ = some (.int .i64 l.gate)
  rank : w.cell? ⟨g, p + 2, none⟩ = some (.int .i64 l.rank)
  id : w.cell? ⟨g, p + 3, none⟩ = some (.int .i64 l.id)
  sign : w.cell? ⟨g, p + 4, none⟩ = some (.int .i64 l.sign)
  over : w.cell? ⟨g, p + 5, none⟩ = some (.bool l.over)
/-- The slice '.slice A n c' reads as the list L of letters. -/
def Lets (w : World) (A : Option Addr) (n : Nat) (L : List Lt) : Prop :=
  L.length = n ∧ n ≤ 2932031007402 ∧ (∀ x ∈ L, LtOk x) ∧
  (0 < n → ∃ g o, A = some ⟨g, o, none⟩ ∧ g < w.heap.size ∧ ∀ j x, L[j]? = some x → LtAt w g (o + j * 6) x)
theorem LtAt.keep {w w' : World} {g p : Nat} {l : Lt} (h : LtAt w g p l) (hk : ∀ q : Addr, q.block = g → w'.cell? q = w.cell? q) : LtAt w' g p l :=
  ⟨(hk _ rfl).trans h.kind, (hk _ rfl).trans h.gate, (hk _ rfl).trans h.rank, (hk _ rfl).trans h.id, (hk _ rfl).trans h.sign, (hk _ rfl).trans h.over⟩
section
variable {w w' : World} {A : Option Addr} {n : Nat} {L : List Lt}
theorem Lets.len (h : Lets w A n L) : L.length = n := h.1
theorem Lets.le (h : Lets w A n L) : n ≤ 2932031007402 := h.2.1
theorem Lets.fits (h : Lets w A n L) : ∀ x ∈ L, LtOk x := h.2.2.1
theorem Lets.nil (w : World) (A : Option Addr) : Lets w A 0 [] := ⟨rfl, by omega, by simp, fun h => absurd h (by omega)⟩
/-- Inside a round: the address, the letter, its cells. -/
theorem Lets.at_ {k : Nat} (h : Lets w A n L) (hk : k < n) : ∃ g o, A = some ⟨g, o, none⟩ ∧ g < w.heap.size ∧ LtAt w g (o + k * 6) (la L k) ∧ LtOk (la L k) := by
  obtain ⟨hl, _, hf, hc⟩ := h
  obtain ⟨g, o, e, hb, hcell⟩ := hc (by omega)
  have hx : L[k]? = some L[k] := List.getElem?_eq_getElem (by omega)
  rw [la_of hx]
  exact ⟨g, o, e, hb, hcell k _ hx, hf _ (List.getElem_mem (by omega))⟩
/-- Another letter of a slice whose address is known. -/
theorem Lets.also {g o k : Nat} (h : Lets w (some ⟨g, o, none⟩) n L) (hk : k < n) : LtAt w g (o + k * 6) (la L k) ∧ LtOk (la L k) := by
  obtain ⟨g', o', e, _, h1, h2⟩ := h.at_ hk
  injection e with e
  injection e with e1 e2
  subst e1; subst e2
  exact ⟨h1, h2⟩
theorem Lets.keep (h : Lets w A n L) (hs : w.heap.size ≤ w'.heap.size) (hk : ∀ p : Addr, p.block < w.heap.size → w'.cell? p = w.cell? p) : Lets w' A n L :=
  ⟨h.1, h.2.1, h.2.2.1, fun hn => by
    obtain ⟨g, o, e, hb, hc⟩ := h.2.2.2 hn
    exact ⟨g, o, e, by omega, fun j x hx => (hc j x hx).keep fun q hq => hk q (by rw [hq]; exact hb)⟩⟩
theorem Lets.below (h : Lets w A n L) (hb : Below w.heap.size w w') : Lets w' A n L := h.keep hb.size fun _ hp => hb.cell hp
theorem Lets.drewN (h : Lets w A n L) (k : Nat) : Lets (w.drewN k) A n L := h.below (below_drewN (Below.refl _ _) k)
theorem Lets.drawn (h : Lets w A n L) (hd : Drawn w w') : Lets w' A n L := h.below (hd.below _)
theorem Lets.alloc (h : Lets w A n L) (o : Obj) : Lets (w.alloc o) A n L := h.below ((Below.refl _ _).alloc (Nat.le_refl _) o)
end
theorem isP_t {l : Lt} (h : l.kind = 1) : isP l = true := by unfold isP; simp [h]
theorem isP_f {l : Lt} (h : ¬l.kind = 1) : isP l = false := by unfold isP; simp [h]
theorem isC_t {l : Lt} (h : l.kind = 2) : isC l = true := by unfold isC; simp [h]
theorem isC_f {l : Lt} (h : ¬l.kind = 2) : isC l = false := by unfold isC; simp [h]
theorem pN_le (L : List Lt) (k : Nat) : pN L k ≤ k := countTo_le _ _
theorem cN_le (L : List Lt) (k : Nat) : cN L k ≤ k := countTo_le _ _
end Go.Proofs.YtkjcmppaapbabaaDoor
