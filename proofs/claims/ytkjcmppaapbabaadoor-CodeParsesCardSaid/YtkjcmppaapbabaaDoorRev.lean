/-
  Contracts: slices.Reverse of ints, of places. Conditions: own slices.
-/
import Derived.Test.YtkjcmppaapbabaaDoorJC
namespace Go.Proofs.YtkjcmppaapbabaaDoor
open Go.RowKit
/-- A whole place is stored. -/
theorem OwnQ.put2 {w : World} {base g off n c : Nat} {Q : List Plc} (h : OwnQ w base (some ⟨g, off, none⟩) n c Q) {j : Nat} {x y : Plc} (hx : Q[j]? = some x) (hy : PlOk y) :
    OwnQ ((w.setCell ⟨g, off + j * 2, none⟩ (.int .i64 y.gate)).setCell ⟨g, off + j * 2 + 1, none⟩ (.int .i64 y.left)) base (some ⟨g, off, none⟩) n c (Q.set j y) := by
  have hj : j < n := by rw [← h.len]; exact (List.getElem?_eq_some_iff.1 hx).1
  have hjl : j < Q.length := by rw [h.len]; exact hj
  refine ⟨?_, fun z hz => ?_⟩
  · have r1 := h.row.put (q := j * 2 + 0) (by omega) (.int .i64 y.gate)
    rw [flat_set plC 2 plC_len Q j 0 x ⟨y.gate, x.left⟩ (.int .i64 y.gate) hx (by omega) rfl] at r1
    have r2 := r1.put (q := j * 2 + 1) (by omega) (.int .i64 y.left)
    rw [flat_set plC 2 plC_len (Q.set j ⟨y.gate, x.left⟩) j 1 ⟨y.gate, x.left⟩ y (.int .i64 y.left) (List.getElem?_set_self hjl) (by omega) rfl, List.set_set] at r2
    exact r2
  · rcases List.mem_or_eq_of_mem_set hz with hz | rfl
    · exact h.fits z hz
    · exact hy
/-- A list whose k outermost pairs are exchanged. -/
def Swapped {α : Type} (L P : List α) (k : Nat) : Prop := P.length = L.length ∧ ∀ t, t < L.length → P[t]? = if t < k ∨ L.length - 1 - k < t then L[L.length - 1 - t]? else L[t]?
theorem swapped_zero {α : Type} (L : List α) : Swapped L L 0 := ⟨rfl, fun t ht => by rw [if_neg (by omega)]⟩
theorem swapped_succ {α : Type} {L P : List α} {k : Nat} {x y : α} (h : Swapped L P k) (hk : k < L.length - 1 - k) (hx : P[k]? = some x) (hy : P[L.length - 1 - k]? = some y) :
    Swapped L ((P.set k y).set (L.length - 1 - k) x) (k + 1) := by
  refine ⟨by simp [h.1], fun t ht => ?_⟩
  have hx' := h.2 k (by omega)
  have hy' := h.2 (L.length - 1 - k) (by omega)
  rw [if_neg (by omega), hx] at hx'
  rw [if_neg (by omega), hy] at hy'
  rw [List.getElem?_set, List.getElem?_set]
  by_cases h1 : L.length - 1 - k = t
  · rw [if_pos h1, if_pos (by simp [h.1]; omega), if_pos (by omega), ← h1]
    rw [show L.length - 1 - (L.length - 1 - k) = k by omega, ← hx']
  · rw [if_neg h1]
    by_cases h2 : k = t
    · subst h2
      rw [if_pos rfl, if_pos (by rw [h.1]; omega), if_pos (by omega), ← hy']
    · rw [if_neg h2, h.2 t ht]
      by_cases h3 : t < k ∨ L.length - 1 - k < t
      · rw [if_pos h3, if_pos (by omega)]
      · rw [if_neg h3, if_neg (by omega)]
theorem swapped_end {α : Type} {L P : List α} {k : Nat} (h : Swapped L P k) (hk : L.length ≤ 2 * k + 1) : P = L.reverse := by
  apply List.ext_getElem?
  intro t
  by_cases ht : t < L.length
  · rw [h.2 t ht, List.getElem?_reverse ht]
    by_cases h3 : t < k ∨ L.length - 1 - k < t
    · rw [if_pos h3]
    · rw [if_neg h3]
      congr 1; omega
  · rw [List.getElem?_eq_none (by rw [h.1]; omega), List.getElem?_eq_none (by simp; omega)]

theorem grown_drawn {a b : World} {row : Option Nat} (h : a.grownBy b row) (n : Nat) : a.grownBy (b.drewN n) row := ⟨h.os, h.tape, h.output, h.size, h.block⟩
theorem grown_set {a b : World} {g : Nat} (h : a.grownBy b (some g)) (j : Nat) (u : Value) : a.grownBy (b.setCell ⟨g, j, none⟩ u) (some g) :=
  ⟨h.os, h.tape, h.output, by simpa [World.setCell] using h.size, fun i hi hne => (Below.heap_setCell b ⟨g, j, none⟩ u i (by rintro rfl; exact hne rfl)).trans (h.block i hi hne)⟩

set_option maxHeartbeats 800000 in
theorem slices_reverse (base : Nat) (A : Option Addr) (n c : Nat) (L : List Int) (w : World) (hA : Own w base A n c L) :
    Calls Tryd.prog 126 #[.slice A n c] w fun e w' => e = .returned (.tuple #[]) ∧ Own w' base A n c L.reverse ∧ w.grownBy w' (blk A) := by
  have hle := hA.le
  have HL := Lib.hid hA.len
  go_enter Tryd.func126, Tryd.ntmps126
  go_wp2_with fail
  go_loopw [2, 3] (fun i j wr => ∃ (k : Nat) (P : List Int), 2 * k ≤ n + 1 ∧ i = .int .i64 k ∧ j = .int .i64 ((n : Int) - 1 - k) ∧ Own wr base A n c P ∧ w.grownBy wr (blk A) ∧ Hid (Swapped L P k)) (fun i _ _ => n - (intOf i).toNat)
  case atStart => exact ⟨0, L, by omega, rfl, by go_num, hA, World.grownBy.refl _ _, swapped_zero L⟩
  case round =>
    obtain ⟨k, P, hk, rfl, rfl, hown, hg, HP⟩ := hrel
    by_cases hlt : 2 * k + 1 < n
    · obtain ⟨g, rfl, hg1, hg2⟩ := hown.form (by omega)
      obtain ⟨j, hj⟩ : ∃ j : Nat, (n : Int) - 1 - k = j := ⟨n - 1 - k, by omega⟩
      have hPl : P.length = n := hown.len
      have hkj : k < j := by omega
      have hjn : j < n := by omega
      have hx : P[k]? = some (P[k]'(by omega)) := List.getElem?_eq_getElem _
      have hy : P[j]? = some (P[j]'(by omega)) := List.getElem?_eq_getElem _
      obtain ⟨x, hxe⟩ : ∃ x, x = P[k]'(by omega) := ⟨_, rfl⟩
      obtain ⟨y, hye⟩ : ∃ y, y = P[j]'(by omega) := ⟨_, rfl⟩
      rw [← hxe] at hx
      rw [← hye] at hy
      have c1 := hown.cell hx
      have c2 := hown.cell hy
      have HX := Lib.hid hx
      have HY := Lib.hid hy
      have HPL := Lib.hid hPl
      clear hx hy hxe hye hPl
      rw [hj]
      have HJ := Lib.hid hj
      clear hj
      have f1 := hown.free k
      have f2 := hown.free j
      have hkn : k < n := by omega
      have hne : ¬ k = j := by omega
      have hne' : ¬ j = k := by omega
      go_wp2_with fail
      go_region
      have hx3 : I64 x := hown.fits x (List.mem_of_getElem? HX.out)
      have hy3 : I64 y := hown.fits y (List.mem_of_getElem? HY.out)
      have hown' : Own ((wr.setCell ⟨g, k, none⟩ (.int .i64 y)).setCell ⟨g, j, none⟩ (.int .i64 x)).drew base (some ⟨g, 0, none⟩) n c ((P.set k y).set j x) := ((hown.stored k hy3).stored j hx3).drew
      have hg' : w.grownBy ((wr.setCell ⟨g, k, none⟩ (.int .i64 y)).setCell ⟨g, j, none⟩ (.int .i64 x)).drew (blk (some ⟨g, 0, none⟩)) := grown_drawn (grown_set (grown_set hg k _) j _) 1
      have HP' : Hid (Swapped L ((P.set k y).set j x) (k + 1)) := by
        have e : j = L.length - 1 - k := by have := HJ.out; have := HL.out; omega
        subst e
        exact swapped_succ HP.out hkj HX.out HY.out
      have hj1 := HJ.out
      clear hown hg HP HX HY HPL HJ c1 c2 f1 f2 hx3 hy3
      have hji : (j : Int) - 1 = (n : Int) - 1 - (k + 1 : Nat) := by omega
      have HJI := Lib.hid hji
      clear hji hj1
      go_wp2_with fail
      go_roundw
      case rel => exact ⟨k + 1, _, by omega, by go_num, by rw [HJI.out], hown', hg', HP'⟩
      case measure => simp [intOf]; omega
    · go_wp2_with fail
      go_end0
      have e := swapped_end HP.out (by have := HL.out; omega)
      subst e
      exact ⟨rfl, hown, hg⟩
set_option maxHeartbeats 800000 in
theorem slices_reverseQ (base : Nat) (A : Option Addr) (n c : Nat) (L : List Plc) (w : World) (hA : OwnQ w base A n c L) (hle : n ≤ 1000000) :
    Calls Tryd.prog 125 #[.slice A n c] w fun e w' => e = .returned (.tuple #[]) ∧ OwnQ w' base A n c L.reverse ∧ w.grownBy w' (blk A) := by
  have HL := Lib.hid hA.len
  go_enter Tryd.func125, Tryd.ntmps125
  go_wp2_with fail
  go_loopw [2, 3] (fun i j wr => ∃ (k : Nat) (P : List Plc), 2 * k ≤ n + 1 ∧ i = .int .i64 k ∧ j = .int .i64 ((n : Int) - 1 - k) ∧ OwnQ wr base A n c P ∧ w.grownBy wr (blk A) ∧ Hid (Swapped L P k)) (fun i _ _ => n - (intOf i).toNat)
  case atStart => exact ⟨0, L, by omega, rfl, by go_num, hA, World.grownBy.refl _ _, swapped_zero L⟩
  case round =>
    obtain ⟨k, P, hk, rfl, rfl, hown, hg, HP⟩ := hrel
    by_cases hlt : 2 * k + 1 < n
    · obtain ⟨g, off, rfl, hg1, hg2⟩ := hown.row.form (by omega)
      obtain ⟨j, hj⟩ : ∃ j : Nat, (n : Int) - 1 - k = j := ⟨n - 1 - k, by omega⟩
      have hPl : P.length = n := hown.len
      have hkj : k < j := by omega
      have hjn : j < n := by omega
      have hx : P[k]? = some (P[k]'(by omega)) := List.getElem?_eq_getElem _
      have hy : P[j]? = some (P[j]'(by omega)) := List.getElem?_eq_getElem _
      obtain ⟨x, hxe⟩ : ∃ x, x = P[k]'(by omega) := ⟨_, rfl⟩
      obtain ⟨y, hye⟩ : ∃ y, y = P[j]'(by omega) := ⟨_, rfl⟩
      rw [← hxe] at hx
      rw [← hye] at hy
      have c1 := (hown.cell hx).1
      have c2 := (hown.cell hx).2
      have c3 := (hown.cell hy).1
      have c4 := (hown.cell hy).2
      have HX := Lib.hid hx
      have HY := Lib.hid hy
      have HPL := Lib.hid hPl
      clear hx hy hxe hye hPl
      rw [hj]
      have HJ := Lib.hid hj
      clear hj
      have hcap := hown.row.cap
      have f1 : wr.frozen? ⟨g, off + k * 2, none⟩ = false := hown.row.free (j := k * 2) (by omega)
      have f2 : wr.frozen? ⟨g, off + k * 2 + 1, none⟩ = false := hown.row.free (j := k * 2 + 1) (by omega)
      have f3 : wr.frozen? ⟨g, off + j * 2, none⟩ = false := hown.row.free (j := j * 2) (by omega)
      have f4 : wr.frozen? ⟨g, off + j * 2 + 1, none⟩ = false := hown.row.free (j := j * 2 + 1) (by omega)
      have hkn : k < n := by omega
      have hne : ¬ k = j := by omega
      have hne' : ¬ j = k := by omega
      go_wp2_with fail
      go_region
      have hx3 := hown.fits x (List.mem_of_getElem? HX.out)
      have hy3 := hown.fits y (List.mem_of_getElem? HY.out)
      have hown1 := hown.put2 HX.out hy3
      have hown2 := hown1.put2 (j := j) (x := y) (by rw [List.getElem?_set_ne hne]; exact HY.out) hx3
      have hown' := hown2.next (Below.refl _ _).drew
      have hg' := grown_drawn (grown_set (grown_set (grown_set (grown_set hg (off + k * 2) (.int .i64 y.gate)) (off + k * 2 + 1) (.int .i64 y.left)) (off + j * 2) (.int .i64 x.gate)) (off + j * 2 + 1) (.int .i64 x.left)) 1
      have HP' : Hid (Swapped L ((P.set k y).set j x) (k + 1)) := by
        have e : j = L.length - 1 - k := by have := HJ.out; have := HL.out; omega
        subst e
        exact swapped_succ HP.out hkj HX.out HY.out
      have hj1 := HJ.out
      clear hown hown1 hown2 hg HP HX HY HPL HJ c1 c2 c3 c4 f1 f2 f3 f4 hx3 hy3
      have hji : (j : Int) - 1 = (n : Int) - 1 - (k + 1 : Nat) := by omega
      have HJI := Lib.hid hji
      clear hji hj1
      go_wp2_with fail
      go_roundw
      case rel => exact ⟨k + 1, _, by omega, by go_num, by rw [HJI.out], hown', hg', HP'⟩
      case measure => simp [intOf]; omega
    · go_wp2_with fail
      go_end0
      have e := swapped_end HP.out (by have := HL.out; omega)
      subst e
      exact ⟨rfl, hown, hg⟩
end Go.Proofs.YtkjcmppaapbabaaDoor
