/-
  Contract: slices.Reverse of letters. Condition: an own slice.
-/
import Derived.Test.YtkjcmppaapbabaaDoorT6
import Derived.Test.YtkjcmppaapbabaaDoorRev
namespace Go.Proofs.YtkjcmppaapbabaaDoor
open Go.RowKit
/-- A whole letter is stored. -/
theorem OwnL.put6 {w : World} {base g off n c : Nat} {L : List Lt} (h : OwnL w base (some ⟨g, off, none⟩) n c L) {j : Nat} {x y : Lt} (hx : L[j]? = some x) (hy : LtOk y) :
    OwnL ((((((w.setCell ⟨g, off + j * 6, none⟩ (.int .i64 y.kind)).setCell ⟨g, off + j * 6 + 1, none⟩ (.int .i64 y.gate)).setCell ⟨g, off + j * 6 + 2, none⟩ (.int .i64 y.rank)).setCell ⟨g, off + j * 6 + 3, none⟩ (.int .i64 y.id)).setCell ⟨g, off + j * 6 + 4, none⟩ (.int .i64 y.sign)).setCell ⟨g, off + j * 6 + 5, none⟩ (.bool y.over)) base (some ⟨g, off, none⟩) n c (L.set j y) := by
  have hxo := h.fits x (List.mem_of_getElem? hx)
  have hl : j < L.length := (List.getElem?_eq_some_iff.1 hx).1
  have hs : ∀ z : Lt, (L.set j z)[j]? = some z := fun z => List.getElem?_set_self hl
  have h1 := h.put (i := 0) (u := .int .i64 y.kind) (x' := ⟨y.kind, x.gate, x.rank, x.id, x.sign, x.over⟩) hx (by omega) rfl ⟨hy.kind, hxo.gate, hxo.rank, hxo.id, hxo.sign⟩ rfl
  have h2 := h1.put (i := 1) (u := .int .i64 y.gate) (x' := ⟨y.kind, y.gate, x.rank, x.id, x.sign, x.over⟩) (hs _) (by omega) rfl ⟨hy.kind, hy.gate, hxo.rank, hxo.id, hxo.sign⟩ rfl
  rw [List.set_set] at h2
  have h3 := h2.put (i := 2) (u := .int .i64 y.rank) (x' := ⟨y.kind, y.gate, y.rank, x.id, x.sign, x.over⟩) (hs _) (by omega) rfl ⟨hy.kind, hy.gate, hy.rank, hxo.id, hxo.sign⟩ rfl
  rw [List.set_set] at h3
  have h4 := h3.put (i := 3) (u := .int .i64 y.id) (x' := ⟨y.kind, y.gate, y.rank, y.id, x.sign, x.over⟩) (hs _) (by omega) rfl ⟨hy.kind, hy.gate, hy.rank, hy.id, hxo.sign⟩ rfl
  rw [List.set_set] at h4
  have h5 := h4.put (i := 4) (u := .int .i64 y.sign) (x' := ⟨y.kind, y.gate, y.rank, y.id, y.sign, x.over⟩) (hs _) (by omega) rfl ⟨hy.kind, hy.gate, hy.rank, hy.id, hy.sign⟩ rfl
  rw [List.set_set] at h5
  have h6 := h5.put (i := 5) (u := .bool y.over) (x' := ⟨y.kind, y.gate, y.rank, y.id, y.sign, y.over⟩) (hs _) (by omega) rfl ⟨hy.kind, hy.gate, hy.rank, hy.id, hy.sign⟩ rfl
  rw [List.set_set] at h6
  exact h6
set_option maxRecDepth 100000 in
set_option maxHeartbeats 6400000 in
theorem slices_reverseL (base : Nat) (A : Option Addr) (n c : Nat) (L : List Lt) (w : World) (hA : OwnL w base A n c L) (hle : n ≤ 1000000) :
    Calls Tryd.prog 129 #[.slice A n c] w fun e w' => e = .returned (.tuple #[]) ∧ OwnL w' base A n c L.reverse ∧ w.grownBy w' (blk A) := by
  have HL := Lib.hid hA.len
  go_enter Tryd.func129, Tryd.ntmps129
  go_wp2_with fail
  go_loopw [2, 3] (fun i j wr => ∃ (k : Nat) (P : List Lt), 2 * k ≤ n + 1 ∧ i = .int .i64 k ∧ j = .int .i64 ((n : Int) - 1 - k) ∧ OwnL wr base A n c P ∧ w.grownBy wr (blk A) ∧ Hid (Swapped L P k)) (fun i _ _ => n - (intOf i).toNat)
  case atStart => exact ⟨0, L, by omega, rfl, by go_num, hA, World.grownBy.refl _ _, swapped_zero L⟩
  case round =>
    obtain ⟨k, P, hk, rfl, rfl, hown, hg, HP⟩ := hrel
    by_cases hlt : 2 * k + 1 < n
    · obtain ⟨g, off, rfl, hg1, hg2⟩ := hown.row.form (by omega)
      obtain ⟨j, hj⟩ : ∃ j : Nat, (n : Int) - 1 - k = j := ⟨n - 1 - k, by omega⟩
      have hPl : P.length = n := hown.len
      have hkj : k < j := by omega
      have hjn : j < n := by omega
      have hx : P[k]? = some (P[k]'(by omega)) := List.getElem?_eq_getElem _
      have hy : P[j]? = some (P[j]'(by omega)) := List.getElem?_eq_getElem _
      obtain ⟨x, hxe⟩ : ∃ x, x = P[k]'(by omega) := ⟨_, rfl⟩
      obtain ⟨y, hye⟩ : ∃ y, y = P[j]'(by omega) := ⟨_, rfl⟩
      rw [← hxe] at hx
      rw [← hye] at hy
      have hxk : la P k = x := la_of hx
      have hyk : la P j = y := la_of hy
      have cx := (hown.lets.also (k := k) (by omega)).1
      have cy := (hown.lets.also (k := j) hjn).1
      rw [hxk] at cx
      rw [hyk] at cy
      obtain ⟨a0, a1, a2, a3, a4, a5⟩ := cx
      obtain ⟨b0, b1, b2, b3, b4, b5⟩ := cy
      clear hxk hyk
      have HX := Lib.hid hx
      have HY := Lib.hid hy
      have HPL := Lib.hid hPl
      clear hx hy hxe hye hPl
      rw [hj]
      have HJ := Lib.hid hj
      clear hj
      have hcap := hown.row.cap
      have f0 : wr.frozen? ⟨g, off + k * 6, none⟩ = false := hown.row.free (j := k * 6 + 0) (by omega)
      have e0 : wr.frozen? ⟨g, off + j * 6, none⟩ = false := hown.row.free (j := j * 6 + 0) (by omega)
      have f1 : wr.frozen? ⟨g, off + k * 6 + 1, none⟩ = false := hown.row.free (j := k * 6 + 1) (by omega)
      have e1 : wr.frozen? ⟨g, off + j * 6 + 1, none⟩ = false := hown.row.free (j := j * 6 + 1) (by omega)
      have f2 : wr.frozen? ⟨g, off + k * 6 + 2, none⟩ = false := hown.row.free (j := k * 6 + 2) (by omega)
      have e2 : wr.frozen? ⟨g, off + j * 6 + 2, none⟩ = false := hown.row.free (j := j * 6 + 2) (by omega)
      have f3 : wr.frozen? ⟨g, off + k * 6 + 3, none⟩ = false := hown.row.free (j := k * 6 + 3) (by omega)
      have e3 : wr.frozen? ⟨g, off + j * 6 + 3, none⟩ = false := hown.row.free (j := j * 6 + 3) (by omega)
      have f4 : wr.frozen? ⟨g, off + k * 6 + 4, none⟩ = false := hown.row.free (j := k * 6 + 4) (by omega)
      have e4 : wr.frozen? ⟨g, off + j * 6 + 4, none⟩ = false := hown.row.free (j := j * 6 + 4) (by omega)
      have f5 : wr.frozen? ⟨g, off + k * 6 + 5, none⟩ = false := hown.row.free (j := k * 6 + 5) (by omega)
      have e5 : wr.frozen? ⟨g, off + j * 6 + 5, none⟩ = false := hown.row.free (j := j * 6 + 5) (by omega)
      have hkn : k < n := by omega
      have hne : ¬ k = j := by omega
      have hne' : ¬ j = k := by omega
      go_wp2_with fail
      go_region
      have hx3 := hown.fits x (List.mem_of_getElem? HX.out)
      have hy3 := hown.fits y (List.mem_of_getElem? HY.out)
      have hown1 := hown.put6 HX.out hy3
      have hown2 := hown1.put6 (j := j) (x := y) (by rw [List.getElem?_set_ne hne]; exact HY.out) hx3
      have hown' := hown2.next (Below.refl _ _).drew
      have hg' := grown_drawn (grown_set (grown_set (grown_set (grown_set (grown_set (grown_set (grown_set (grown_set (grown_set (grown_set (grown_set (grown_set (hg) (off + k * 6) (.int .i64 y.kind)) (off + k * 6 + 1) (.int .i64 y.gate)) (off + k * 6 + 2) (.int .i64 y.rank)) (off + k * 6 + 3) (.int .i64 y.id)) (off + k * 6 + 4) (.int .i64 y.sign)) (off + k * 6 + 5) (.bool y.over)) (off + j * 6) (.int .i64 x.kind)) (off + j * 6 + 1) (.int .i64 x.gate)) (off + j * 6 + 2) (.int .i64 x.rank)) (off + j * 6 + 3) (.int .i64 x.id)) (off + j * 6 + 4) (.int .i64 x.sign)) (off + j * 6 + 5) (.bool x.over)) 1
      have HP' : Hid (Swapped L ((P.set k y).set j x) (k + 1)) := by
        have e : j = L.length - 1 - k := by have := HJ.out; have := HL.out; omega
        subst e
        exact swapped_succ HP.out hkj HX.out HY.out
      have hj1 := HJ.out
      clear hown hown1 hown2 hg HP HX HY HPL HJ a0 a1 a2 a3 a4 a5 b0 b1 b2 b3 b4 b5 f0 f1 f2 f3 f4 f5 e0 e1 e2 e3 e4 e5 hx3 hy3
      have hji : (j : Int) - 1 = (n : Int) - 1 - (k + 1 : Nat) := by omega
      have HJI := Lib.hid hji
      clear hji hj1
      go_wp2_with fail
      go_roundw
      case rel => exact ⟨k + 1, _, by omega, by go_num, by rw [HJI.out], hown', hg', HP'⟩
      case measure => simp [intOf]; omega
    · go_wp2_with fail
      go_end0
      have e := swapped_end HP.out (by have := HL.out; omega)
      subst e
      exact ⟨rfl, hown, hg⟩
end Go.Proofs.YtkjcmppaapbabaaDoor
