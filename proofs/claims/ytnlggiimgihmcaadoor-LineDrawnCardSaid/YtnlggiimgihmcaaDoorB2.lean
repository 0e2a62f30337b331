/-
  Contracts: ref.rotated (two appends in one drawn region), slices.Clone, slices.Reverse, line.reverse. Conditions: the slices read as lists of ints.
-/
import Derived.Test.YtnlggiimgihmcaaDoorB1
import Derived.Test.YtnlggiimgihmcaaDoorP2
import Derived.Deep.RegionHeld3
import Derived.Deep.RegionLaw
import Derived.Lib.SliceRun
namespace Go.Proofs.YtnlggiimgihmcaaDoor
open Go.RowKit


set_option maxHeartbeats 400000 in
theorem ref_rotated (i : Nat) (A : Option Addr) (n c : Nat) (L : List Int) (w : World) (hA : Ints w A n L) (hi : i ≤ n) (hc : n ≤ c) :
    Calls Tryd.prog 59 #[.slice A n c, .int .i64 i] w fun e w' => ∃ A' c', e = .returned (.slice A' n c') ∧ Own w' w.heap.size A' n c' (rotL L i) ∧ Below w.heap.size w w' := by
  have hle := hA.le
  have hi0 : (0 : Int) ≤ (i : Int) := by omega
  have hi1 : (i : Int) ≤ (n : Int) := by omega
  have hi2 : (i : Int) ≤ (c : Int) := by omega
  go_enter Tryd.func59, Tryd.ntmps59
  go_wp2_with fail
  go_region_held3 (fun w' => Below w.heap.size w w') (first | exact (Below.refl _ _).drew | exact Below.trans (by assumption) (by assumption))
    (first
      | ((refine stepS rfl (.const (.slice none 0 0)) (.tmp 7) (by rfl) (by rfl) (Own.nil _ w.heap.size) (Ints.from (c := c) (hA.below (by assumption)) hi hc) (by rfl) (by rfl) (n - i) (by omega) (by omega) (Below.size (by assumption)) ?_; intro A1 c1 w1 hown1 hb1 hg1 hl1))
      | ((refine stepS rfl (.tmp 8) (.tmp 11) (by rfl) (by rfl) hown1 (Ints.to (hA.below (by assumption)) hi) (by rfl) (by rfl) n (by omega) (by omega) (Below.size (by assumption)) ?_; intro A2 c2 w2 hown2 hb2 hg2 hl2)))
  clear hb1 hg1 hl1 hg2 hl2
  go_wp2_with fail
  all_goals
    go_ret
    exact ⟨A2, c2, rfl, by simpa [rotL] using hown2, by assumption⟩

theorem Own.made {w : World} {base : Nat} (hb : base ≤ w.heap.size) : Own (w.alloc (.cells #[] 3)) base (some ⟨w.heap.size, 0, none⟩) 0 0 [] :=
  ⟨World.ownsRow_made w #[] 0 hb (by decide) rfl, rfl, by omega, by simp⟩

set_option maxHeartbeats 400000 in
theorem slices_clone (A : Option Addr) (n c : Nat) (L : List Int) (w : World) (hA : Ints w A n L) :
    Calls Tryd.prog 62 #[.slice A n c] w fun e w' => ∃ A' c', e = .returned (.slice A' n c') ∧ Own w' w.heap.size A' n c' L ∧ Below w.heap.size w w' := by
  have hle := hA.le
  have hnil := fun (w : World) (a : Option Addr) (n c : Nat) => Lib.run_eql_slice_nil (P := Tryd.prog) w 22 3 a n c 0 0 Tryd.underlying22
  rcases A with _ | ad
  · have hn : n = 0 := by
      rcases Nat.eq_zero_or_pos n with h0 | h0
      · exact h0
      · obtain ⟨ad, h, _⟩ := hA.2.2.2 h0
        cases h
    subst hn
    have hL : L = [] := List.eq_nil_of_length_eq_zero hA.len
    subst hL
    go_enter Tryd.func62, Tryd.ntmps62
    go_wp2_with fail
    go_ret
    exact ⟨_, _, rfl, Own.nil _ _, Below.refl _ _⟩
  · go_enter Tryd.func62, Tryd.ntmps62
    go_wp2_with (at_builtin; refine appS rfl _ _ rfl rfl (Own.made (Nat.le_refl _)) (hA.alloc (.cells #[] 3)) rfl rfl n (by omega) (by omega) ?c1 ?_)
    case c1 => simp
    intro A1 c1 w1 hown hb _ _
    have hbw := ((Below.refl w.heap.size w).alloc (Nat.le_refl _) (.cells #[] 3)).trans hb
    go_wp2_with fail
    go_ret
    exact ⟨_, _, rfl, hown, hbw⟩

/-- A list whose k outermost pairs are exchanged. -/
def Swapped (L P : List Int) (k : Nat) : Prop := P.length = L.length ∧ ∀ t, t < L.length → P[t]? = if t < k ∨ L.length - 1 - k < t then L[L.length - 1 - t]? else L[t]?
theorem swapped_zero (L : List Int) : Swapped L L 0 := ⟨rfl, fun t ht => by rw [if_neg (by omega)]⟩
theorem swapped_succ {L P : List Int} {k : Nat} {x y : Int} (h : Swapped L P k) (hk : k < L.length - 1 - k) (hx : P[k]? = some x) (hy : P[L.length - 1 - k]? = some y) :
    Swapped L ((P.set k y).set (L.length - 1 - k) x) (k + 1) := by
  refine ⟨by simp [h.1], fun t ht => ?_⟩
  have hx' := h.2 k (by omega)
  have hy' := h.2 (L.length - 1 - k) (by omega)
  rw [if_neg (by omega), hx] at hx'
  rw [if_neg (by omega), hy] at hy'
  rw [List.getElem?_set, List.getElem?_set]
  by_cases h1 : L.length - 1 - k = t
  · rw [if_pos h1, if_pos (by simp [h.1]; omega), if_pos (by omega), ← h1]
    rw [show L.length - 1 - (L.length - 1 - k) = k by omega, ← hx']
  · rw [if_neg h1]
    by_cases h2 : k = t
    · subst h2
      rw [if_pos rfl, if_pos (by rw [h.1]; omega), if_pos (by omega), ← hy']
    · rw [if_neg h2, h.2 t ht]
      by_cases h3 : t < k ∨ L.length - 1 - k < t
      · rw [if_pos h3, if_pos (by omega)]
      · rw [if_neg h3, if_neg (by omega)]
theorem swapped_end {L P : List Int} {k : Nat} (h : Swapped L P k) (hk : L.length ≤ 2 * k + 1) : P = L.reverse := by
  apply List.ext_getElem?
  intro t
  by_cases ht : t < L.length
  · rw [h.2 t ht, List.getElem?_reverse ht]
    by_cases h3 : t < k ∨ L.length - 1 - k < t
    · rw [if_pos h3]
    · rw [if_neg h3]
      congr 1; omega
  · rw [List.getElem?_eq_none (by rw [h.1]; omega), List.getElem?_eq_none (by simp; omega)]

theorem own_grown_trans {a b c : World} {row : Option Nat} (h : a.grownBy b row) (k : b.grownBy c row) : a.grownBy c row :=
  ⟨k.os.trans h.os, k.tape.trans h.tape, k.output.trans h.output, Nat.le_trans h.size k.size, fun i hi hne => (k.block i (Nat.lt_of_lt_of_le hi h.size) hne).trans (h.block i hi hne)⟩
theorem grown_drawn {a b : World} {row : Option Nat} (h : a.grownBy b row) (n : Nat) : a.grownBy (b.drewN n) row := ⟨h.os, h.tape, h.output, h.size, h.block⟩
theorem grown_set {a b : World} {g : Nat} (h : a.grownBy b (some g)) (j : Nat) (u : Value) : a.grownBy (b.setCell ⟨g, j, none⟩ u) (some g) :=
  ⟨h.os, h.tape, h.output, by simpa [World.setCell] using h.size, fun i hi hne => (Below.heap_setCell b ⟨g, j, none⟩ u i (by rintro rfl; exact hne rfl)).trans (h.block i hi hne)⟩

set_option maxHeartbeats 400000 in
theorem slices_reverse (base : Nat) (A : Option Addr) (n c : Nat) (L : List Int) (w : World) (hA : Own w base A n c L) :
    Calls Tryd.prog 83 #[.slice A n c] w fun e w' => e = .returned (.tuple #[]) ∧ Own w' base A n c L.reverse ∧ w.grownBy w' (blk A) := by
  have hle := hA.le
  have HL := Lib.hid hA.len
  go_enter Tryd.func83, Tryd.ntmps83
  go_wp2_with fail
  go_loopw [2, 3] (fun i j wr => ∃ (k : Nat) (P : List Int), 2 * k ≤ n + 1 ∧ i = .int .i64 k ∧ j = .int .i64 ((n : Int) - 1 - k) ∧ Own wr base A n c P ∧ w.grownBy wr (blk A) ∧ Hid (Swapped L P k)) (fun i _ _ => n - (intOf i).toNat)
  case atStart => exact ⟨0, L, by omega, rfl, by go_num, hA, World.grownBy.refl _ _, swapped_zero L⟩
  case round =>
    obtain ⟨k, P, hk, rfl, rfl, hown, hg, HP⟩ := hrel
    by_cases hlt : 2 * k + 1 < n
    · obtain ⟨g, rfl, hg1, hg2⟩ := hown.form (by omega)
      obtain ⟨j, hj⟩ : ∃ j : Nat, (n : Int) - 1 - k = j := ⟨n - 1 - k, by omega⟩
      have hPl : P.length = n := hown.len
      have hkj : k < j := by omega
      have hjn : j < n := by omega
      have hx : P[k]? = some (P[k]'(by omega)) := List.getElem?_eq_getElem _
      have hy : P[j]? = some (P[j]'(by omega)) := List.getElem?_eq_getElem _
      obtain ⟨x, hxe⟩ : ∃ x, x = P[k]'(by omega) := ⟨_, rfl⟩
      obtain ⟨y, hye⟩ : ∃ y, y = P[j]'(by omega) := ⟨_, rfl⟩
      rw [← hxe] at hx
      rw [← hye] at hy
      have c1 := hown.cell hx
      have c2 := hown.cell hy
      have HX := Lib.hid hx
      have HY := Lib.hid hy
      have HPL := Lib.hid hPl
      clear hx hy hxe hye hPl
      rw [hj]
      have HJ := Lib.hid hj
      clear hj
      have f1 := hown.free k
      have f2 := hown.free j
      have hkn : k < n := by omega
      have hne : ¬ k = j := by omega
      have hne' : ¬ j = k := by omega
      go_wp2_with fail
      go_region
      have hx3 : I64 x := hown.fits x (List.mem_of_getElem? HX.out)
      have hy3 : I64 y := hown.fits y (List.mem_of_getElem? HY.out)
      have hown' : Own ((wr.setCell ⟨g, k, none⟩ (.int .i64 y)).setCell ⟨g, j, none⟩ (.int .i64 x)).drew base (some ⟨g, 0, none⟩) n c ((P.set k y).set j x) := ((hown.stored k hy3).stored j hx3).drew
      have hg' : w.grownBy ((wr.setCell ⟨g, k, none⟩ (.int .i64 y)).setCell ⟨g, j, none⟩ (.int .i64 x)).drew (blk (some ⟨g, 0, none⟩)) := grown_drawn (grown_set (grown_set hg k _) j _) 1
      have HP' : Hid (Swapped L ((P.set k y).set j x) (k + 1)) := by
        have e : j = L.length - 1 - k := by have := HJ.out; have := HL.out; omega
        subst e
        exact swapped_succ HP.out hkj HX.out HY.out
      have hj1 := HJ.out
      clear hown hg HP HX HY HPL HJ c1 c2 f1 f2 hx3 hy3
      have hji : (j : Int) - 1 = (n : Int) - 1 - (k + 1 : Nat) := by omega
      have HJI := Lib.hid hji
      clear hji hj1
      go_wp2_with fail
      go_roundw
      case rel => exact ⟨k + 1, _, by omega, by go_num, by rw [HJI.out], hown', hg', HP'⟩
      case measure => simp [intOf]; omega
    · go_wp2_with fail
      go_end0
      have e := swapped_end HP.out (by have := HL.out; omega)
      subst e
      exact ⟨rfl, hown, hg⟩

set_option maxHeartbeats 400000 in
theorem line_reverse_ (A : Option Addr) (n c : Nat) (L : List Int) (w : World) (hA : Ints w A n L) :
    Calls Tryd.prog 65 #[.slice A n c] w fun e w' => ∃ A' c', e = .returned (.slice A' n c') ∧ Own w' w.heap.size A' n c' L.reverse ∧ Below w.heap.size w w' := by
  go_enter Tryd.func65, Tryd.ntmps65
  go_wp2_with fail
  refine (slices_clone _ _ _ _ _ hA).mono ?_
  rintro e w1 ⟨A1, c1, rfl, hown, hb⟩
  go_wp2_with fail
  refine (slices_reverse _ _ _ _ _ _ hown).mono ?_
  rintro e w2 ⟨rfl, hown2, hg⟩
  have hb2 := hb.grown hg hb.size (fun k hk => (hown.lt k hk).1)
  clear hown hb hg
  go_wp2_with fail
  go_ret
  exact ⟨_, _, rfl, hown2, hb2⟩
end Go.Proofs.YtnlggiimgihmcaaDoor
