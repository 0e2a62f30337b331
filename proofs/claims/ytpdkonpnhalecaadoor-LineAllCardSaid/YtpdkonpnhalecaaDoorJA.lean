/-
  Contracts of functions that build a slice by appending: ref.Mirror, ref.Reverse, ref.Drop. Conditions: the slices read as lists of ints, sums fit.
  Contracts: ref.rotated (two appends in one drawn region), slices.Clone, slices.Reverse, line.reverse. Conditions: the slices read as lists of ints.
  Contracts: line.check, line.Reverse, line.Mirror, line.Turn, ref.Turn, line.Circle. Conditions: the slices read as lists of ints.
  Contracts: line.Turn, ref.Turn, line.Circle, line.Inside, line.Winding. Conditions: the slices read as lists of ints.
  Contracts: line.Inside, line.Winding. Conditions: the slices read as lists of ints.
  Contract: line.Winding. Conditions: the slices read as lists of ints.
-/
import Derived.Test.YtpdkonpnhalecaaDoorA3
import Derived.Test.YtpdkonpnhalecaaDoorOwn
import Derived.Test.YtpdkonpnhalecaaDoorP2
import Derived.Deep.RegionHeld3
import Derived.Deep.RegionLaw
import Derived.Lib.SliceRun
namespace Go.Proofs.YtpdkonpnhalecaaDoor
section
open Go.RowKit

theorem map_take_succ {α β : Type} (f : α → β) (L : List α) (k : Nat) (x : α) (hx : L[k]? = some x) : (L.take (k + 1)).map f = (L.take k).map f ++ [f x] := by
  rw [List.take_add_one, hx]; simp

/-- The letters of a word are between 0 and 40. -/
def In40 (L : List Int) : Prop := ∀ x ∈ L, 0 ≤ x ∧ x ≤ 40
theorem in40_of_wordB {L : List Int} (h : wordB L = true) : In40 L := by
  unfold wordB at h
  simp only [Bool.and_eq_true, List.all_eq_true] at h
  intro x hx
  have := h.2 x hx
  unfold inB at this
  simpa using this
theorem len_of_wordB {L : List Int} (h : wordB L = true) : L.length ≤ 400 ∧ L.length % 2 = 0 := by
  unfold wordB at h
  simp only [Bool.and_eq_true, decide_eq_true_eq] at h
  exact ⟨h.1.2, h.1.1⟩
theorem In40.at_ {L : List Int} (h : In40 L) {k : Nat} {x : Int} (hx : L[k]? = some x) : 0 ≤ x ∧ x ≤ 40 := h x (List.mem_of_getElem? hx)

theorem reverse_drop_succ (L : List Int) (k : Nat) (x : Int) (h : k < L.length) (hx : L[L.length - 1 - k]? = some x) : (L.drop (L.length - (k + 1))).reverse = (L.drop (L.length - k)).reverse ++ [x] := by
  have e : L.length - (k + 1) = L.length - 1 - k := by omega
  have hlt : L.length - 1 - k < L.length := by omega
  rw [e, List.drop_eq_getElem_cons hlt, List.reverse_cons]
  have : L.length - 1 - k + 1 = L.length - k := by omega
  rw [this]
  rw [List.getElem?_eq_getElem hlt] at hx
  rw [Option.some.inj hx]

set_option maxHeartbeats 400000 in
theorem ref_reverse (A : Option Addr) (n c : Nat) (L : List Int) (w : World) (hA : Ints w A n L) :
    Calls Tryd.prog 58 #[.slice A n c] w fun e w' => ∃ A' c', e = .returned (.slice A' n c') ∧ Own w' w.heap.size A' n c' L.reverse ∧ Below w.heap.size w w' := by
  have HL := Lib.hid hA.len
  have hle := hA.le
  go_enter Tryd.func58, Tryd.ntmps58
  go_wp2_with fail
  go_loopw [3, 4] (fun v i wr => ∃ (k : Nat) (B : Option Addr) (d : Nat) (P : List Int), k ≤ n ∧ i = .int .i64 ((n : Int) - 1 - k) ∧ v = .slice B k d ∧ Own wr w.heap.size B k d P ∧ Below w.heap.size w wr ∧ Hid (P = (L.drop (n - k)).reverse)) (fun _ i _ => (intOf i + 1).toNat)
  case atStart => exact ⟨0, none, 0, [], Nat.zero_le _, by go_num, rfl, Own.nil _ _, Below.refl _ _, by unfold Hid; rw [List.drop_of_length_le (by rw [HL.out]; omega)]; rfl⟩
  case round =>
    obtain ⟨k, B, d, P, hk, rfl, rfl, hown, hb, HP⟩ := hrel
    by_cases hlt : k < n
    · obtain ⟨j, hj⟩ : ∃ j : Nat, (n : Int) - 1 - k = j := ⟨n - 1 - k, by omega⟩
      obtain ⟨ad, x, rfl, hx, hx1, hx2, hc⟩ := (hA.below hb).at_ (show j < n by omega)
      have HJ := Lib.hid hj
      rw [hj]
      have hj2 : (j : Int) + k + 1 ≤ n := by omega
      have hj3 : (n : Int) ≤ j + k + 1 := by omega
      clear hj
      go_wp2_with (at_builtin; refine app1 rfl _ _ rfl (hown.alloc _) x rfl rfl ?c1 ?c2 (by omega) ?c3 ?_)
      case c1 => rw [World.cell?_alloc_at _ _ _ _ rfl]; rfl
      case c2 => unfold I64; omega
      case c3 => have := hb.size; simp; omega
      intro B' d' w1 hown' hb' _ _
      have hbw := (hb.alloc hb.size (.cells #[.int .i64 x] 3)).trans hb'
      have HP' : Hid (P ++ [x] = (L.drop (n - (k + 1))).reverse) := by
        have hl := HL.out
        unfold Hid; subst hl; rw [HP.out]
        exact (reverse_drop_succ L k x (by omega) (by rw [← hx.out]; congr 1; omega)).symm
      clear hown hb hb' hc HP
      go_wp2_with fail
      go_roundw
      case rel => exact ⟨k + 1, B', d', _, by omega, by go_num, rfl, hown', hbw, HP'⟩
      case measure => simp [intOf] <;> omega
    · go_wp2_with fail
      go_ret
      have hkn : k = n := by omega
      subst hkn
      rw [HP.out, Nat.sub_self, List.drop_zero] at hown
      exact ⟨_, _, rfl, hown, hb⟩

/-- ref.Drop. -/
def dropG (f x : Int) : Int := if f ≤ x then x - 1 else x
end

section
open Go.RowKit


set_option maxHeartbeats 400000 in
theorem ref_rotated (i : Nat) (A : Option Addr) (n c : Nat) (L : List Int) (w : World) (hA : Ints w A n L) (hi : i ≤ n) (hc : n ≤ c) :
    Calls Tryd.prog 59 #[.slice A n c, .int .i64 i] w fun e w' => ∃ A' c', e = .returned (.slice A' n c') ∧ Own w' w.heap.size A' n c' (rotL L i) ∧ Below w.heap.size w w' := by
  have hle := hA.le
  have hi0 : (0 : Int) ≤ (i : Int) := by omega
  have hi1 : (i : Int) ≤ (n : Int) := by omega
  have hi2 : (i : Int) ≤ (c : Int) := by omega
  go_enter Tryd.func59, Tryd.ntmps59
  go_wp2_with fail
  go_region_held3 (fun w' => Below w.heap.size w w') (first | exact (Below.refl _ _).drew | exact Below.trans (by assumption) (by assumption))
    (first
      | ((refine stepS rfl (.const (.slice none 0 0)) (.tmp 7) (by rfl) (by rfl) (Own.nil _ w.heap.size) (Ints.from (c := c) (hA.below (by assumption)) hi hc) (by rfl) (by rfl) (n - i) (by omega) (by omega) (Below.size (by assumption)) ?_; intro A1 c1 w1 hown1 hb1 hg1 hl1))
      | ((refine stepS rfl (.tmp 8) (.tmp 11) (by rfl) (by rfl) hown1 (Ints.to (hA.below (by assumption)) hi) (by rfl) (by rfl) n (by omega) (by omega) (Below.size (by assumption)) ?_; intro A2 c2 w2 hown2 hb2 hg2 hl2)))
  clear hb1 hg1 hl1 hg2 hl2
  go_wp2_with fail
  all_goals
    go_ret
    exact ⟨A2, c2, rfl, by simpa [rotL] using hown2, by assumption⟩

theorem Own.made {w : World} {base : Nat} (hb : base ≤ w.heap.size) : Own (w.alloc (.cells #[] 3)) base (some ⟨w.heap.size, 0, none⟩) 0 0 [] :=
  ⟨World.ownsRow_made w #[] 0 hb (by decide) rfl, rfl, by omega, by simp⟩

set_option maxHeartbeats 400000 in
theorem slices_clone (A : Option Addr) (n c : Nat) (L : List Int) (w : World) (hA : Ints w A n L) :
    Calls Tryd.prog 17 #[.slice A n c] w fun e w' => ∃ A' c', e = .returned (.slice A' n c') ∧ Own w' w.heap.size A' n c' L ∧ Below w.heap.size w w' := by
  have hle := hA.le
  have hnil := fun (w : World) (a : Option Addr) (n c : Nat) => Lib.run_eql_slice_nil (P := Tryd.prog) w 28 3 a n c 0 0 Tryd.underlying28
  rcases A with _ | ad
  · have hn : n = 0 := by
      rcases Nat.eq_zero_or_pos n with h0 | h0
      · exact h0
      · obtain ⟨ad, h, _⟩ := hA.2.2.2 h0
        cases h
    subst hn
    have hL : L = [] := List.eq_nil_of_length_eq_zero hA.len
    subst hL
    go_enter Tryd.func17, Tryd.ntmps17
    go_wp2_with fail
    go_ret
    exact ⟨_, _, rfl, Own.nil _ _, Below.refl _ _⟩
  · go_enter Tryd.func17, Tryd.ntmps17
    go_wp2_with (at_builtin; refine appS rfl _ _ rfl rfl (Own.made (Nat.le_refl _)) (hA.alloc (.cells #[] 3)) rfl rfl n (by omega) (by omega) ?c1 ?_)
    case c1 => simp
    intro A1 c1 w1 hown hb _ _
    have hbw := ((Below.refl w.heap.size w).alloc (Nat.le_refl _) (.cells #[] 3)).trans hb
    go_wp2_with fail
    go_ret
    exact ⟨_, _, rfl, hown, hbw⟩

/-- A list whose k outermost pairs are exchanged. -/
def SwappedI (L P : List Int) (k : Nat) : Prop := P.length = L.length ∧ ∀ t, t < L.length → P[t]? = if t < k ∨ L.length - 1 - k < t then L[L.length - 1 - t]? else L[t]?
theorem swapped_zeroI (L : List Int) : SwappedI L L 0 := ⟨rfl, fun t ht => by rw [if_neg (by omega)]⟩
theorem swapped_succI {L P : List Int} {k : Nat} {x y : Int} (h : SwappedI L P k) (hk : k < L.length - 1 - k) (hx : P[k]? = some x) (hy : P[L.length - 1 - k]? = some y) :
    SwappedI L ((P.set k y).set (L.length - 1 - k) x) (k + 1) := by
  refine ⟨by simp [h.1], fun t ht => ?_⟩
  have hx' := h.2 k (by omega)
  have hy' := h.2 (L.length - 1 - k) (by omega)
  rw [if_neg (by omega), hx] at hx'
  rw [if_neg (by omega), hy] at hy'
  rw [List.getElem?_set, List.getElem?_set]
  by_cases h1 : L.length - 1 - k = t
  · rw [if_pos h1, if_pos (by simp [h.1]; omega), if_pos (by omega), ← h1]
    rw [show L.length - 1 - (L.length - 1 - k) = k by omega, ← hx']
  · rw [if_neg h1]
    by_cases h2 : k = t
    · subst h2
      rw [if_pos rfl, if_pos (by rw [h.1]; omega), if_pos (by omega), ← hy']
    · rw [if_neg h2, h.2 t ht]
      by_cases h3 : t < k ∨ L.length - 1 - k < t
      · rw [if_pos h3, if_pos (by omega)]
      · rw [if_neg h3, if_neg (by omega)]
theorem swapped_endI {L P : List Int} {k : Nat} (h : SwappedI L P k) (hk : L.length ≤ 2 * k + 1) : P = L.reverse := by
  apply List.ext_getElem?
  intro t
  by_cases ht : t < L.length
  · rw [h.2 t ht, List.getElem?_reverse ht]
    by_cases h3 : t < k ∨ L.length - 1 - k < t
    · rw [if_pos h3]
    · rw [if_neg h3]
      congr 1; omega
  · rw [List.getElem?_eq_none (by rw [h.1]; omega), List.getElem?_eq_none (by simp; omega)]

theorem own_grown_trans {a b c : World} {row : Option Nat} (h : a.grownBy b row) (k : b.grownBy c row) : a.grownBy c row :=
  ⟨k.os.trans h.os, k.tape.trans h.tape, k.output.trans h.output, Nat.le_trans h.size k.size, fun i hi hne => (k.block i (Nat.lt_of_lt_of_le hi h.size) hne).trans (h.block i hi hne)⟩
theorem grown_drawnI {a b : World} {row : Option Nat} (h : a.grownBy b row) (n : Nat) : a.grownBy (b.drewN n) row := ⟨h.os, h.tape, h.output, h.size, h.block⟩
theorem grown_setI {a b : World} {g : Nat} (h : a.grownBy b (some g)) (j : Nat) (u : Value) : a.grownBy (b.setCell ⟨g, j, none⟩ u) (some g) :=
  ⟨h.os, h.tape, h.output, by simpa [World.setCell] using h.size, fun i hi hne => (Below.heap_setCell b ⟨g, j, none⟩ u i (by rintro rfl; exact hne rfl)).trans (h.block i hi hne)⟩

set_option maxHeartbeats 400000 in
theorem slices_reverseI (base : Nat) (A : Option Addr) (n c : Nat) (L : List Int) (w : World) (hA : Own w base A n c L) :
    Calls Tryd.prog 74 #[.slice A n c] w fun e w' => e = .returned (.tuple #[]) ∧ Own w' base A n c L.reverse ∧ w.grownBy w' (blk A) := by
  have hle := hA.le
  have HL := Lib.hid hA.len
  go_enter Tryd.func74, Tryd.ntmps74
  go_wp2_with fail
  go_loopw [2, 3] (fun i j wr => ∃ (k : Nat) (P : List Int), 2 * k ≤ n + 1 ∧ i = .int .i64 k ∧ j = .int .i64 ((n : Int) - 1 - k) ∧ Own wr base A n c P ∧ w.grownBy wr (blk A) ∧ Hid (SwappedI L P k)) (fun i _ _ => n - (intOf i).toNat)
  case atStart => exact ⟨0, L, by omega, rfl, by go_num, hA, World.grownBy.refl _ _, swapped_zeroI L⟩
  case round =>
    obtain ⟨k, P, hk, rfl, rfl, hown, hg, HP⟩ := hrel
    by_cases hlt : 2 * k + 1 < n
    · obtain ⟨g, rfl, hg1, hg2⟩ := hown.form (by omega)
      obtain ⟨j, hj⟩ : ∃ j : Nat, (n : Int) - 1 - k = j := ⟨n - 1 - k, by omega⟩
      have hPl : P.length = n := hown.len
      have hkj : k < j := by omega
      have hjn : j < n := by omega
      have hx : P[k]? = some (P[k]'(by omega)) := List.getElem?_eq_getElem _
      have hy : P[j]? = some (P[j]'(by omega)) := List.getElem?_eq_getElem _
      obtain ⟨x, hxe⟩ : ∃ x, x = P[k]'(by omega) := ⟨_, rfl⟩
      obtain ⟨y, hye⟩ : ∃ y, y = P[j]'(by omega) := ⟨_, rfl⟩
      rw [← hxe] at hx
      rw [← hye] at hy
      have c1 := hown.cell hx
      have c2 := hown.cell hy
      have HX := Lib.hid hx
      have HY := Lib.hid hy
      have HPL := Lib.hid hPl
      clear hx hy hxe hye hPl
      rw [hj]
      have HJ := Lib.hid hj
      clear hj
      have f1 := hown.free k
      have f2 := hown.free j
      have hkn : k < n := by omega
      have hne : ¬ k = j := by omega
      have hne' : ¬ j = k := by omega
      go_wp2_with fail
      go_region
      have hx3 : I64 x := hown.fits x (List.mem_of_getElem? HX.out)
      have hy3 : I64 y := hown.fits y (List.mem_of_getElem? HY.out)
      have hown' : Own ((wr.setCell ⟨g, k, none⟩ (.int .i64 y)).setCell ⟨g, j, none⟩ (.int .i64 x)).drew base (some ⟨g, 0, none⟩) n c ((P.set k y).set j x) := ((hown.stored k hy3).stored j hx3).drew
      have hg' : w.grownBy ((wr.setCell ⟨g, k, none⟩ (.int .i64 y)).setCell ⟨g, j, none⟩ (.int .i64 x)).drew (blk (some ⟨g, 0, none⟩)) := grown_drawnI (grown_setI (grown_setI hg k _) j _) 1
      have HP' : Hid (SwappedI L ((P.set k y).set j x) (k + 1)) := by
        have e : j = L.length - 1 - k := by have := HJ.out; have := HL.out; omega
        subst e
        exact swapped_succI HP.out hkj HX.out HY.out
      have hj1 := HJ.out
      clear hown hg HP HX HY HPL HJ c1 c2 f1 f2 hx3 hy3
      have hji : (j : Int) - 1 = (n : Int) - 1 - (k + 1 : Nat) := by omega
      have HJI := Lib.hid hji
      clear hji hj1
      go_wp2_with fail
      go_roundw
      case rel => exact ⟨k + 1, _, by omega, by go_num, by rw [HJI.out], hown', hg', HP'⟩
      case measure => simp [intOf]; omega
    · go_wp2_with fail
      go_end0
      have e := swapped_endI HP.out (by have := HL.out; omega)
      subst e
      exact ⟨rfl, hown, hg⟩

set_option maxHeartbeats 400000 in
theorem line_reverse_ (A : Option Addr) (n c : Nat) (L : List Int) (w : World) (hA : Ints w A n L) :
    Calls Tryd.prog 51 #[.slice A n c] w fun e w' => ∃ A' c', e = .returned (.slice A' n c') ∧ Own w' w.heap.size A' n c' L.reverse ∧ Below w.heap.size w w' := by
  go_enter Tryd.func51, Tryd.ntmps51
  go_wp2_with fail
  refine (slices_clone _ _ _ _ _ hA).mono ?_
  rintro e w1 ⟨A1, c1, rfl, hown, hb⟩
  go_wp2_with fail
  refine (slices_reverseI _ _ _ _ _ _ hown).mono ?_
  rintro e w2 ⟨rfl, hown2, hg⟩
  have hb2 := hb.grown hg hb.size (fun k hk => (hown.lt k hk).1)
  clear hown hb hg
  go_wp2_with fail
  go_ret
  exact ⟨_, _, rfl, hown2, hb2⟩
end

section
open Go.RowKit

/-- A slice with what it reads as. -/
structure SL where
  A : Option Addr
  n : Nat
  c : Nat
  L : List Int
/-- The first error of some words. -/
def errs : List SL → Int
  | [] => 0
  | s :: r => if errW s.L = 0 then errs r else errW s.L
/-- Words that lie behind each other at ad. -/
def Many (w : World) (ad : Addr) (vs : List SL) : Prop := ∀ (j : Nat) (s : SL), vs[j]? = some s → w.cell? (ad.add j) = some (.slice s.A s.n s.c) ∧ Ints w s.A s.n s.L
theorem errs_none {vs : List SL} {k : Nat} (h : vs.length ≤ k) (he : errs (vs.drop k) = errs vs) : errs vs = 0 := by
  rw [List.drop_eq_nil_of_le h] at he; exact he.symm
theorem errs_step {vs : List SL} {k : Nat} {s : SL} (hs : vs[k]? = some s) (he : errs (vs.drop k) = errs vs) (h0 : errW s.L = 0) : errs (vs.drop (k + 1)) = errs vs := by
  rw [← he]
  have hk : k < vs.length := (List.getElem?_eq_some_iff.1 hs).1
  rw [List.drop_eq_getElem_cons hk]
  rw [List.getElem?_eq_getElem hk] at hs
  rw [Option.some.inj hs]
  simp [errs, h0]
theorem errs_hit {vs : List SL} {k : Nat} {s : SL} (hs : vs[k]? = some s) (he : errs (vs.drop k) = errs vs) (h0 : errW s.L ≠ 0) : errs vs = errW s.L := by
  rw [← he]
  have hk : k < vs.length := (List.getElem?_eq_some_iff.1 hs).1
  rw [List.drop_eq_getElem_cons hk]
  rw [List.getElem?_eq_getElem hk] at hs
  rw [Option.some.inj hs]
  simp [errs, h0]

set_option maxHeartbeats 400000 in
theorem line_check (ad : Addr) (n c : Nat) (vs : List SL) (w : World) (hA : Many w ad vs) (hn : vs.length = n) (hle : n ≤ 100) :
    Calls Tryd.prog 35 #[.slice (some ad) n c] w fun e w' => e = .returned (.int .i64 (errs vs)) ∧ w' = w := by
  have HN := Lib.hid hn
  clear hn
  go_enter Tryd.func35, Tryd.ntmps35
  go_wp2_with fail
  go_loop [7] (fun i => ∃ k : Nat, k ≤ n ∧ i = .int .i64 k ∧ Hid (errs (vs.drop k) = errs vs)) (fun i => n - (intOf i).toNat)
  case atStart => exact ⟨0, Nat.zero_le _, rfl, rfl⟩
  case round =>
    obtain ⟨k, hk, rfl, hno⟩ := hrel
    by_cases hlt : k < n
    · have hs := List.getElem?_eq_getElem (show k < vs.length by rw [HN.out]; exact hlt)
      obtain ⟨s, hse⟩ : ∃ s, s = vs[k]'(by rw [HN.out]; exact hlt) := ⟨_, rfl⟩
      rw [← hse] at hs
      clear hse
      obtain ⟨hc, hI⟩ := hA k s hs
      obtain ⟨A, m, d, L⟩ := s
      simp only at hc hI
      have HS := Lib.hid hs
      clear hs
      have hm := hI.le
      have HL := Lib.hid hI.len
      by_cases h : 400 < m
      · have hg : errW L = 7 := by unfold errW; rw [HL.out, if_pos h]
        have hf := Lib.hid (show errs vs = 7 by rw [errs_hit HS.out hno.out (by simp only; rw [hg]; decide), ← hg])
        clear hg
        go_wp2_with fail
        go_ret
        exact ⟨ret_int hf.out.symm, rfl⟩
      · rcases Bool.eq_false_or_eq_true (wordB L) with hw | hw
        · have hg : errW L = 0 := by unfold errW; rw [HL.out, if_neg h, if_pos hw]
          have hf := Lib.hid (errs_step HS.out hno.out hg)
          clear hg
          go_wp2_with (first | (go_at_call 29; refine (line_word _ _ _ _ _ hI).mono ?_; rintro e w' ⟨rfl, rfl⟩))
          go_round
          case rel => exact ⟨k + 1, by omega, by go_num, hf⟩
          case measure => simp [intOf]; omega
        · have hg : errW L = 2 := by unfold errW; rw [HL.out, if_neg h, hw]; rfl
          have hf := Lib.hid (show errs vs = 2 by rw [errs_hit HS.out hno.out (by simp only; rw [hg]; decide), ← hg])
          clear hg
          go_wp2_with (first | (go_at_call 29; refine (line_word _ _ _ _ _ hI).mono ?_; rintro e w' ⟨rfl, rfl⟩))
          go_ret
          exact ⟨ret_int hf.out.symm, rfl⟩
    · go_wp2_with fail
      go_ret
      exact ⟨ret_int (errs_none (by rw [HN.out]; omega) hno.out).symm, rfl⟩

theorem errs_one (A : Option Addr) (n c : Nat) (L : List Int) : errs [⟨A, n, c, L⟩] = errW L := by
  unfold errs
  split
  · rename_i h; simp only at h; rw [h]; rfl
  · rfl
/-- One word in a block of its own. -/
theorem many_one {w : World} {A : Option Addr} {n c : Nat} {L : List Int} {t : TypeId} (hA : Ints w A n L) :
    Many (w.alloc (.cells #[.slice A n c] t)) ⟨w.heap.size, 0, none⟩ [⟨A, n, c, L⟩] := by
  intro j s hs
  match j, hs with
  | 0, hs =>
    simp only [List.getElem?_cons_zero, Option.some.injEq] at hs
    subst hs
    exact ⟨by rw [Addr.add_lit, World.cell?_alloc_at _ _ _ _ rfl]; rfl, hA.alloc _⟩
theorem ret_pair {A : Option Addr} {n n' c : Nat} {e e' : Int} (h : n = n') (h' : e = e') : Ending.returned (.tuple #[.slice A n c, .int .i64 e]) = .returned (.tuple #[.slice A n' c, .int .i64 e']) := by rw [h, h']

/-- What a function of the layer returns: a list where there is no error. -/
def okL (e : Int) (L : List Int) : List Int := if e = 0 then L else []
theorem okL_yes {e : Int} (h : e = 0) (L : List Int) : okL e L = L := if_pos h
theorem okL_no {e : Int} (h : e ≠ 0) (L : List Int) : okL e L = [] := if_neg h
/-- A list and an error are returned. -/
def Gives (w : World) (L : List Int) (er : Int) (e : Ending) (w' : World) : Prop :=
  ∃ A' c', e = .returned (.tuple #[.slice A' L.length c', .int .i64 er]) ∧ Own w' w.heap.size A' L.length c' L ∧ Below w.heap.size w w'
theorem gives_nil {w w' : World} {er : Int} {L : List Int} (h : L = []) (hb : Below w.heap.size w w') : Gives w L er (.returned (.tuple #[.slice none 0 0, .int .i64 er])) w' := by
  subst h
  exact ⟨none, 0, rfl, Own.nil _ _, hb⟩
theorem gives_own {w w' : World} {er : Int} {A : Option Addr} {n c : Nat} {L M : List Int} (h : Own w' w.heap.size A n c M) (hM : M = L) (hb : Below w.heap.size w w') :
    Gives w L er (.returned (.tuple #[.slice A n c, .int .i64 er])) w' := by
  subst hM
  have e := h.len
  subst e
  exact ⟨A, c, rfl, h, hb⟩

end

section
open Go.RowKit

theorem Ints.oneI {w : World} {t : TypeId} {x : Int} (hx : I64 x) : Ints (w.alloc (.cells #[.int .i64 x] t)) (some ⟨w.heap.size, 0, none⟩) 1 [x] := by
  refine ⟨rfl, by omega, by intro y hy; simp at hy; subst hy; exact hx, fun _ => ⟨_, rfl, by simp, fun j y hy => ?_⟩⟩
  match j, hy with
  | 0, hy =>
    simp only [List.getElem?_cons_zero, Option.some.injEq] at hy
    subst hy
    rw [Addr.add_lit, World.cell?_alloc_at _ _ _ _ rfl]; rfl
theorem Ints.one_drew {w : World} {t : TypeId} {x : Int} (hx : I64 x) : Ints (w.alloc (.cells #[.int .i64 x] t)).drew (some ⟨w.heap.size, 0, none⟩) 1 [x] := Ints.oneI hx
theorem Ints.grown0 {w w' : World} {A : Option Addr} {n : Nat} {L : List Int} (h : Ints w A n L) (hg : w.grownBy w' (blk none)) : Ints w' A n L :=
  h.keep hg.size fun p hp => World.cell?_of_block (hg.block p.block hp (by simp [blk]))
theorem Ints.two {w : World} {x y : Int} (hx : I64 x) (hy : I64 y) : Own (w.alloc (.cells #[.int .i64 x, .int .i64 y] 3)) w.heap.size (some ⟨w.heap.size, 0, none⟩) 2 2 [x, y] := by
  refine ⟨⟨rfl, .inr ⟨w.heap.size, 2, _, rfl, Nat.le_refl _, heap_alloc_new w _, Nat.le_refl _, by decide, rfl, rfl⟩⟩, rfl, by omega, ?_⟩
  intro z hz
  simp at hz
  rcases hz with rfl | rfl
  · exact hx
  · exact hy

def tnL : List Int → List Int
  | [] => []
  | x :: r => r ++ [x]
theorem turnL_eq (L : List Int) : tnL L = rotL L 1 := by cases L <;> simp [tnL, rotL]

theorem keepS {w wx : World} {ad : Addr} {v : Value} (hc : w.cell? ad = some v) (h : Below w.heap.size w wx) : Below w.heap.size w wx ∧ wx.cell? ad = some v :=
  ⟨h, (h.cell (World.block_lt_of_cell? w ad hc)).trans hc⟩
theorem keepT {w a b : World} {ad : Addr} {v : Value} (hc : w.cell? ad = some v) (h : Below w.heap.size w a ∧ a.cell? ad = some v) (k : Below w.heap.size a b) : Below w.heap.size w b ∧ b.cell? ad = some v := keepS hc (h.1.trans k)
theorem keepA {w a : World} {ad : Addr} {v : Value} (hc : w.cell? ad = some v) (h : Below w.heap.size w a ∧ a.cell? ad = some v) (o : Obj) : Below w.heap.size w (a.alloc o) ∧ (a.alloc o).cell? ad = some v := keepS hc (h.1.alloc h.1.size o)
theorem turnL_of {L : List Int} {x : Int} (hx : L[0]? = some x) : [] ++ L.drop 1 ++ [x] = tnL L := by
  cases L with
  | nil => simp at hx
  | cons y r => simp at hx; subst hx; rfl

/-- line.Circle's error. -/
def errC (i j : Int) : Int := if 1 ≤ i ∧ i ≤ j ∧ j ≤ 40 then 0 else 2
end

section
open Go.RowKit

/-- The letter i is below f. -/
def ltAt (L : List Int) (f : Int) (i : Nat) : Bool := match L[i]? with
  | some x => decide (x < f)
  | none => false
theorem ltAt_of {L : List Int} {f x : Int} {i : Nat} (h : L[i]? = some x) : ltAt L f i = decide (x < f) := by unfold ltAt; rw [h]
/-- line.Inside: the fingers to k with an odd number of letters below them. -/
def insTo (L : List Int) : Nat → List Int
  | 0 => []
  | k + 1 => insTo L k ++ (if countTo (ltAt L ((k : Int) + 1)) L.length % 2 = 1 then [(k : Int) + 1] else [])
theorem insTo_yes {L : List Int} {k : Nat} (h : countTo (ltAt L ((k : Int) + 1)) L.length % 2 = 1) : insTo L (k + 1) = insTo L k ++ [(k : Int) + 1] := by
  rw [insTo, if_pos h]
theorem insTo_no {L : List Int} {k : Nat} (h : ¬ countTo (ltAt L ((k : Int) + 1)) L.length % 2 = 1) : insTo L (k + 1) = insTo L k := by
  rw [insTo, if_neg h, List.append_nil]
theorem of_errF {K : Int} {L : List Int} (h : errF K L = 0) : validB K L = true := by
  unfold errF at h
  by_cases h1 : 400 < L.length
  · rw [if_pos h1] at h; cases h
  · rw [if_neg h1] at h
    cases hv : validB K L
    · rw [hv] at h; cases h
    · rfl
theorem k_of_validB {K : Int} {L : List Int} (hv : validB K L = true) : 0 ≤ K ∧ K ≤ 40 := by
  unfold validB at hv
  simp only [Bool.and_eq_true, decide_eq_true_eq] at hv
  exact hv.1.1

set_option maxHeartbeats 800000 in
theorem line_Inside (K : Int) (A : Option Addr) (n c : Nat) (L : List Int) (w : World) (hA : Ints w A n L) :
    Calls Tryd.prog 22 #[.int .i64 K, .slice A n c] w (Gives w (okL (errF K L) (insTo L K.toNat)) (errF K L)) := by
  have hle := hA.le
  have HL := Lib.hid hA.len
  by_cases h : errF K L = 0
  · rw [okL_yes h, h]
    have hv := of_errF h
    have hK := k_of_validB hv
    obtain ⟨hK1, hK2⟩ := hK
    obtain ⟨N, rfl⟩ : ∃ N : Nat, K = N := ⟨K.toNat, by omega⟩
    rw [Int.toNat_natCast]
    have hn400 : n ≤ 400 := by rw [← HL.out]; exact (len_of_wordB (wordB_of_validB hv)).1
    clear hv
    go_enter Tryd.func22, Tryd.ntmps22
    go_wp2_with (first | (go_at_call 34; refine (line_checkFor _ _ _ _ _ _ hA).mono ?_; rintro e w' ⟨rfl, rfl⟩))
    clear h
    go_loopw [7, 8] (fun v f wr => ∃ (k m : Nat) (B : Option Addr) (d : Nat) (P : List Int), k ≤ N ∧ m ≤ k ∧ f = .int .i64 ((k : Int) + 1) ∧ v = .slice B m d ∧ Own wr w'.heap.size B m d P ∧ Below w'.heap.size w' wr ∧ Hid (P = insTo L k)) (fun _ f _ => (N + 1) - (intOf f).toNat)
    case atStart => exact ⟨0, 0, none, 0, [], Nat.zero_le _, Nat.le_refl _, by go_num, rfl, Own.nil _ _, Below.refl _ _, rfl⟩
    case round =>
      obtain ⟨k, m, B, d, P, hk, hmk, rfl, rfl, hown, hb, HP⟩ := hrel
      by_cases hlt : k < N
      · go_wp2_with fail
        obtain ⟨wo, rfl⟩ : ∃ wo : World, wo = wr := ⟨_, rfl⟩
        go_loop [9, 25] (fun s j => ∃ t : Nat, t ≤ n ∧ j = .int .i64 t ∧ s = .int .i64 (countTo (ltAt L ((k : Int) + 1)) t : Nat)) (fun _ j => n - (intOf j).toNat)
        case atStart => exact ⟨0, Nat.zero_le _, rfl, rfl⟩
        case round =>
          obtain ⟨t, ht, rfl, rfl⟩ := hrel
          have hcl := countTo_le (ltAt L ((k : Int) + 1)) t
          have hcy := Lib.hid (countTo_yes (p := ltAt L ((k : Int) + 1)) (n := t))
          have hcn := Lib.hid (countTo_no (p := ltAt L ((k : Int) + 1)) (n := t))
          obtain ⟨s, hs⟩ : ∃ s, countTo (ltAt L ((k : Int) + 1)) t = s := ⟨_, rfl⟩
          rw [hs] at hcl hcy hcn ⊢
          have HS := Lib.hid hs
          clear hs
          by_cases htn : t < n
          · obtain ⟨ad, x, rfl, hx, hx1, hx2, hc⟩ := (hA.below hb).at_ htn
            by_cases hxf : x < (k : Int) + 1
            · go_wp2_with fail
              go_round
              case rel => exact ⟨t + 1, by omega, by go_num, by rw [hcy.out (by rw [ltAt_of hx.out]; simpa using hxf)]; go_num⟩
              case measure => simp [intOf]; omega
            · go_wp2_with fail
              go_round
              case rel => exact ⟨t + 1, by omega, by go_num, by rw [hcn.out (by rw [ltAt_of hx.out]; simpa using hxf)]⟩
              case measure => simp [intOf]; omega
          · have htn' : t = n := by omega
            subst htn'
            by_cases hodd : s % 2 = 1
            · have ho' : ((s : Int) % 2 == 1) = true := by simp; omega
              have hP2 := Lib.hid (insTo_yes (L := L) (k := k) (by rw [HL.out, HS.out]; exact hodd))
              clear hodd
              have hsz := hb.size
              go_wp2_with (at_builtin; refine app1n rfl _ _ rfl hown ((k : Int) + 1) rfl rfl (by unfold I64; omega) (by omega) hsz ?_)
              intro B' d' w1 hown' hb' _ _
              have hbw := hb.trans hb'
              have HP' : Hid (P ++ [(k : Int) + 1] = insTo L (k + 1)) := by unfold Hid; rw [hP2.out, HP.out]
              clear hown hb hb' HP hP2
              go_wp2_with fail
              go_roundw
              case rel => exact ⟨k + 1, m + 1, B', d', _, by omega, by omega, by go_num, rfl, hown', hbw, HP'⟩
              case measure => simp [intOf]; omega
            · have ho' : ((s : Int) % 2 == 1) = false := by simp; omega
              have hP2 := Lib.hid (insTo_no (L := L) (k := k) (by rw [HL.out, HS.out]; exact hodd))
              clear hodd
              go_wp2_with fail
              go_roundw
              case rel => exact ⟨k + 1, m, B, d, _, by omega, by omega, by go_num, rfl, hown, hb, by rw [hP2.out]; exact HP⟩
              case measure => simp [intOf]; omega
      · go_wp2_with fail
        go_ret2
        have hkn : k = N := by omega
        subst hkn
        exact gives_own hown HP.out hb
  · rw [okL_no h]
    have hne : (errF K L != 0) = true := by simpa using h
    clear h
    go_enter Tryd.func22, Tryd.ntmps22
    go_wp2_with (first | (go_at_call 34; refine (line_checkFor _ _ _ _ _ _ hA).mono ?_; rintro e w' ⟨rfl, rfl⟩))
    go_ret2
    exact gives_nil rfl (Below.refl _ _)
end

section
open Go.RowKit

def windsL (L : List Int) (N : Nat) : List Int := (List.range N).map fun t : Nat => windI L ((t : Int) + 1)

/-- The winding numbers behind k letters; and in the midst of the letter k, when the fingers up to s have been reckoned. -/
def windMid (L : List Int) (N k s : Nat) : List Int := (List.range N).map fun t : Nat => sumTo (windAt L ((t : Int) + 1)) (if t < s then k + 1 else k)
theorem windMid_len (L : List Int) (N k s : Nat) : (windMid L N k s).length = N := by simp [windMid]
theorem windMid_get {L : List Int} {N k s : Nat} (h : s < N) : (windMid L N k s)[s]? = some (sumTo (windAt L ((s : Int) + 1)) k) := by
  unfold windMid
  rw [List.getElem?_map, List.getElem?_range h]
  simp
theorem windMid_succ {L : List Int} {N k s : Nat} {x : Int} (h : s < N) (hx : L[k]? = some x) (hs : x < (s : Int) + 1) :
    (windMid L N k s).set s (sumTo (windAt L ((s : Int) + 1)) k + (1 - 2 * ((k : Int) % 2))) = windMid L N k (s + 1) := by
  apply List.ext_getElem?
  intro t
  rw [List.getElem?_set]
  unfold windMid
  by_cases e : s = t
  · subst e
    rw [if_pos rfl, if_pos (by simpa using h), List.getElem?_map, List.getElem?_range h]
    simp [sumTo_succ, windAt_yes hx hs]
  · rw [if_neg e, List.getElem?_map, List.getElem?_map]
    by_cases ht : t < N
    · rw [List.getElem?_range ht]
      by_cases h1 : t < s
      · simp [h1, show t < s + 1 by omega]
      · simp [h1, show ¬ t < s + 1 by omega]
    · rw [List.getElem?_eq_none (by simpa using ht)]; rfl
theorem windMid_zero {L : List Int} {N k s : Nat} {x : Int} (hx : L[k]? = some x) (hs : (s : Int) ≤ x) : windMid L N k 0 = windMid L N k s := by
  unfold windMid
  apply List.map_congr_left
  intro t _
  by_cases h1 : t < s
  · rw [if_neg (by omega), if_pos h1, sumTo_succ, windAt_no hx (by omega), Int.add_zero]
  · rw [if_neg (by omega), if_neg h1]
theorem windMid_end (L : List Int) (N k : Nat) : windMid L N k N = windMid L N (k + 1) 0 := by
  unfold windMid
  apply List.map_congr_left
  intro t ht
  rw [if_pos (List.mem_range.1 ht), if_neg (by omega)]
theorem windMid_start (L : List Int) (N : Nat) : List.replicate N 0 = windMid L N 0 0 := by
  unfold windMid
  symm
  apply List.eq_replicate_iff.2
  simp [sumTo]
theorem windMid_last {L : List Int} {N n : Nat} (h : L.length = n) : windMid L N n 0 = windsL L N := by
  unfold windMid windsL windI
  rw [h]
  apply List.map_congr_left
  intro t _
  rw [if_neg (by omega)]
theorem le_of_validB {K x : Int} {L : List Int} {k : Nat} (h : validB K L = true) (hx : L[k]? = some x) : x ≤ K := by
  unfold validB at h
  simp only [Bool.and_eq_true, List.all_eq_true, decide_eq_true_eq] at h
  exact h.2 x (List.mem_of_getElem? hx)

set_option maxHeartbeats 1600000 in
theorem line_Winding (K : Int) (A : Option Addr) (n c : Nat) (L : List Int) (w : World) (hA : Ints w A n L) :
    Calls Tryd.prog 20 #[.int .i64 K, .slice A n c] w (Gives w (okL (errF K L) (windsL L K.toNat)) (errF K L)) := by
  have hle := hA.le
  have HL := Lib.hid hA.len
  by_cases h : errF K L = 0
  · rw [okL_yes h, h]
    have hv := of_errF h
    have hK := k_of_validB hv
    obtain ⟨hK1, hK2⟩ := hK
    obtain ⟨N, rfl⟩ : ∃ N : Nat, K = N := ⟨K.toNat, by omega⟩
    rw [Int.toNat_natCast]
    have hn400 : n ≤ 400 := by rw [← HL.out]; exact (len_of_wordB (wordB_of_validB hv)).1
    have HV := Lib.hid hv
    have h40 := Lib.hid (in40_of_wordB (wordB_of_validB hv))
    clear hv
    go_enter Tryd.func20, Tryd.ntmps20
    go_wp2_with (first | (go_at_call 34; refine (line_checkFor _ _ _ _ _ _ hA).mono ?_; rintro e w' ⟨rfl, rfl⟩) | (at_make; refine makeN rfl _ _ rfl N rfl rfl (by omega) (Nat.le_refl _) ?_; intro w1 hown hb1 hz1))
    have hs0 : w1.cell? ⟨w'.heap.size, 0, none⟩ = some (.int .i64 1) := (hb1.cell (by simp)).trans (by rw [World.cell?_alloc_at _ _ _ _ rfl]; rfl)
    have hs1 : w1.cell? ⟨w'.heap.size, 1, none⟩ = some (.int .i64 (-1)) := (hb1.cell (by simp)).trans (by rw [World.cell?_alloc_at _ _ _ _ rfl]; rfl)
    have hbw : Below w'.heap.size w' w1 := below_chain ((Below.refl _ _).alloc (Nat.le_refl _) _) hb1 (by simp)
    have hown := hown.mono (base' := w'.heap.size) (by simp)
    have esz : (w'.alloc (.cells #[.int .i64 1, .int .i64 (-1)] 53)).heap.size = w'.heap.size + 1 := by simp
    rw [esz] at hown
    clear esz
    have HS0 := Lib.hid hs0
    have HS1 := Lib.hid hs1
    clear hb1 hs0 hs1 h
    rw [windMid_start L N] at hown
    obtain ⟨P0, hP0⟩ : ∃ P0, P0 = windMid L N 0 0 := ⟨_, rfl⟩
    rw [← hP0] at hown
    have HP0 := Lib.hid hP0
    clear hP0
    go_loopw [23] (fun i wr => ∃ (k : Nat) (P : List Int), k ≤ n ∧ i = .int .i64 k ∧ Own wr w'.heap.size (some ⟨w'.heap.size + 1, 0, none⟩) N N P ∧ w1.grownBy wr (some (w'.heap.size + 1)) ∧ Hid (P = windMid L N k 0)) (fun i _ => n - (intOf i).toNat)
    case atStart => exact ⟨0, _, Nat.zero_le _, rfl, hown, World.grownBy.refl _ _, HP0⟩
    case round =>
      obtain ⟨k, P, hk, rfl, hownr, hg, HP⟩ := hrel
      have hbr : Below w'.heap.size w' wr := hbw.grown hg hbw.size (fun k hk => by simp at hk; omega)
      by_cases hlt : k < n
      · obtain ⟨ad, x, rfl, hx, hx1, hx2, hc⟩ := (hA.below hbr).at_ hlt
        obtain ⟨hx3, hx4⟩ := h40.out.at_ hx.out
        have hxN := le_of_validB HV.out hx.out
        obtain ⟨q, rfl⟩ : ∃ q : Nat, x = q := ⟨x.toNat, by omega⟩
        rw [windMid_zero hx.out (Int.le_refl _)] at HP
        go_wp2_with fail
        obtain ⟨wo, rfl⟩ : ∃ wo : World, wo = wr := ⟨_, rfl⟩
        clear hc hbr
        go_loopw [11] (fun f wr => ∃ (s : Nat) (P : List Int), q ≤ s ∧ s ≤ N ∧ f = .int .i64 ((s : Int) + 1) ∧ Own wr w'.heap.size (some ⟨w'.heap.size + 1, 0, none⟩) N N P ∧ w1.grownBy wr (some (w'.heap.size + 1)) ∧ Hid (P = windMid L N k s)) (fun f _ => (N + 1) - (intOf f).toNat)
        case atStart => exact ⟨q, _, Nat.le_refl _, by omega, rfl, hownr, hg, HP⟩
        case round =>
          clear hownr hg HP
          obtain ⟨s, P, hs, hsN, rfl, hownr, hg, HP⟩ := hrel
          by_cases hsl : s < N
          · have hwb := wind_bd L ((s : Int) + 1) k
            have hget : P[s]? = some (sumTo (windAt L ((s : Int) + 1)) k) := by rw [HP.out]; exact windMid_get hsl
            have hnew := windMid_succ (N := N) hsl hx.out (by omega)
            obtain ⟨u, hu⟩ : ∃ u, sumTo (windAt L ((s : Int) + 1)) k = u := ⟨_, rfl⟩
            rw [hu] at hwb hget hnew
            clear hu
            obtain ⟨hw1, hw2⟩ := hwb
            have hcell := hownr.cell hget
            have hfree := hownr.free s
            have c0 : wr.cell? ⟨w'.heap.size, 0, none⟩ = some (.int .i64 1) := hg.cell HS0.out (by simp)
            have c1 : wr.cell? ⟨w'.heap.size, 1, none⟩ = some (.int .i64 (-1)) := hg.cell HS1.out (by simp)
            have HN := Lib.hid hnew
            clear hget hnew
            have hsn : (s : Int) < N := by omega
            rcases Nat.mod_two_eq_zero_or_one k with hk2 | hk2
            · have hk2' : (k : Int) % 2 = 0 := by omega
              have hset := hownr.stored s (x := u + 1) ⟨by omega, by omega⟩
              have hset2 := hset.drew
              have hg2 := grown_drawnI (grown_setI hg s (.int .i64 (u + 1))) 1
              have HP' : Hid (P.set s (u + 1) = windMid L N k (s + 1)) := by
                unfold Hid; rw [← HN.out, HP.out, hk2']; congr 1
              clear hset hownr hg HP HN
              go_wp2_with fail
              go_region
              go_wp2_with fail
              go_roundw
              case rel => exact ⟨s + 1, _, by omega, by omega, by go_num, hset2, hg2, HP'⟩
              case measure => simp [intOf]; omega
            · have hk2' : (k : Int) % 2 = 1 := by omega
              have hset := hownr.stored s (x := u + -1) ⟨by omega, by omega⟩
              have hset2 := hset.drew
              have hg2 := grown_drawnI (grown_setI hg s (.int .i64 (u + -1))) 1
              have HP' : Hid (P.set s (u + -1) = windMid L N k (s + 1)) := by
                unfold Hid; rw [← HN.out, HP.out, hk2']; congr 1
              clear hset hownr hg HP HN
              go_wp2_with fail
              go_region
              go_wp2_with fail
              go_roundw
              case rel => exact ⟨s + 1, _, by omega, by omega, by go_num, hset2, hg2, HP'⟩
              case measure => simp [intOf]; omega
          · have hsN' : s = N := by omega
            subst hsN'
            rw [windMid_end] at HP
            go_wp2_with fail
            go_roundw
            case rel => exact ⟨k + 1, _, by omega, by go_num, hownr, hg, HP⟩
            case measure => simp [intOf]; omega
      · go_wp2_with fail
        go_ret2
        have hkn : k = n := by omega
        subst hkn
        rw [windMid_last HL.out] at HP
        exact gives_own hownr HP.out hbr
  · rw [okL_no h]
    have hne : (errF K L != 0) = true := by simpa using h
    clear h
    go_enter Tryd.func20, Tryd.ntmps20
    go_wp2_with (first | (go_at_call 34; refine (line_checkFor _ _ _ _ _ _ hA).mono ?_; rintro e w' ⟨rfl, rfl⟩))
    go_ret2
    exact gives_nil rfl (Below.refl _ _)
end
end Go.Proofs.YtpdkonpnhalecaaDoor
