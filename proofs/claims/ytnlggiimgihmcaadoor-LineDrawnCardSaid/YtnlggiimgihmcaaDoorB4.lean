/-
  Contracts: line.Turn, ref.Turn, line.Circle, line.Inside, line.Winding. Conditions: the slices read as lists of ints.
-/
import Derived.Test.YtnlggiimgihmcaaDoorB3
namespace Go.Proofs.YtnlggiimgihmcaaDoor
open Go.RowKit

theorem Ints.one {w : World} {t : TypeId} {x : Int} (hx : I64 x) : Ints (w.alloc (.cells #[.int .i64 x] t)) (some ⟨w.heap.size, 0, none⟩) 1 [x] := by
  refine ⟨rfl, by omega, by intro y hy; simp at hy; subst hy; exact hx, fun _ => ⟨_, rfl, by simp, fun j y hy => ?_⟩⟩
  match j, hy with
  | 0, hy =>
    simp only [List.getElem?_cons_zero, Option.some.injEq] at hy
    subst hy
    rw [Addr.add_lit, World.cell?_alloc_at _ _ _ _ rfl]; rfl
theorem Ints.one_drew {w : World} {t : TypeId} {x : Int} (hx : I64 x) : Ints (w.alloc (.cells #[.int .i64 x] t)).drew (some ⟨w.heap.size, 0, none⟩) 1 [x] := Ints.one hx
theorem Ints.grown0 {w w' : World} {A : Option Addr} {n : Nat} {L : List Int} (h : Ints w A n L) (hg : w.grownBy w' (blk none)) : Ints w' A n L :=
  h.keep hg.size fun p hp => World.cell?_of_block (hg.block p.block hp (by simp [blk]))
theorem Ints.two {w : World} {x y : Int} (hx : I64 x) (hy : I64 y) : Own (w.alloc (.cells #[.int .i64 x, .int .i64 y] 3)) w.heap.size (some ⟨w.heap.size, 0, none⟩) 2 2 [x, y] := by
  refine ⟨⟨rfl, .inr ⟨w.heap.size, 2, _, rfl, Nat.le_refl _, heap_alloc_new w _, Nat.le_refl _, by decide, rfl, rfl⟩⟩, rfl, by omega, ?_⟩
  intro z hz
  simp at hz
  rcases hz with rfl | rfl
  · exact hx
  · exact hy

def turnL : List Int → List Int
  | [] => []
  | x :: r => r ++ [x]
theorem turnL_eq (L : List Int) : turnL L = rotL L 1 := by cases L <;> simp [turnL, rotL]

set_option maxHeartbeats 400000 in
theorem ref_turn (A : Option Addr) (n c : Nat) (L : List Int) (w : World) (hA : Ints w A n L) (hc : n ≤ c) :
    Calls Tryd.prog 45 #[.slice A n c] w fun e w' => ∃ A' c', e = .returned (.slice A' n c') ∧ Own w' w.heap.size A' n c' (turnL L) ∧ Below w.heap.size w w' := by
  have hle := hA.le
  by_cases h0 : n = 0
  · have hL : L = [] := List.eq_nil_of_length_eq_zero (by rw [hA.len]; exact h0)
    subst hL
    subst h0
    go_enter Tryd.func45, Tryd.ntmps45
    go_wp2_with fail
    go_ret
    exact ⟨_, _, rfl, Own.nil _ _, Below.refl _ _⟩
  · have h0' : ((n : Int) == 0) = false := by simp; omega
    have hn : 1 ≤ n := by omega
    clear h0
    go_enter Tryd.func45, Tryd.ntmps45
    go_wp2_with fail
    refine (ref_rotated 1 _ _ _ _ _ hA hn hc).mono ?_
    rintro e w1 ⟨A1, c1, rfl, hown, hb⟩
    go_wp2_with fail
    go_ret
    rw [← turnL_eq] at hown
    exact ⟨_, _, rfl, hown, hb⟩

theorem keepS {w wx : World} {ad : Addr} {v : Value} (hc : w.cell? ad = some v) (h : Below w.heap.size w wx) : Below w.heap.size w wx ∧ wx.cell? ad = some v :=
  ⟨h, (h.cell (World.block_lt_of_cell? w ad hc)).trans hc⟩
theorem keepT {w a b : World} {ad : Addr} {v : Value} (hc : w.cell? ad = some v) (h : Below w.heap.size w a ∧ a.cell? ad = some v) (k : Below w.heap.size a b) : Below w.heap.size w b ∧ b.cell? ad = some v := keepS hc (h.1.trans k)
theorem keepA {w a : World} {ad : Addr} {v : Value} (hc : w.cell? ad = some v) (h : Below w.heap.size w a ∧ a.cell? ad = some v) (o : Obj) : Below w.heap.size w (a.alloc o) ∧ (a.alloc o).cell? ad = some v := keepS hc (h.1.alloc h.1.size o)
theorem turnL_of {L : List Int} {x : Int} (hx : L[0]? = some x) : [] ++ L.drop 1 ++ [x] = turnL L := by
  cases L with
  | nil => simp at hx
  | cons y r => simp at hx; subst hx; rfl

set_option maxHeartbeats 800000 in
theorem line_Turn (A : Option Addr) (n c : Nat) (L : List Int) (w : World) (hA : Ints w A n L) (hcap : n ≤ c) :
    Calls Tryd.prog 40 #[.slice A n c] w (Gives w (okL (errW L) (turnL L)) (errW L)) := by
  have hb1 : Below w.heap.size w (w.alloc (.cells #[.slice A n c] 22)) := (Below.refl _ _).alloc (Nat.le_refl _) _
  have hle := hA.le
  by_cases h : errW L = 0
  · rw [okL_yes h, h]
    have HE := Lib.hid h
    clear h
    by_cases h0 : n = 0
    · have hL : L = [] := List.eq_nil_of_length_eq_zero (by rw [hA.len]; exact h0)
      subst hL
      subst h0
      go_enter Tryd.func40, Tryd.ntmps40
      go_wp2_with fail
      refine (line_check _ _ _ _ _ (many_one hA) rfl (by simp)).mono ?_
      rintro e w' ⟨rfl, rfl⟩
      rw [errs_one, HE.out]
      go_wp2_with fail
      go_ret2
      exact gives_nil rfl hb1
    · have h0' : ((n : Int) == 0) = false := by simp; omega
      have hn : 0 < n := by omega
      obtain ⟨ad, _, rfl, _, _, _, _⟩ := hA.at_ hn
      have hA1 := hA.alloc (.cells #[.slice (some ad) n c] 22)
      obtain ⟨x, hx, hx1, hx2, hc⟩ := hA1.also hn
      have hx64 : Hid (I64 x) := ⟨hx1, hx2⟩
      have hc' : (w.alloc (.cells #[.slice (some ad) n c] 22)).cell? ad = some (.int .i64 x) := by simpa [Addr.add] using hc
      have b1 : (1 : Int) ≤ (n : Int) := by omega
      have b2 : (1 : Int) ≤ (c : Int) := by omega
      clear hc h0
      have hm := many_one (t := 22) (c := c) hA
      obtain ⟨W, hW⟩ : ∃ W, W = w.alloc (.cells #[.slice (some ad) n c] 22) := ⟨_, rfl⟩
      go_enter Tryd.func40, Tryd.ntmps40
      go_wp2_with fail
      refine (line_check _ _ _ _ _ hm rfl (by simp)).mono ?_
      rintro e w' ⟨rfl, hw'⟩
      rw [← hW] at hw' hA1 hc' hb1
      subst hw'
      rw [errs_one, HE.out]
      clear hm hW
      go_wp2_with fail
      go_region_held3 (fun wx => Below w'.heap.size w' wx ∧ wx.cell? ad = some (.int .i64 x))
        (first | exact keepS hc' (Below.refl _ _).drew | exact keepT hc' (by assumption) (by assumption) | exact keepA hc' (by assumption) _)
        (first
          | ((refine stepS rfl (.const (.slice none 0 0)) (.tmp 17) (by rfl) (by rfl) (Own.nil _ w'.heap.size) (Ints.from (c := c) (hA1.below (And.left (by assumption))) hn hcap) (by rfl) (by rfl) (n - 1) (by omega) (by omega) (Below.size (And.left (by assumption))) ?_; intro A1 c1 w1 hown1 hbx1 hg1 hl1))
          | ((refine stepS rfl (.tmp 18) (.tmp 22) (by rfl) (by rfl) (hown1.alloc _) (Ints.one hx64.out) (by rfl) (by rfl) n (by omega) (by omega) (Below.size (And.left (by assumption))) ?_; intro A2 c2 w2 hown2 hb2 hg2 hl2))
          | ((refine stepS rfl (.tmp 18) (.tmp 22) (by rfl) (by rfl) hown1 (Ints.grown0 (Ints.one_drew hx64.out) hg1) (by rfl) (by rfl) n (by omega) (by omega) (Below.size (And.left (by assumption))) ?_; intro A2 c2 w2 hown2 hb2 hg2 hl2)))
      all_goals
        go_wp2_with fail
        all_goals
          go_ret2
          exact gives_own (hown2.mono hb1.size) (turnL_of hx.out) (below_chain hb1 (And.left (by assumption)) hb1.size)
  · rw [okL_no h]
    have hne : (errW L != 0) = true := by simpa using h
    have HE := Lib.hid (errs_one A n c L)
    clear h
    obtain ⟨er, her⟩ : ∃ er, er = errW L := ⟨_, rfl⟩
    rw [← her] at hne ⊢
    rw [← her] at HE
    clear her
    go_enter Tryd.func40, Tryd.ntmps40
    go_wp2_with fail
    refine (line_check _ _ _ _ _ (many_one hA) rfl (by simp)).mono ?_
    rintro e w' ⟨rfl, rfl⟩
    rw [HE.out]
    go_wp2_with fail
    go_ret2
    exact gives_nil rfl hb1

/-- line.Circle's error. -/
def errC (i j : Int) : Int := if 1 ≤ i ∧ i ≤ j ∧ j ≤ 40 then 0 else 2
set_option maxHeartbeats 400000 in
theorem line_Circle (i j : Int) (w : World) (hi : I64 i) (hj : I64 j) :
    Calls Tryd.prog 38 #[.int .i64 i, .int .i64 j] w (Gives w (okL (errC i j) [i - 1, j]) (errC i j)) := by
  obtain ⟨hi1, hi2⟩ := hi
  obtain ⟨hj1, hj2⟩ := hj
  by_cases h1 : 1 ≤ i
  · by_cases h2 : i ≤ j
    · by_cases h3 : j ≤ 40
      · have he : errC i j = 0 := by unfold errC; rw [if_pos ⟨h1, h2, h3⟩]
        rw [okL_yes he, he]
        clear he
        go_enter Tryd.func38, Tryd.ntmps38
        go_wp2_with fail
        go_ret2
        exact gives_own (Ints.two ⟨by omega, by omega⟩ ⟨by omega, by omega⟩) rfl ((Below.refl _ _).alloc (Nat.le_refl _) _)
      · have he : errC i j = 2 := by unfold errC; rw [if_neg (by omega)]
        rw [okL_no (by rw [he]; decide), he]
        clear he
        go_enter Tryd.func38, Tryd.ntmps38
        go_wp2_with fail
        go_ret2
        exact gives_nil rfl (Below.refl _ _)
    · have he : errC i j = 2 := by unfold errC; rw [if_neg (by omega)]
      rw [okL_no (by rw [he]; decide), he]
      clear he
      go_enter Tryd.func38, Tryd.ntmps38
      go_wp2_with fail
      go_ret2
      exact gives_nil rfl (Below.refl _ _)
  · have he : errC i j = 2 := by unfold errC; rw [if_neg (by omega)]
    rw [okL_no (by rw [he]; decide), he]
    clear he
    go_enter Tryd.func38, Tryd.ntmps38
    go_wp2_with fail
    go_ret2
    exact gives_nil rfl (Below.refl _ _)
end Go.Proofs.YtnlggiimgihmcaaDoor
