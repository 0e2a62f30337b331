/-
  Contracts: ref.before, ref.between. Conditions: the slices read, the indexes are in bounds.
-/
import Derived.Test.YtkjcmppaapbabaaDoorC2
namespace Go.Proofs.YtkjcmppaapbabaaDoor
open Go.RowKit
/-- One crossing lies to the left of another one. -/
def befB (L R : List Int) (i j : Nat) : Bool := decide (lat L i < lat L j) || (decide (lat L i = lat L j) && decide (lat R i < lat R j))
def btwB (L R : List Int) (x a b : Nat) : Bool := (befB L R a x && befB L R x b) || (befB L R b x && befB L R x a)

set_option maxHeartbeats 800000 in
theorem ref_before (i j : Nat) (A B : Option Addr) (n c d : Nat) (L R : List Int) (w : World) (hA : Ints w A n L) (hB : Ints w B n R) (hi : i < n) (hj : j < n) :
    Calls Tryd.prog 133 #[.slice A n c, .slice B n d, .int .i64 (i : Int), .int .i64 (j : Int)] w fun e w' => e = .returned (.bool (befB L R i j)) ∧ Drawn w w' := by
  have hle := hA.le
  obtain ⟨ad, x, rfl, hx, hx1, hx2, hc1⟩ := hA.at_ hi
  obtain ⟨y, hy, hy1, hy2, hc2⟩ := hA.also hj
  obtain ⟨bd, r, rfl, hr, hr1, hr2, hc3⟩ := hB.at_ hi
  obtain ⟨s, hs, hs1, hs2, hc4⟩ := hB.also hj
  have e1 := lat_of hx.out
  have e2 := lat_of hy.out
  have e3 := lat_of hr.out
  have e4 := lat_of hs.out
  have i1 : (0 : Int) ≤ (i : Int) := by omega
  have i2 : (i : Int) < (n : Int) := by omega
  have j1 : (0 : Int) ≤ (j : Int) := by omega
  have j2 : (j : Int) < (n : Int) := by omega
  rcases Int.lt_trichotomy x y with h | h | h
  · have hf : Hid (true = befB L R i j) := by unfold Hid befB; rw [e1, e2]; simp [h]
    clear e1 e2 e3 e4
    go_enter Tryd.func133, Tryd.ntmps133
    go_wp2_with fail
    go_quiet (fail)
    go_wp2_with fail
    go_ret
    exact ⟨ret_bool (by rw [← hf.out]), drawn1 _ _⟩
  · subst h
    by_cases hrs : r < s
    · have hf : Hid (true = befB L R i j) := by unfold Hid befB; rw [e1, e2, e3, e4]; simp [hrs]
      clear e1 e2 e3 e4
      go_enter Tryd.func133, Tryd.ntmps133
      go_wp2_with fail
      go_quiet (fail)
      go_wp2_with fail
      go_ret
      exact ⟨ret_bool (by rw [← hf.out]), drawn1 _ _⟩
    · have hf : Hid (false = befB L R i j) := by unfold Hid befB; rw [e1, e2, e3, e4]; simp [hrs]
      clear e1 e2 e3 e4
      go_enter Tryd.func133, Tryd.ntmps133
      go_wp2_with fail
      go_quiet (fail)
      go_wp2_with fail
      go_ret
      exact ⟨ret_bool (by rw [← hf.out]; simpa using hrs), drawn1 _ _⟩
  · have hf : Hid (false = befB L R i j) := by
      unfold Hid befB; rw [e1, e2]
      have h1 : ¬x < y := by omega
      have h2 : ¬x = y := by omega
      simp [h1, h2]
    have hne : (x == y) = false := by simpa using fun e => by omega
    have hnl : decide (x < y) = false := by simpa using by omega
    clear e1 e2 e3 e4
    go_enter Tryd.func133, Tryd.ntmps133
    go_wp2_with fail
    go_quiet (fail)
    go_wp2_with fail
    go_ret
    exact ⟨ret_bool (by rw [← hf.out]), drawn1 _ _⟩
theorem ref_before_is {b : Bool} {L R : List Int} {i j : Nat} (h : befB L R i j = b) (A B : Option Addr) (n c d : Nat) (w : World) (hA : Ints w A n L) (hB : Ints w B n R) (hi : i < n) (hj : j < n) :
    Calls Tryd.prog 133 #[.slice A n c, .slice B n d, .int .i64 (i : Int), .int .i64 (j : Int)] w fun e w' => e = .returned (.bool b) ∧ Drawn w w' := by
  subst h
  exact ref_before i j A B n c d L R w hA hB hi hj

theorem ref_between (x a b : Nat) (A B : Option Addr) (n c d : Nat) (L R : List Int) (w : World) (hA : Ints w A n L) (hB : Ints w B n R) (hx : x < n) (ha : a < n) (hb : b < n) :
    Calls Tryd.prog 104 #[.slice A n c, .slice B n d, .int .i64 (x : Int), .int .i64 (a : Int), .int .i64 (b : Int)] w fun e w' => e = .returned (.bool (btwB L R x a b)) ∧ Drawn w w' := by
  have h0 := Drawn.refl w
  generalize hr : btwB L R x a b = res
  unfold btwB at hr
  cases p1 : befB L R a x with
  | true =>
    cases p2 : befB L R x b with
    | true =>
      rw [p1, p2] at hr
      obtain rfl : true = res := hr
      have P1 := Lib.hid p1
      have P2 := Lib.hid p2
      clear p1 p2
      go_enter Tryd.func104, Tryd.ntmps104
      go_wp2_with fail
      refine (ref_before_is P1.out _ _ _ _ _ _ hA hB ha hx).mono ?_
      rintro e w1 ⟨rfl, d1⟩
      go_wp2_with fail
      refine (ref_before_is P2.out _ _ _ _ _ _ (hA.drawn d1) (hB.drawn d1) hx hb).mono ?_
      rintro e w2 ⟨rfl, d2⟩
      have d3 := d1.trans d2
      clear d1 d2
      go_wp2_with fail
      go_ret
      exact ⟨rfl, d3⟩
    | false =>
      rw [p1, p2] at hr
      cases p3 : befB L R b x with
      | true =>
        generalize hp4 : befB L R x a = q at hr
        rw [p3] at hr
        have P1 := Lib.hid p1
        have P2 := Lib.hid p2
        have P3 := Lib.hid p3
        have P4 := Lib.hid hp4
        obtain rfl : q = res := hr
        clear p1 p2 p3 hp4
        go_enter Tryd.func104, Tryd.ntmps104
        go_wp2_with fail
        refine (ref_before_is P1.out _ _ _ _ _ _ hA hB ha hx).mono ?_
        rintro e w1 ⟨rfl, d1⟩
        go_wp2_with fail
        refine (ref_before_is P2.out _ _ _ _ _ _ (hA.drawn d1) (hB.drawn d1) hx hb).mono ?_
        rintro e w2 ⟨rfl, d2⟩
        have d3 := d1.trans d2
        clear d1 d2
        go_wp2_with fail
        refine (ref_before_is P3.out _ _ _ _ _ _ (hA.drawn d3) (hB.drawn d3) hb hx).mono ?_
        rintro e w3 ⟨rfl, d4⟩
        have d5 := d3.trans d4
        clear d3 d4
        go_wp2_with fail
        refine (ref_before_is P4.out _ _ _ _ _ _ (hA.drawn d5) (hB.drawn d5) hx ha).mono ?_
        rintro e w4 ⟨rfl, d6⟩
        have d7 := d5.trans d6
        clear d5 d6
        go_wp2_with fail
        go_ret
        exact ⟨rfl, d7⟩
      | false =>
        rw [p3] at hr
        have P1 := Lib.hid p1
        have P2 := Lib.hid p2
        have P3 := Lib.hid p3
        obtain rfl : false = res := hr
        clear p1 p2 p3
        go_enter Tryd.func104, Tryd.ntmps104
        go_wp2_with fail
        refine (ref_before_is P1.out _ _ _ _ _ _ hA hB ha hx).mono ?_
        rintro e w1 ⟨rfl, d1⟩
        go_wp2_with fail
        refine (ref_before_is P2.out _ _ _ _ _ _ (hA.drawn d1) (hB.drawn d1) hx hb).mono ?_
        rintro e w2 ⟨rfl, d2⟩
        have d3 := d1.trans d2
        clear d1 d2
        go_wp2_with fail
        refine (ref_before_is P3.out _ _ _ _ _ _ (hA.drawn d3) (hB.drawn d3) hb hx).mono ?_
        rintro e w3 ⟨rfl, d4⟩
        have d5 := d3.trans d4
        clear d3 d4
        go_wp2_with fail
        go_ret
        exact ⟨rfl, d5⟩
  | false =>
    rw [p1] at hr
    cases p3 : befB L R b x with
    | true =>
      generalize hp4 : befB L R x a = q at hr
      rw [p3] at hr
      have P1 := Lib.hid p1
      have P3 := Lib.hid p3
      have P4 := Lib.hid hp4
      obtain rfl : q = res := by simpa using hr
      clear p1 p3 hp4
      go_enter Tryd.func104, Tryd.ntmps104
      go_wp2_with fail
      refine (ref_before_is P1.out _ _ _ _ _ _ hA hB ha hx).mono ?_
      rintro e w1 ⟨rfl, d3⟩
      go_wp2_with fail
      refine (ref_before_is P3.out _ _ _ _ _ _ (hA.drawn d3) (hB.drawn d3) hb hx).mono ?_
      rintro e w3 ⟨rfl, d4⟩
      have d5 := d3.trans d4
      clear d3 d4
      go_wp2_with fail
      refine (ref_before_is P4.out _ _ _ _ _ _ (hA.drawn d5) (hB.drawn d5) hx ha).mono ?_
      rintro e w4 ⟨rfl, d6⟩
      have d7 := d5.trans d6
      clear d5 d6
      go_wp2_with fail
      go_ret
      exact ⟨rfl, d7⟩
    | false =>
      rw [p3] at hr
      have P1 := Lib.hid p1
      have P3 := Lib.hid p3
      obtain rfl : false = res := by simpa using hr
      clear p1 p3
      go_enter Tryd.func104, Tryd.ntmps104
      go_wp2_with fail
      refine (ref_before_is P1.out _ _ _ _ _ _ hA hB ha hx).mono ?_
      rintro e w1 ⟨rfl, d3⟩
      go_wp2_with fail
      refine (ref_before_is P3.out _ _ _ _ _ _ (hA.drawn d3) (hB.drawn d3) hb hx).mono ?_
      rintro e w3 ⟨rfl, d4⟩
      have d5 := d3.trans d4
      clear d3 d4
      go_wp2_with fail
      go_ret
      exact ⟨rfl, d5⟩
theorem ref_between_is {r : Bool} {L R : List Int} {x a b : Nat} (h : btwB L R x a b = r) (A B : Option Addr) (n c d : Nat) (w : World) (hA : Ints w A n L) (hB : Ints w B n R) (hx : x < n) (ha : a < n) (hb : b < n) :
    Calls Tryd.prog 104 #[.slice A n c, .slice B n d, .int .i64 (x : Int), .int .i64 (a : Int), .int .i64 (b : Int)] w fun e w' => e = .returned (.bool r) ∧ Drawn w w' := by
  subst h
  exact ref_between x a b A B n c d L R w hA hB hx ha hb
end Go.Proofs.YtkjcmppaapbabaaDoor
