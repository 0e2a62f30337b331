/-
  Contracts: ref.pair, ref.Reduced, line.Reduced, ref.Winding, ref.before, ref.between, ref.Less, slices.Equal, slices.Compare. Conditions: the slices read as lists of ints.
-/
import Derived.Test.YtpdkonpnhalecaaDoorA2
namespace Go.Proofs.YtpdkonpnhalecaaDoor
open Go.RowKit

/-- The letter i is equal to its neighbor behind it, cyclically. -/
def eqNext (L : List Int) (i : Nat) : Bool := L[i]? == L[(i + 1) % L.length]?
def pairI (L : List Int) : Int := firstI (eqNext L) L.length
def redB (L : List Int) : Bool := wordB L && decide (pairI L < 0)
theorem eqNext_of {L : List Int} {n k j : Nat} {x y : Int} (hl : L.length = n) (hx : L[k]? = some x) (hj : (k + 1) % n = j) (hy : L[j]? = some y) : eqNext L k = (x == y) := by
  unfold eqNext
  rw [hl, hj, hx, hy]
  rfl
/-- The place behind k, cyclically. -/
theorem nxt_cases {k n : Nat} (h : k < n) : ((k + 1) % n = k + 1 ∧ k + 1 < n) ∨ ((k + 1) % n = 0 ∧ k + 1 = n) := by
  by_cases e : k + 1 = n
  · right; rw [e, Nat.mod_self]; exact ⟨rfl, rfl⟩
  · left; rw [Nat.mod_eq_of_lt (by omega)]; omega

set_option maxHeartbeats 400000 in
theorem ref_pair (A : Option Addr) (n c : Nat) (L : List Int) (w : World) (hA : Ints w A n L) :
    Calls Tryd.prog 56 #[.slice A n c] w fun e w' => e = .returned (.int .i64 (pairI L)) ∧ Drawn w w' := by
  have hle := hA.le
  have HL := Lib.hid hA.len
  go_enter Tryd.func56, Tryd.ntmps56
  go_wp2_with fail
  go_loopw [3] (fun i wr => ∃ k : Nat, k ≤ n ∧ i = .int .i64 k ∧ Hid (NoneTo (eqNext L) k) ∧ Drawn w wr) (fun i _ => n - (intOf i).toNat)
  case atStart => exact ⟨0, Nat.zero_le _, rfl, NoneTo.zero _, Drawn.refl w⟩
  case round =>
    obtain ⟨k, hk, rfl, hno, m, rfl⟩ := hrel
    by_cases hlt : k < n
    · obtain ⟨j, hj⟩ : ∃ j, (k + 1) % n = j := ⟨_, rfl⟩
      have hjn : j < n := by subst hj; exact Nat.mod_lt _ (by omega)
      have hji : ((k : Int) + 1) % (n : Int) = (j : Int) := by subst hj; simp
      have HJ := Lib.hid hj
      clear hj
      obtain ⟨ad, x, rfl, hx, hx1, hx2, hc⟩ := hA.at_ hlt
      obtain ⟨y, hy, hy1, hy2, hd⟩ := hA.also hjn
      have he := eqNext_of HL.out hx.out HJ.out hy.out
      by_cases hxy : x = y
      · have hf := Lib.hid (firstI_hit (n := L.length) hno.out (by rw [he]; simpa using hxy) (by rw [HL.out]; exact hlt))
        have hxy' : (x == y) = true := by simpa using hxy
        clear he hxy
        go_wp2_with fail
        go_quiet (fail)
        go_wp2_with fail
        go_ret
        exact ⟨ret_int hf.out.symm, drawn2 _ _ _⟩
      · have hn := Lib.hid (hno.out.succ (show eqNext L k = false by rw [he]; simpa using hxy))
        have hxy' : (x == y) = false := by simpa using hxy
        clear he hxy
        go_wp2_with fail
        go_quiet (fail)
        go_wp2_with fail
        go_roundw
        case rel => exact ⟨k + 1, by omega, by go_num, hn, drawn1 _ _⟩
        case measure => simp [intOf]; omega
    · go_wp2_with fail
      go_ret
      have hkn : k = n := by omega
      subst hkn
      exact ⟨ret_int (firstI_none (by rw [HL.out]; exact hno.out)).symm, drawn1 _ _⟩

theorem ref_reduced (A : Option Addr) (n c : Nat) (L : List Int) (w : World) (hA : Ints w A n L) :
    Calls Tryd.prog 38 #[.slice A n c] w fun e w' => e = .returned (.bool (redB L)) ∧ Drawn w w' := by
  have hle := hA.le
  rcases Bool.eq_false_or_eq_true (wordB L) with hw | hw
  · have hf := Lib.hid (show redB L = decide (pairI L < 0) by unfold redB; rw [hw]; rfl)
    go_enter Tryd.func38, Tryd.ntmps38
    go_wp2_with (first | (go_at_call 13; refine (ref_word _ _ _ _ _ hA).mono ?_; rintro e w' ⟨rfl, rfl⟩) | (go_at_call 56; refine (ref_pair _ _ _ _ _ hA).mono ?_; rintro e w' ⟨rfl, hd⟩))
    go_ret
    exact ⟨ret_bool hf.out.symm, hd⟩
  · have hf := Lib.hid (show redB L = false by unfold redB; rw [hw]; rfl)
    go_enter Tryd.func38, Tryd.ntmps38
    go_wp2_with (first | (go_at_call 13; refine (ref_word _ _ _ _ _ hA).mono ?_; rintro e w' ⟨rfl, rfl⟩))
    go_ret
    exact ⟨ret_bool hf.out.symm, Drawn.refl _⟩

set_option maxHeartbeats 400000 in
theorem line_reduced (A : Option Addr) (n c : Nat) (L : List Int) (w : World) (hA : Ints w A n L) :
    Calls Tryd.prog 36 #[.slice A n c] w fun e w' => e = .returned (.bool (redB L)) ∧ w' = w := by
  have hle := hA.le
  have HL := Lib.hid hA.len
  rcases Bool.eq_false_or_eq_true (wordB L) with hw | hw
  · have hf := Lib.hid (show redB L = decide (pairI L < 0) by unfold redB; rw [hw]; rfl)
    go_enter Tryd.func36, Tryd.ntmps36
    go_wp2_with (first | (go_at_call 29; refine (line_word _ _ _ _ _ hA).mono ?_; rintro e w' ⟨rfl, rfl⟩))
    clear hw
    go_loop [10] (fun i => ∃ k : Nat, k ≤ n ∧ i = .int .i64 k ∧ Hid (NoneTo (eqNext L) k)) (fun i => n - (intOf i).toNat)
    case atStart => exact ⟨0, Nat.zero_le _, rfl, NoneTo.zero _⟩
    case round =>
      obtain ⟨k, hk, rfl, hno⟩ := hrel
      by_cases hlt : k < n
      · obtain ⟨j, hj⟩ : ∃ j, (k + 1) % n = j := ⟨_, rfl⟩
        have hjn : j < n := by subst hj; exact Nat.mod_lt _ (by omega)
        have hji : ((k : Int) + 1) % (n : Int) = (j : Int) := by subst hj; simp
        have HJ := Lib.hid hj
        clear hj
        obtain ⟨ad, x, rfl, hx, hx1, hx2, hc⟩ := hA.at_ hlt
        obtain ⟨y, hy, hy1, hy2, hd⟩ := hA.also hjn
        have he := eqNext_of HL.out hx.out HJ.out hy.out
        by_cases hxy : x = y
        · have hg := Lib.hid (firstI_hit (n := L.length) hno.out (by rw [he]; simpa using hxy) (by rw [HL.out]; exact hlt))
          have hxy' : (x == y) = true := by simpa using hxy
          clear he hxy
          go_wp2_with fail
          go_ret
          exact ⟨ret_bool (by rw [hf.out]; unfold pairI; rw [hg.out]; simp), rfl⟩
        · have hn := Lib.hid (hno.out.succ (show eqNext L k = false by rw [he]; simpa using hxy))
          have hxy' : (x == y) = false := by simpa using hxy
          clear he hxy
          go_wp2_with fail
          go_round
          case rel => exact ⟨k + 1, by omega, by go_num, hn⟩
          case measure => simp [intOf]; omega
      · go_wp2_with fail
        go_ret
        have hkn : k = n := by omega
        subst hkn
        exact ⟨ret_bool (by rw [hf.out]; unfold pairI; rw [firstI_none (by rw [HL.out]; exact hno.out)]; simp), rfl⟩
  · have hf := Lib.hid (show redB L = false by unfold redB; rw [hw]; rfl)
    go_enter Tryd.func36, Tryd.ntmps36
    go_wp2_with (first | (go_at_call 29; refine (line_word _ _ _ _ _ hA).mono ?_; rintro e w' ⟨rfl, rfl⟩))
    go_ret
    exact ⟨ret_bool hf.out.symm, rfl⟩

/-- ref.Winding: the sum of the signs of the letters below f. -/
def windAt (L : List Int) (f : Int) (i : Nat) : Int := match L[i]? with
  | some x => if x < f then 1 - 2 * ((i : Int) % 2) else 0
  | none => 0
def windI (L : List Int) (f : Int) : Int := sumTo (windAt L f) L.length
theorem windAt_yes {L : List Int} {f x : Int} {i : Nat} (h : L[i]? = some x) (hx : x < f) : windAt L f i = 1 - 2 * ((i : Int) % 2) := by unfold windAt; rw [h]; exact if_pos hx
theorem windAt_no {L : List Int} {f x : Int} {i : Nat} (h : L[i]? = some x) (hx : ¬ x < f) : windAt L f i = 0 := by unfold windAt; rw [h]; exact if_neg hx
theorem windAt_bd (L : List Int) (f : Int) (i : Nat) : -1 ≤ windAt L f i ∧ windAt L f i ≤ 1 := by
  unfold windAt
  split
  · split <;> omega
  · omega
theorem wind_bd (L : List Int) (f : Int) (n : Nat) : -(n : Int) ≤ sumTo (windAt L f) n ∧ sumTo (windAt L f) n ≤ n := by
  induction n with
  | zero => exact ⟨by simp [sumTo], by simp [sumTo]⟩
  | succ n ih => have := windAt_bd L f n; rw [sumTo_succ]; omega

end Go.Proofs.YtpdkonpnhalecaaDoor
