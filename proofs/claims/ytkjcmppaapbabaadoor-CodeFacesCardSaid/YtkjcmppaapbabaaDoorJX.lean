/-
  Contracts of small functions that only read: the checks of line and of the law (word, Valid, check, checkFor, wrong, wrongFor), slices.Max, ref.pair, ref.Reduced, line.Reduced. Conditions: the slices read as lists of ints.
  Contracts: ref.pair, ref.Reduced, line.Reduced, ref.Winding, ref.before, ref.between, ref.Less, slices.Equal, slices.Compare. Conditions: the slices read as lists of ints.
  Contracts of functions that build a slice by appending: ref.Mirror, ref.Reverse, ref.Drop. Conditions: the slices read as lists of ints, sums fit.
  Contracts: ref.rotated (two appends in one drawn region), slices.Clone, slices.Reverse, line.reverse. Conditions: the slices read as lists of ints.
  Contracts: line.check, line.Reverse, line.Mirror, line.Turn, ref.Turn, line.Circle. Conditions: the slices read as lists of ints.
  Contracts: line.Turn, ref.Turn, line.Circle, line.Inside, line.Winding. Conditions: the slices read as lists of ints.
-/
import Derived.Test.YtkjcmppaapbabaaDoorJB
import Derived.Test.YtkjcmppaapbabaaDoorJA
import Derived.Test.YtkjcmppaapbabaaDoorJC
import Derived.Test.YtkjcmppaapbabaaDoorJW
import Derived.Deep.RegionHeld3
import Derived.Deep.RegionLaw
import Derived.Lib.SliceRun
namespace Go.Proofs.YtkjcmppaapbabaaDoor
section
open Go.RowKit

theorem fingers_any (K : Int) (w : World) : Calls Tryd.prog 161 #[.int .i64 K] w fun e w' => e = .returned (.bool (decide (0 ≤ K) && decide (K ≤ 40))) ∧ w' = w := by
  by_cases h1 : 0 ≤ K
  · have hf := Lib.hid (show (decide (0 ≤ K) && decide (K ≤ 40)) = decide (K ≤ 40) by simp [h1])
    go_enter Tryd.func161, Tryd.ntmps161
    go_wp2
    go_ret
    exact ⟨ret_bool hf.out.symm, rfl⟩
  · have hf := Lib.hid (show (decide (0 ≤ K) && decide (K ≤ 40)) = false by simp [h1])
    go_enter Tryd.func161, Tryd.ntmps161
    go_wp2
    go_ret
    exact ⟨ret_bool hf.out.symm, rfl⟩

theorem word1_any (x : Int) (w : World) : Calls Tryd.prog 159 #[.int .i64 x] w fun e w' => e = .returned (.bool (!inB 40 x)) ∧ w' = w := by
  by_cases h1 : 0 ≤ x
  · by_cases h2 : x ≤ 40
    · have hf := Lib.hid (show (!inB 40 x) = false by rw [inB_yes h1 h2]; rfl)
      go_enter Tryd.func159, Tryd.ntmps159
      go_wp2
      go_ret
      exact ⟨ret_bool (by rw [hf.out]; simp; omega), rfl⟩
    · have hf := Lib.hid (show (!inB 40 x) = true by rw [inB_no_hi (by omega)]; rfl)
      go_enter Tryd.func159, Tryd.ntmps159
      go_wp2
      go_ret
      exact ⟨ret_bool hf.out.symm, rfl⟩
  · have hf := Lib.hid (show (!inB 40 x) = true by rw [inB_no_lo (by omega)]; rfl)
    go_enter Tryd.func159, Tryd.ntmps159
    go_wp2
    go_ret
    exact ⟨ret_bool hf.out.symm, rfl⟩

/-- slices.IndexFunc at word's own predicate: not in 0 .. 40. -/
def badAt (L : List Int) (i : Nat) : Bool := match L[i]? with
  | some x => !inB 40 x
  | none => false
theorem badAt_of {L : List Int} {i : Nat} {x : Int} (h : L[i]? = some x) : badAt L i = !inB 40 x := by unfold badAt; rw [h]
set_option maxHeartbeats 400000 in
theorem indexFunc_word (A : Option Addr) (n c : Nat) (L : List Int) (w : World) (hA : Ints w A n L) :
    Calls Tryd.prog 172 #[.slice A n c, .func (.func 159) #[] #[]] w fun e w' => e = .returned (.int .i64 (firstI (badAt L) n)) ∧ w' = w := by
  have hle := hA.le
  have HL := Lib.hid hA.len
  go_enter Tryd.func172, Tryd.ntmps172
  go_wp2_with fail
  go_loop [8] (fun i => ∃ k : Nat, k ≤ n ∧ i = .int .i64 k ∧ Hid (NoneTo (badAt L) k)) (fun i => n - (intOf i).toNat)
  case atStart => exact ⟨0, Nat.zero_le _, rfl, NoneTo.zero _⟩
  case round =>
    obtain ⟨k, hk, rfl, hno⟩ := hrel
    by_cases hlt : k < n
    · obtain ⟨ad, x, rfl, hx, hx1, hx2, hc⟩ := hA.at_ hlt
      rcases Bool.eq_false_or_eq_true (inB 40 x) with hb | hb
      · go_wp2_with (go_at_call 159; refine (word1_any _ _).mono ?_; rintro e w' ⟨rfl, rfl⟩)
        go_round
        case rel => exact ⟨k + 1, by omega, by go_num, hno.out.succ (by rw [badAt_of hx, hb]; rfl)⟩
        case measure => simp [intOf]; omega
      · have hf := Lib.hid (firstI_hit (n := n) hno.out (by rw [badAt_of hx, hb]; rfl) hlt)
        go_wp2_with (go_at_call 159; refine (word1_any _ _).mono ?_; rintro e w' ⟨rfl, rfl⟩)
        go_ret
        exact ⟨ret_int hf.out.symm, rfl⟩
    · go_wp2_with fail
      go_ret
      have hkn : k = n := by omega
      subst hkn
      exact ⟨ret_int (firstI_none hno.out).symm, rfl⟩

theorem all_of_badAt {L : List Int} (h : NoneTo (badAt L) L.length) : L.all (inB 40) = true := by
  rw [List.all_eq_true]
  intro x hx
  obtain ⟨i, hi, rfl⟩ := List.getElem_of_mem hx
  have := h i hi
  rw [badAt_of (List.getElem?_eq_getElem hi)] at this
  simpa using this

theorem containsFunc_word (A : Option Addr) (n c : Nat) (L : List Int) (w : World) (hA : Ints w A n L) :
    Calls Tryd.prog 158 #[.slice A n c, .func (.func 159) #[] #[]] w fun e w' => e = .returned (.bool (!L.all (inB 40))) ∧ w' = w := by
  have HL := Lib.hid hA.len
  have hf := Lib.hid (show decide (0 ≤ firstI (badAt L) n) = !L.all (inB 40) by
    rcases firstI_cases (badAt L) n with ⟨h, h'⟩ | ⟨k, hk, h, _, hp⟩
    · rw [h, all_of_badAt (by rw [HL.out]; exact h')]; rfl
    · have hx : L[k]? = some (L[k]'(by rw [HL.out]; exact hk)) := List.getElem?_eq_getElem _
      rw [badAt_of hx] at hp
      rw [h, all_false_of (inB 40) L k _ hx (by simpa using hp)]; simp)
  go_enter Tryd.func158, Tryd.ntmps158
  go_wp2_with (go_at_call 172; refine (indexFunc_word _ _ _ _ _ hA).mono ?_; rintro e w' ⟨rfl, rfl⟩)
  go_ret
  exact ⟨ret_bool hf.out, rfl⟩

set_option maxHeartbeats 400000 in
theorem line_word (A : Option Addr) (n c : Nat) (L : List Int) (w : World) (hA : Ints w A n L) :
    Calls Tryd.prog 134 #[.slice A n c] w fun e w' => e = .returned (.bool (wordB L)) ∧ w' = w := by
  have hle := hA.le
  have HL := Lib.hid hA.len
  by_cases h1 : n % 2 = 0
  · have h1' : ((n : Int) % 2 == 0) = true := by simp; omega
    by_cases h2 : n ≤ 400
    · have hf := Lib.hid (show wordB L = L.all (inB 40) by unfold wordB; rw [HL.out]; simp [h1, h2])
      go_enter Tryd.func134, Tryd.ntmps134
      go_wp2_with (go_at_call 158; refine (containsFunc_word _ _ _ _ _ hA).mono ?_; rintro e w' ⟨rfl, rfl⟩)
      go_ret
      exact ⟨ret_bool (by simp [hf.out]), rfl⟩
    · have hf := Lib.hid (show wordB L = false by unfold wordB; rw [HL.out]; simp [h2])
      go_enter Tryd.func134, Tryd.ntmps134
      go_wp2_with fail
      go_ret
      exact ⟨ret_bool hf.out.symm, rfl⟩
  · have h1' : ((n : Int) % 2 == 0) = false := by simp; omega
    have hf := Lib.hid (show wordB L = false by unfold wordB; rw [HL.out]; simp [h1])
    go_enter Tryd.func134, Tryd.ntmps134
    go_wp2_with fail
    go_ret
    exact ⟨ret_bool hf.out.symm, rfl⟩
/-- slices.Max. -/
def maxL : List Int → Int
  | [] => 0
  | x :: xs => xs.foldl max x
theorem foldl_max_take {L : List Int} {k : Nat} {x y : Int} (_h : 0 < k) (hx : L[k]? = some x) (hm : maxL (L.take k) = y) : maxL (L.take (k + 1)) = max y x := by
  subst hm
  cases L with
  | nil => simp at hx
  | cons z zs =>
    cases k with
    | zero => omega
    | succ k =>
      simp only [List.getElem?_cons_succ] at hx
      simp only [List.take_succ_cons, maxL]
      rw [List.take_add_one, hx]
      simp
theorem le_foldl_max (xs : List Int) : ∀ (y k : Int), xs.foldl max y ≤ k ↔ (y ≤ k ∧ ∀ x ∈ xs, x ≤ k) := by
  induction xs with
  | nil => intro y k; simp
  | cons z zs ih =>
    intro y k
    rw [List.foldl_cons, ih]
    simp only [List.mem_cons, forall_eq_or_imp]
    rw [Int.max_le, and_assoc]
theorem maxL_le {L : List Int} (h : 0 < L.length) (k : Int) : maxL L ≤ k ↔ L.all (fun x => decide (x ≤ k)) = true := by
  cases L with
  | nil => simp at h
  | cons z zs =>
    simp only [maxL, le_foldl_max, List.all_cons, Bool.and_eq_true, decide_eq_true_eq, List.all_eq_true]

theorem max_ite (a b : Int) : max a b = if a < b then b else a := by rw [Int.max_def]; split <;> split <;> omega

set_option maxHeartbeats 400000 in
theorem slices_max (A : Option Addr) (n c : Nat) (L : List Int) (w : World) (hA : Ints w A n L) (hn : 0 < n) :
    Calls Tryd.prog 162 #[.slice A n c] w fun e w' => e = .returned (.int .i64 (maxL L)) ∧ w' = w := by
  have hle := hA.le
  have HL := Lib.hid hA.len
  obtain ⟨ad, x0, rfl, hx0, hx1, hx2, hc0⟩ := hA.at_ hn
  have hc0' : w.cell? ad = some (.int .i64 x0) := by simpa [Addr.add] using hc0
  clear hc0
  go_enter Tryd.func162, Tryd.ntmps162
  go_wp2_with fail
  go_loop [3, 4] (fun m i => ∃ k : Nat, 0 < k ∧ k ≤ n ∧ i = .int .i64 k ∧ m = .int .i64 (maxL (L.take k))) (fun _ i => n - (intOf i).toNat)
  case atStart =>
    refine ⟨1, by omega, hn, rfl, ?_⟩
    rw [List.take_add_one, hx0.out]; rfl
  case round =>
    obtain ⟨k, hk0, hk, rfl, rfl⟩ := hrel
    obtain ⟨m, hm⟩ : ∃ m, maxL (L.take k) = m := ⟨_, rfl⟩
    rw [hm]
    have HM := Lib.hid hm
    clear hm
    by_cases hlt : k < n
    · obtain ⟨x, hx, hx1, hx2, hc⟩ := hA.also hlt
      go_wp2_with fail
      go_round
      case rel => exact ⟨k + 1, by omega, by omega, by go_num, by rw [foldl_max_take hk0 hx.out HM.out, max_ite]⟩
      case measure => simp [intOf]; omega
    · go_wp2_with fail
      go_ret
      rw [List.take_of_length_le (by rw [HL.out]; omega)] at HM
      exact ⟨ret_int HM.out.symm, rfl⟩

set_option maxHeartbeats 400000 in
theorem line_valid (K : Int) (A : Option Addr) (n c : Nat) (L : List Int) (w : World) (hA : Ints w A n L) :
    Calls Tryd.prog 137 #[.int .i64 K, .slice A n c] w fun e w' => e = .returned (.bool (validB K L)) ∧ w' = w := by
  have hle := hA.le
  have HL := Lib.hid hA.len
  rcases Bool.eq_false_or_eq_true (decide (0 ≤ K) && decide (K ≤ 40)) with hk | hk
  · rcases Bool.eq_false_or_eq_true (wordB L) with hw | hw
    · by_cases hn : n = 0
      · have hL : L = [] := List.eq_nil_of_length_eq_zero (by rw [HL.out]; exact hn)
        have hf := Lib.hid (show validB K L = true by unfold validB; rw [hk, hw, hL]; rfl)
        clear hL
        subst hn
        go_enter Tryd.func137, Tryd.ntmps137
        go_wp2_with (first
          | (go_at_call 161; refine (fingers_any _ _).mono ?_; rintro e w' ⟨rfl, rfl⟩)
          | (go_at_call 134; refine (line_word _ _ _ _ _ hA).mono ?_; rintro e w' ⟨rfl, rfl⟩))
        go_ret
        exact ⟨ret_bool hf.out.symm, rfl⟩
      · have hn' : ((n : Int) == 0) = false := by simp; omega
        have hn0 : 0 < n := by omega
        have hf := Lib.hid (show decide (maxL L ≤ K) = validB K L by
          unfold validB
          rw [hk, hw, Bool.true_and, Bool.true_and, Bool.eq_iff_iff, decide_eq_true_eq]
          exact maxL_le (by rw [HL.out]; exact hn0) K)
        go_enter Tryd.func137, Tryd.ntmps137
        go_wp2_with (first
          | (go_at_call 161; refine (fingers_any _ _).mono ?_; rintro e w' ⟨rfl, rfl⟩)
          | (go_at_call 134; refine (line_word _ _ _ _ _ hA).mono ?_; rintro e w' ⟨rfl, rfl⟩)
          | (go_at_call 162; refine (slices_max _ _ _ _ _ hA hn0).mono ?_; rintro e w' ⟨rfl, rfl⟩))
        go_ret
        exact ⟨ret_bool hf.out, rfl⟩
    · have hf := Lib.hid (show validB K L = false by unfold validB; rw [hw]; simp)
      go_enter Tryd.func137, Tryd.ntmps137
      go_wp2_with (first
        | (go_at_call 161; refine (fingers_any _ _).mono ?_; rintro e w' ⟨rfl, rfl⟩)
        | (go_at_call 134; refine (line_word _ _ _ _ _ hA).mono ?_; rintro e w' ⟨rfl, rfl⟩))
      go_ret
      exact ⟨ret_bool hf.out.symm, rfl⟩
  · have hf := Lib.hid (show validB K L = false by unfold validB; rw [hk]; rfl)
    go_enter Tryd.func137, Tryd.ntmps137
    go_wp2_with (first
      | (go_at_call 161; refine (fingers_any _ _).mono ?_; rintro e w' ⟨rfl, rfl⟩))
    go_ret
    exact ⟨ret_bool hf.out.symm, rfl⟩

/-- check's and wrong's error. -/
def errW (L : List Int) : Int := if 400 < L.length then 7 else if wordB L then 0 else 2
def errF (k : Int) (L : List Int) : Int := if 400 < L.length then 7 else if validB k L then 0 else 2

set_option maxHeartbeats 400000 in
theorem line_checkFor (K : Int) (A : Option Addr) (n c : Nat) (L : List Int) (w : World) (hA : Ints w A n L) :
    Calls Tryd.prog 109 #[.int .i64 K, .slice A n c] w fun e w' => e = .returned (.int .i64 (errF K L)) ∧ w' = w := by
  have hle := hA.le
  have HL := Lib.hid hA.len
  by_cases h : 400 < n
  · have hf := Lib.hid (show errF K L = 7 by unfold errF; rw [HL.out, if_pos h])
    go_enter Tryd.func109, Tryd.ntmps109
    go_wp2_with fail
    go_ret
    exact ⟨ret_int hf.out.symm, rfl⟩
  · rcases Bool.eq_false_or_eq_true (validB K L) with hw | hw
    · have hf := Lib.hid (show errF K L = 0 by unfold errF; rw [HL.out, if_neg h, if_pos hw])
      go_enter Tryd.func109, Tryd.ntmps109
      go_wp2_with (go_at_call 137; refine (line_valid _ _ _ _ _ _ hA).mono ?_; rintro e w' ⟨rfl, rfl⟩)
      go_ret
      exact ⟨ret_int hf.out.symm, rfl⟩
    · have hf := Lib.hid (show errF K L = 2 by unfold errF; rw [HL.out, if_neg h, hw]; rfl)
      go_enter Tryd.func109, Tryd.ntmps109
      go_wp2_with (go_at_call 137; refine (line_valid _ _ _ _ _ _ hA).mono ?_; rintro e w' ⟨rfl, rfl⟩)
      go_ret
      exact ⟨ret_int hf.out.symm, rfl⟩

theorem wordB_of_validB {k : Int} {L : List Int} (h : validB k L = true) : wordB L = true := by
  unfold validB at h
  simp only [Bool.and_eq_true] at h
  exact h.1.2
end

section
open Go.RowKit

/-- The letter i is equal to its neighbor behind it, cyclically. -/
def eqNext (L : List Int) (i : Nat) : Bool := L[i]? == L[(i + 1) % L.length]?
def pairI (L : List Int) : Int := firstI (eqNext L) L.length
def redB (L : List Int) : Bool := wordB L && decide (pairI L < 0)
theorem eqNext_of {L : List Int} {n k j : Nat} {x y : Int} (hl : L.length = n) (hx : L[k]? = some x) (hj : (k + 1) % n = j) (hy : L[j]? = some y) : eqNext L k = (x == y) := by
  unfold eqNext
  rw [hl, hj, hx, hy]
  rfl
/-- The place behind k, cyclically. -/
theorem nxt_cases {k n : Nat} (h : k < n) : ((k + 1) % n = k + 1 ∧ k + 1 < n) ∨ ((k + 1) % n = 0 ∧ k + 1 = n) := by
  by_cases e : k + 1 = n
  · right; rw [e, Nat.mod_self]; exact ⟨rfl, rfl⟩
  · left; rw [Nat.mod_eq_of_lt (by omega)]; omega

set_option maxHeartbeats 400000 in
theorem ref_pair (A : Option Addr) (n c : Nat) (L : List Int) (w : World) (hA : Ints w A n L) :
    Calls Tryd.prog 105 #[.slice A n c] w fun e w' => e = .returned (.int .i64 (pairI L)) ∧ Drawn w w' := by
  have hle := hA.le
  have HL := Lib.hid hA.len
  go_enter Tryd.func105, Tryd.ntmps105
  go_wp2_with fail
  go_loopw [3] (fun i wr => ∃ k : Nat, k ≤ n ∧ i = .int .i64 k ∧ Hid (NoneTo (eqNext L) k) ∧ Drawn w wr) (fun i _ => n - (intOf i).toNat)
  case atStart => exact ⟨0, Nat.zero_le _, rfl, NoneTo.zero _, Drawn.refl w⟩
  case round =>
    obtain ⟨k, hk, rfl, hno, m, rfl⟩ := hrel
    by_cases hlt : k < n
    · obtain ⟨j, hj⟩ : ∃ j, (k + 1) % n = j := ⟨_, rfl⟩
      have hjn : j < n := by subst hj; exact Nat.mod_lt _ (by omega)
      have hji : ((k : Int) + 1) % (n : Int) = (j : Int) := by subst hj; simp
      have HJ := Lib.hid hj
      clear hj
      obtain ⟨ad, x, rfl, hx, hx1, hx2, hc⟩ := hA.at_ hlt
      obtain ⟨y, hy, hy1, hy2, hd⟩ := hA.also hjn
      have he := eqNext_of HL.out hx.out HJ.out hy.out
      by_cases hxy : x = y
      · have hf := Lib.hid (firstI_hit (n := L.length) hno.out (by rw [he]; simpa using hxy) (by rw [HL.out]; exact hlt))
        have hxy' : (x == y) = true := by simpa using hxy
        clear he hxy
        go_wp2_with fail
        go_quiet (fail)
        go_wp2_with fail
        go_ret
        exact ⟨ret_int hf.out.symm, drawn2 _ _ _⟩
      · have hn := Lib.hid (hno.out.succ (show eqNext L k = false by rw [he]; simpa using hxy))
        have hxy' : (x == y) = false := by simpa using hxy
        clear he hxy
        go_wp2_with fail
        go_quiet (fail)
        go_wp2_with fail
        go_roundw
        case rel => exact ⟨k + 1, by omega, by go_num, hn, drawn1 _ _⟩
        case measure => simp [intOf]; omega
    · go_wp2_with fail
      go_ret
      have hkn : k = n := by omega
      subst hkn
      exact ⟨ret_int (firstI_none (by rw [HL.out]; exact hno.out)).symm, drawn1 _ _⟩

theorem ref_reduced (A : Option Addr) (n c : Nat) (L : List Int) (w : World) (hA : Ints w A n L) :
    Calls Tryd.prog 57 #[.slice A n c] w fun e w' => e = .returned (.bool (redB L)) ∧ Drawn w w' := by
  have hle := hA.le
  rcases Bool.eq_false_or_eq_true (wordB L) with hw | hw
  · have hf := Lib.hid (show redB L = decide (pairI L < 0) by unfold redB; rw [hw]; rfl)
    go_enter Tryd.func57, Tryd.ntmps57
    go_wp2_with (first | (go_at_call 103; refine (ref_word _ _ _ _ _ hA).mono ?_; rintro e w' ⟨rfl, rfl⟩) | (go_at_call 105; refine (ref_pair _ _ _ _ _ hA).mono ?_; rintro e w' ⟨rfl, hd⟩))
    go_ret
    exact ⟨ret_bool hf.out.symm, hd⟩
  · have hf := Lib.hid (show redB L = false by unfold redB; rw [hw]; rfl)
    go_enter Tryd.func57, Tryd.ntmps57
    go_wp2_with (first | (go_at_call 103; refine (ref_word _ _ _ _ _ hA).mono ?_; rintro e w' ⟨rfl, rfl⟩))
    go_ret
    exact ⟨ret_bool hf.out.symm, Drawn.refl _⟩

set_option maxHeartbeats 400000 in
theorem line_reduced (A : Option Addr) (n c : Nat) (L : List Int) (w : World) (hA : Ints w A n L) :
    Calls Tryd.prog 107 #[.slice A n c] w fun e w' => e = .returned (.bool (redB L)) ∧ w' = w := by
  have hle := hA.le
  have HL := Lib.hid hA.len
  rcases Bool.eq_false_or_eq_true (wordB L) with hw | hw
  · have hf := Lib.hid (show redB L = decide (pairI L < 0) by unfold redB; rw [hw]; rfl)
    go_enter Tryd.func107, Tryd.ntmps107
    go_wp2_with (first | (go_at_call 134; refine (line_word _ _ _ _ _ hA).mono ?_; rintro e w' ⟨rfl, rfl⟩))
    clear hw
    go_loop [10] (fun i => ∃ k : Nat, k ≤ n ∧ i = .int .i64 k ∧ Hid (NoneTo (eqNext L) k)) (fun i => n - (intOf i).toNat)
    case atStart => exact ⟨0, Nat.zero_le _, rfl, NoneTo.zero _⟩
    case round =>
      obtain ⟨k, hk, rfl, hno⟩ := hrel
      by_cases hlt : k < n
      · obtain ⟨j, hj⟩ : ∃ j, (k + 1) % n = j := ⟨_, rfl⟩
        have hjn : j < n := by subst hj; exact Nat.mod_lt _ (by omega)
        have hji : ((k : Int) + 1) % (n : Int) = (j : Int) := by subst hj; simp
        have HJ := Lib.hid hj
        clear hj
        obtain ⟨ad, x, rfl, hx, hx1, hx2, hc⟩ := hA.at_ hlt
        obtain ⟨y, hy, hy1, hy2, hd⟩ := hA.also hjn
        have he := eqNext_of HL.out hx.out HJ.out hy.out
        by_cases hxy : x = y
        · have hg := Lib.hid (firstI_hit (n := L.length) hno.out (by rw [he]; simpa using hxy) (by rw [HL.out]; exact hlt))
          have hxy' : (x == y) = true := by simpa using hxy
          clear he hxy
          go_wp2_with fail
          go_ret
          exact ⟨ret_bool (by rw [hf.out]; unfold pairI; rw [hg.out]; simp), rfl⟩
        · have hn := Lib.hid (hno.out.succ (show eqNext L k = false by rw [he]; simpa using hxy))
          have hxy' : (x == y) = false := by simpa using hxy
          clear he hxy
          go_wp2_with fail
          go_round
          case rel => exact ⟨k + 1, by omega, by go_num, hn⟩
          case measure => simp [intOf]; omega
      · go_wp2_with fail
        go_ret
        have hkn : k = n := by omega
        subst hkn
        exact ⟨ret_bool (by rw [hf.out]; unfold pairI; rw [firstI_none (by rw [HL.out]; exact hno.out)]; simp), rfl⟩
  · have hf := Lib.hid (show redB L = false by unfold redB; rw [hw]; rfl)
    go_enter Tryd.func107, Tryd.ntmps107
    go_wp2_with (first | (go_at_call 134; refine (line_word _ _ _ _ _ hA).mono ?_; rintro e w' ⟨rfl, rfl⟩))
    go_ret
    exact ⟨ret_bool hf.out.symm, rfl⟩

/-- ref.Winding: the sum of the signs of the letters below f. -/
def windAt (L : List Int) (f : Int) (i : Nat) : Int := match L[i]? with
  | some x => if x < f then 1 - 2 * ((i : Int) % 2) else 0
  | none => 0
def windI (L : List Int) (f : Int) : Int := sumTo (windAt L f) L.length
theorem windAt_yes {L : List Int} {f x : Int} {i : Nat} (h : L[i]? = some x) (hx : x < f) : windAt L f i = 1 - 2 * ((i : Int) % 2) := by unfold windAt; rw [h]; exact if_pos hx
theorem windAt_no {L : List Int} {f x : Int} {i : Nat} (h : L[i]? = some x) (hx : ¬ x < f) : windAt L f i = 0 := by unfold windAt; rw [h]; exact if_neg hx
theorem windAt_bd (L : List Int) (f : Int) (i : Nat) : -1 ≤ windAt L f i ∧ windAt L f i ≤ 1 := by
  unfold windAt
  split
  · split <;> omega
  · omega
theorem wind_bd (L : List Int) (f : Int) (n : Nat) : -(n : Int) ≤ sumTo (windAt L f) n ∧ sumTo (windAt L f) n ≤ n := by
  induction n with
  | zero => exact ⟨by simp [sumTo], by simp [sumTo]⟩
  | succ n ih => have := windAt_bd L f n; rw [sumTo_succ]; omega

end

section
open Go.RowKit

theorem map_take_succ {α β : Type} (f : α → β) (L : List α) (k : Nat) (x : α) (hx : L[k]? = some x) : (L.take (k + 1)).map f = (L.take k).map f ++ [f x] := by
  rw [List.take_add_one, hx]; simp

/-- The letters of a word are between 0 and 40. -/
def In40 (L : List Int) : Prop := ∀ x ∈ L, 0 ≤ x ∧ x ≤ 40
theorem in40_of_wordB {L : List Int} (h : wordB L = true) : In40 L := by
  unfold wordB at h
  simp only [Bool.and_eq_true, List.all_eq_true] at h
  intro x hx
  have := h.2 x hx
  unfold inB at this
  simpa using this
theorem len_of_wordB {L : List Int} (h : wordB L = true) : L.length ≤ 400 ∧ L.length % 2 = 0 := by
  unfold wordB at h
  simp only [Bool.and_eq_true, decide_eq_true_eq] at h
  exact ⟨h.1.2, h.1.1⟩
theorem In40.at_ {L : List Int} (h : In40 L) {k : Nat} {x : Int} (hx : L[k]? = some x) : 0 ≤ x ∧ x ≤ 40 := h x (List.mem_of_getElem? hx)

theorem reverse_drop_succ (L : List Int) (k : Nat) (x : Int) (h : k < L.length) (hx : L[L.length - 1 - k]? = some x) : (L.drop (L.length - (k + 1))).reverse = (L.drop (L.length - k)).reverse ++ [x] := by
  have e : L.length - (k + 1) = L.length - 1 - k := by omega
  have hlt : L.length - 1 - k < L.length := by omega
  rw [e, List.drop_eq_getElem_cons hlt, List.reverse_cons]
  have : L.length - 1 - k + 1 = L.length - k := by omega
  rw [this]
  rw [List.getElem?_eq_getElem hlt] at hx
  rw [Option.some.inj hx]

set_option maxHeartbeats 400000 in
theorem ref_reverse (A : Option Addr) (n c : Nat) (L : List Int) (w : World) (hA : Ints w A n L) :
    Calls Tryd.prog 86 #[.slice A n c] w fun e w' => ∃ A' c', e = .returned (.slice A' n c') ∧ Own w' w.heap.size A' n c' L.reverse ∧ Below w.heap.size w w' := by
  have HL := Lib.hid hA.len
  have hle := hA.le
  go_enter Tryd.func86, Tryd.ntmps86
  go_wp2_with fail
  go_loopw [3, 4] (fun v i wr => ∃ (k : Nat) (B : Option Addr) (d : Nat) (P : List Int), k ≤ n ∧ i = .int .i64 ((n : Int) - 1 - k) ∧ v = .slice B k d ∧ Own wr w.heap.size B k d P ∧ Below w.heap.size w wr ∧ Hid (P = (L.drop (n - k)).reverse)) (fun _ i _ => (intOf i + 1).toNat)
  case atStart => exact ⟨0, none, 0, [], Nat.zero_le _, by go_num, rfl, Own.nil _ _, Below.refl _ _, by unfold Hid; rw [List.drop_of_length_le (by rw [HL.out]; omega)]; rfl⟩
  case round =>
    obtain ⟨k, B, d, P, hk, rfl, rfl, hown, hb, HP⟩ := hrel
    by_cases hlt : k < n
    · obtain ⟨j, hj⟩ : ∃ j : Nat, (n : Int) - 1 - k = j := ⟨n - 1 - k, by omega⟩
      obtain ⟨ad, x, rfl, hx, hx1, hx2, hc⟩ := (hA.below hb).at_ (show j < n by omega)
      have HJ := Lib.hid hj
      rw [hj]
      have hj2 : (j : Int) + k + 1 ≤ n := by omega
      have hj3 : (n : Int) ≤ j + k + 1 := by omega
      clear hj
      go_wp2_with (at_builtin; refine app1 rfl _ _ rfl (hown.alloc _) x rfl rfl ?c1 ?c2 (by omega) ?c3 ?_)
      case c1 => rw [World.cell?_alloc_at _ _ _ _ rfl]; rfl
      case c2 => unfold I64; omega
      case c3 => have := hb.size; simp; omega
      intro B' d' w1 hown' hb' _ _
      have hbw := (hb.alloc hb.size (.cells #[.int .i64 x] 3)).trans hb'
      have HP' : Hid (P ++ [x] = (L.drop (n - (k + 1))).reverse) := by
        have hl := HL.out
        unfold Hid; subst hl; rw [HP.out]
        exact (reverse_drop_succ L k x (by omega) (by rw [← hx.out]; congr 1; omega)).symm
      clear hown hb hb' hc HP
      go_wp2_with fail
      go_roundw
      case rel => exact ⟨k + 1, B', d', _, by omega, by go_num, rfl, hown', hbw, HP'⟩
      case measure => simp [intOf] <;> omega
    · go_wp2_with fail
      go_ret
      have hkn : k = n := by omega
      subst hkn
      rw [HP.out, Nat.sub_self, List.drop_zero] at hown
      exact ⟨_, _, rfl, hown, hb⟩

/-- ref.Drop. -/
def dropG (f x : Int) : Int := if f ≤ x then x - 1 else x
end

section
open Go.RowKit


theorem Own.made {w : World} {base : Nat} (hb : base ≤ w.heap.size) : Own (w.alloc (.cells #[] 3)) base (some ⟨w.heap.size, 0, none⟩) 0 0 [] :=
  ⟨World.ownsRow_made w #[] 0 hb (by decide) rfl, rfl, by omega, by simp⟩

set_option maxHeartbeats 400000 in
theorem slices_clone (A : Option Addr) (n c : Nat) (L : List Int) (w : World) (hA : Ints w A n L) :
    Calls Tryd.prog 110 #[.slice A n c] w fun e w' => ∃ A' c', e = .returned (.slice A' n c') ∧ Own w' w.heap.size A' n c' L ∧ Below w.heap.size w w' := by
  have hle := hA.le
  have hnil := fun (w : World) (a : Option Addr) (n c : Nat) => Lib.run_eql_slice_nil (P := Tryd.prog) w 35 3 a n c 0 0 Tryd.underlying35
  rcases A with _ | ad
  · have hn : n = 0 := by
      rcases Nat.eq_zero_or_pos n with h0 | h0
      · exact h0
      · obtain ⟨ad, h, _⟩ := hA.2.2.2 h0
        cases h
    subst hn
    have hL : L = [] := List.eq_nil_of_length_eq_zero hA.len
    subst hL
    go_enter Tryd.func110, Tryd.ntmps110
    go_wp2_with fail
    go_ret
    exact ⟨_, _, rfl, Own.nil _ _, Below.refl _ _⟩
  · go_enter Tryd.func110, Tryd.ntmps110
    go_wp2_with (at_builtin; refine appS rfl _ _ rfl rfl (Own.made (Nat.le_refl _)) (hA.alloc (.cells #[] 3)) rfl rfl n (by omega) (by omega) ?c1 ?_)
    case c1 => simp
    intro A1 c1 w1 hown hb _ _
    have hbw := ((Below.refl w.heap.size w).alloc (Nat.le_refl _) (.cells #[] 3)).trans hb
    go_wp2_with fail
    go_ret
    exact ⟨_, _, rfl, hown, hbw⟩

/-- A list whose k outermost pairs are exchanged. -/
def SwappedI (L P : List Int) (k : Nat) : Prop := P.length = L.length ∧ ∀ t, t < L.length → P[t]? = if t < k ∨ L.length - 1 - k < t then L[L.length - 1 - t]? else L[t]?
theorem swapped_zeroI (L : List Int) : SwappedI L L 0 := ⟨rfl, fun t ht => by rw [if_neg (by omega)]⟩
theorem swapped_succI {L P : List Int} {k : Nat} {x y : Int} (h : SwappedI L P k) (hk : k < L.length - 1 - k) (hx : P[k]? = some x) (hy : P[L.length - 1 - k]? = some y) :
    SwappedI L ((P.set k y).set (L.length - 1 - k) x) (k + 1) := by
  refine ⟨by simp [h.1], fun t ht => ?_⟩
  have hx' := h.2 k (by omega)
  have hy' := h.2 (L.length - 1 - k) (by omega)
  rw [if_neg (by omega), hx] at hx'
  rw [if_neg (by omega), hy] at hy'
  rw [List.getElem?_set, List.getElem?_set]
  by_cases h1 : L.length - 1 - k = t
  · rw [if_pos h1, if_pos (by simp [h.1]; omega), if_pos (by omega), ← h1]
    rw [show L.length - 1 - (L.length - 1 - k) = k by omega, ← hx']
  · rw [if_neg h1]
    by_cases h2 : k = t
    · subst h2
      rw [if_pos rfl, if_pos (by rw [h.1]; omega), if_pos (by omega), ← hy']
    · rw [if_neg h2, h.2 t ht]
      by_cases h3 : t < k ∨ L.length - 1 - k < t
      · rw [if_pos h3, if_pos (by omega)]
      · rw [if_neg h3, if_neg (by omega)]
theorem swapped_endI {L P : List Int} {k : Nat} (h : SwappedI L P k) (hk : L.length ≤ 2 * k + 1) : P = L.reverse := by
  apply List.ext_getElem?
  intro t
  by_cases ht : t < L.length
  · rw [h.2 t ht, List.getElem?_reverse ht]
    by_cases h3 : t < k ∨ L.length - 1 - k < t
    · rw [if_pos h3]
    · rw [if_neg h3]
      congr 1; omega
  · rw [List.getElem?_eq_none (by rw [h.1]; omega), List.getElem?_eq_none (by simp; omega)]

theorem own_grown_trans {a b c : World} {row : Option Nat} (h : a.grownBy b row) (k : b.grownBy c row) : a.grownBy c row :=
  ⟨k.os.trans h.os, k.tape.trans h.tape, k.output.trans h.output, Nat.le_trans h.size k.size, fun i hi hne => (k.block i (Nat.lt_of_lt_of_le hi h.size) hne).trans (h.block i hi hne)⟩
theorem grown_drawnI {a b : World} {row : Option Nat} (h : a.grownBy b row) (n : Nat) : a.grownBy (b.drewN n) row := ⟨h.os, h.tape, h.output, h.size, h.block⟩
theorem grown_setI {a b : World} {g : Nat} (h : a.grownBy b (some g)) (j : Nat) (u : Value) : a.grownBy (b.setCell ⟨g, j, none⟩ u) (some g) :=
  ⟨h.os, h.tape, h.output, by simpa [World.setCell] using h.size, fun i hi hne => (Below.heap_setCell b ⟨g, j, none⟩ u i (by rintro rfl; exact hne rfl)).trans (h.block i hi hne)⟩

set_option maxHeartbeats 400000 in
theorem slices_reverseI (base : Nat) (A : Option Addr) (n c : Nat) (L : List Int) (w : World) (hA : Own w base A n c L) :
    Calls Tryd.prog 126 #[.slice A n c] w fun e w' => e = .returned (.tuple #[]) ∧ Own w' base A n c L.reverse ∧ w.grownBy w' (blk A) := by
  have hle := hA.le
  have HL := Lib.hid hA.len
  go_enter Tryd.func126, Tryd.ntmps126
  go_wp2_with fail
  go_loopw [2, 3] (fun i j wr => ∃ (k : Nat) (P : List Int), 2 * k ≤ n + 1 ∧ i = .int .i64 k ∧ j = .int .i64 ((n : Int) - 1 - k) ∧ Own wr base A n c P ∧ w.grownBy wr (blk A) ∧ Hid (SwappedI L P k)) (fun i _ _ => n - (intOf i).toNat)
  case atStart => exact ⟨0, L, by omega, rfl, by go_num, hA, World.grownBy.refl _ _, swapped_zeroI L⟩
  case round =>
    obtain ⟨k, P, hk, rfl, rfl, hown, hg, HP⟩ := hrel
    by_cases hlt : 2 * k + 1 < n
    · obtain ⟨g, rfl, hg1, hg2⟩ := hown.form (by omega)
      obtain ⟨j, hj⟩ : ∃ j : Nat, (n : Int) - 1 - k = j := ⟨n - 1 - k, by omega⟩
      have hPl : P.length = n := hown.len
      have hkj : k < j := by omega
      have hjn : j < n := by omega
      have hx : P[k]? = some (P[k]'(by omega)) := List.getElem?_eq_getElem _
      have hy : P[j]? = some (P[j]'(by omega)) := List.getElem?_eq_getElem _
      obtain ⟨x, hxe⟩ : ∃ x, x = P[k]'(by omega) := ⟨_, rfl⟩
      obtain ⟨y, hye⟩ : ∃ y, y = P[j]'(by omega) := ⟨_, rfl⟩
      rw [← hxe] at hx
      rw [← hye] at hy
      have c1 := hown.cell hx
      have c2 := hown.cell hy
      have HX := Lib.hid hx
      have HY := Lib.hid hy
      have HPL := Lib.hid hPl
      clear hx hy hxe hye hPl
      rw [hj]
      have HJ := Lib.hid hj
      clear hj
      have f1 := hown.free k
      have f2 := hown.free j
      have hkn : k < n := by omega
      have hne : ¬ k = j := by omega
      have hne' : ¬ j = k := by omega
      go_wp2_with fail
      go_region
      have hx3 : I64 x := hown.fits x (List.mem_of_getElem? HX.out)
      have hy3 : I64 y := hown.fits y (List.mem_of_getElem? HY.out)
      have hown' : Own ((wr.setCell ⟨g, k, none⟩ (.int .i64 y)).setCell ⟨g, j, none⟩ (.int .i64 x)).drew base (some ⟨g, 0, none⟩) n c ((P.set k y).set j x) := ((hown.stored k hy3).stored j hx3).drew
      have hg' : w.grownBy ((wr.setCell ⟨g, k, none⟩ (.int .i64 y)).setCell ⟨g, j, none⟩ (.int .i64 x)).drew (blk (some ⟨g, 0, none⟩)) := grown_drawnI (grown_setI (grown_setI hg k _) j _) 1
      have HP' : Hid (SwappedI L ((P.set k y).set j x) (k + 1)) := by
        have e : j = L.length - 1 - k := by have := HJ.out; have := HL.out; omega
        subst e
        exact swapped_succI HP.out hkj HX.out HY.out
      have hj1 := HJ.out
      clear hown hg HP HX HY HPL HJ c1 c2 f1 f2 hx3 hy3
      have hji : (j : Int) - 1 = (n : Int) - 1 - (k + 1 : Nat) := by omega
      have HJI := Lib.hid hji
      clear hji hj1
      go_wp2_with fail
      go_roundw
      case rel => exact ⟨k + 1, _, by omega, by go_num, by rw [HJI.out], hown', hg', HP'⟩
      case measure => simp [intOf]; omega
    · go_wp2_with fail
      go_end0
      have e := swapped_endI HP.out (by have := HL.out; omega)
      subst e
      exact ⟨rfl, hown, hg⟩

set_option maxHeartbeats 400000 in
theorem line_reverse_ (A : Option Addr) (n c : Nat) (L : List Int) (w : World) (hA : Ints w A n L) :
    Calls Tryd.prog 140 #[.slice A n c] w fun e w' => ∃ A' c', e = .returned (.slice A' n c') ∧ Own w' w.heap.size A' n c' L.reverse ∧ Below w.heap.size w w' := by
  go_enter Tryd.func140, Tryd.ntmps140
  go_wp2_with fail
  refine (slices_clone _ _ _ _ _ hA).mono ?_
  rintro e w1 ⟨A1, c1, rfl, hown, hb⟩
  go_wp2_with fail
  refine (slices_reverseI _ _ _ _ _ _ hown).mono ?_
  rintro e w2 ⟨rfl, hown2, hg⟩
  have hb2 := hb.grown hg hb.size (fun k hk => (hown.lt k hk).1)
  clear hown hb hg
  go_wp2_with fail
  go_ret
  exact ⟨_, _, rfl, hown2, hb2⟩
end

section
open Go.RowKit

/-- A slice with what it reads as. -/
structure SL where
  A : Option Addr
  n : Nat
  c : Nat
  L : List Int
/-- The first error of some words. -/
def errs : List SL → Int
  | [] => 0
  | s :: r => if errW s.L = 0 then errs r else errW s.L
/-- Words that lie behind each other at ad. -/
def Many (w : World) (ad : Addr) (vs : List SL) : Prop := ∀ (j : Nat) (s : SL), vs[j]? = some s → w.cell? (ad.add j) = some (.slice s.A s.n s.c) ∧ Ints w s.A s.n s.L
theorem errs_none {vs : List SL} {k : Nat} (h : vs.length ≤ k) (he : errs (vs.drop k) = errs vs) : errs vs = 0 := by
  rw [List.drop_eq_nil_of_le h] at he; exact he.symm
theorem errs_step {vs : List SL} {k : Nat} {s : SL} (hs : vs[k]? = some s) (he : errs (vs.drop k) = errs vs) (h0 : errW s.L = 0) : errs (vs.drop (k + 1)) = errs vs := by
  rw [← he]
  have hk : k < vs.length := (List.getElem?_eq_some_iff.1 hs).1
  rw [List.drop_eq_getElem_cons hk]
  rw [List.getElem?_eq_getElem hk] at hs
  rw [Option.some.inj hs]
  simp [errs, h0]
theorem errs_hit {vs : List SL} {k : Nat} {s : SL} (hs : vs[k]? = some s) (he : errs (vs.drop k) = errs vs) (h0 : errW s.L ≠ 0) : errs vs = errW s.L := by
  rw [← he]
  have hk : k < vs.length := (List.getElem?_eq_some_iff.1 hs).1
  rw [List.drop_eq_getElem_cons hk]
  rw [List.getElem?_eq_getElem hk] at hs
  rw [Option.some.inj hs]
  simp [errs, h0]

set_option maxHeartbeats 400000 in
theorem line_check (ad : Addr) (n c : Nat) (vs : List SL) (w : World) (hA : Many w ad vs) (hn : vs.length = n) (hle : n ≤ 100) :
    Calls Tryd.prog 106 #[.slice (some ad) n c] w fun e w' => e = .returned (.int .i64 (errs vs)) ∧ w' = w := by
  have HN := Lib.hid hn
  clear hn
  go_enter Tryd.func106, Tryd.ntmps106
  go_wp2_with fail
  go_loop [7] (fun i => ∃ k : Nat, k ≤ n ∧ i = .int .i64 k ∧ Hid (errs (vs.drop k) = errs vs)) (fun i => n - (intOf i).toNat)
  case atStart => exact ⟨0, Nat.zero_le _, rfl, rfl⟩
  case round =>
    obtain ⟨k, hk, rfl, hno⟩ := hrel
    by_cases hlt : k < n
    · have hs := List.getElem?_eq_getElem (show k < vs.length by rw [HN.out]; exact hlt)
      obtain ⟨s, hse⟩ : ∃ s, s = vs[k]'(by rw [HN.out]; exact hlt) := ⟨_, rfl⟩
      rw [← hse] at hs
      clear hse
      obtain ⟨hc, hI⟩ := hA k s hs
      obtain ⟨A, m, d, L⟩ := s
      simp only at hc hI
      have HS := Lib.hid hs
      clear hs
      have hm := hI.le
      have HL := Lib.hid hI.len
      by_cases h : 400 < m
      · have hg : errW L = 7 := by unfold errW; rw [HL.out, if_pos h]
        have hf := Lib.hid (show errs vs = 7 by rw [errs_hit HS.out hno.out (by simp only; rw [hg]; decide), ← hg])
        clear hg
        go_wp2_with fail
        go_ret
        exact ⟨ret_int hf.out.symm, rfl⟩
      · rcases Bool.eq_false_or_eq_true (wordB L) with hw | hw
        · have hg : errW L = 0 := by unfold errW; rw [HL.out, if_neg h, if_pos hw]
          have hf := Lib.hid (errs_step HS.out hno.out hg)
          clear hg
          go_wp2_with (first | (go_at_call 134; refine (line_word _ _ _ _ _ hI).mono ?_; rintro e w' ⟨rfl, rfl⟩))
          go_round
          case rel => exact ⟨k + 1, by omega, by go_num, hf⟩
          case measure => simp [intOf]; omega
        · have hg : errW L = 2 := by unfold errW; rw [HL.out, if_neg h, hw]; rfl
          have hf := Lib.hid (show errs vs = 2 by rw [errs_hit HS.out hno.out (by simp only; rw [hg]; decide), ← hg])
          clear hg
          go_wp2_with (first | (go_at_call 134; refine (line_word _ _ _ _ _ hI).mono ?_; rintro e w' ⟨rfl, rfl⟩))
          go_ret
          exact ⟨ret_int hf.out.symm, rfl⟩
    · go_wp2_with fail
      go_ret
      exact ⟨ret_int (errs_none (by rw [HN.out]; omega) hno.out).symm, rfl⟩

theorem errs_one (A : Option Addr) (n c : Nat) (L : List Int) : errs [⟨A, n, c, L⟩] = errW L := by
  unfold errs
  split
  · rename_i h; simp only at h; rw [h]; rfl
  · rfl
/-- One word in a block of its own. -/
theorem many_one {w : World} {A : Option Addr} {n c : Nat} {L : List Int} {t : TypeId} (hA : Ints w A n L) :
    Many (w.alloc (.cells #[.slice A n c] t)) ⟨w.heap.size, 0, none⟩ [⟨A, n, c, L⟩] := by
  intro j s hs
  match j, hs with
  | 0, hs =>
    simp only [List.getElem?_cons_zero, Option.some.injEq] at hs
    subst hs
    exact ⟨by rw [Addr.add_lit, World.cell?_alloc_at _ _ _ _ rfl]; rfl, hA.alloc _⟩
theorem ret_pair {A : Option Addr} {n n' c : Nat} {e e' : Int} (h : n = n') (h' : e = e') : Ending.returned (.tuple #[.slice A n c, .int .i64 e]) = .returned (.tuple #[.slice A n' c, .int .i64 e']) := by rw [h, h']

/-- What a function of the layer returns: a list where there is no error. -/
def okL (e : Int) (L : List Int) : List Int := if e = 0 then L else []
theorem okL_yes {e : Int} (h : e = 0) (L : List Int) : okL e L = L := if_pos h
theorem okL_no {e : Int} (h : e ≠ 0) (L : List Int) : okL e L = [] := if_neg h
/-- A list and an error are returned. -/
def Gives (w : World) (L : List Int) (er : Int) (e : Ending) (w' : World) : Prop :=
  ∃ A' c', e = .returned (.tuple #[.slice A' L.length c', .int .i64 er]) ∧ Own w' w.heap.size A' L.length c' L ∧ Below w.heap.size w w'
theorem gives_nil {w w' : World} {er : Int} {L : List Int} (h : L = []) (hb : Below w.heap.size w w') : Gives w L er (.returned (.tuple #[.slice none 0 0, .int .i64 er])) w' := by
  subst h
  exact ⟨none, 0, rfl, Own.nil _ _, hb⟩
theorem gives_own {w w' : World} {er : Int} {A : Option Addr} {n c : Nat} {L M : List Int} (h : Own w' w.heap.size A n c M) (hM : M = L) (hb : Below w.heap.size w w') :
    Gives w L er (.returned (.tuple #[.slice A n c, .int .i64 er])) w' := by
  subst hM
  have e := h.len
  subst e
  exact ⟨A, c, rfl, h, hb⟩

set_option maxHeartbeats 400000 in
theorem line_Mirror (K : Int) (A : Option Addr) (n c : Nat) (L : List Int) (w : World) (hA : Ints w A n L) :
    Calls Tryd.prog 71 #[.int .i64 K, .slice A n c] w (Gives w (okL (errF K L) (L.map (K - ·))) (errF K L)) := by
  have hle := hA.le
  have HL := Lib.hid hA.len
  by_cases h : errF K L = 0
  · rw [okL_yes h, h]
    have hv : validB K L = true := by
      unfold errF at h
      by_cases h1 : 400 < L.length
      · rw [if_pos h1] at h; cases h
      · rw [if_neg h1] at h
        cases hv : validB K L
        · rw [hv] at h; cases h
        · rfl
    have hL := in40_of_wordB (wordB_of_validB hv)
    have hK : 0 ≤ K ∧ K ≤ 40 := by
      unfold validB at hv
      simp only [Bool.and_eq_true, decide_eq_true_eq] at hv
      exact hv.1.1
    obtain ⟨hK1, hK2⟩ := hK
    clear hv
    go_enter Tryd.func71, Tryd.ntmps71
    go_wp2_with (first | (go_at_call 109; refine (line_checkFor _ _ _ _ _ _ hA).mono ?_; rintro e w' ⟨rfl, rfl⟩))
    clear h
    go_loopw [7, 18] (fun v i wr => ∃ (k : Nat) (B : Option Addr) (d : Nat) (P : List Int), k ≤ n ∧ i = .int .i64 k ∧ v = .slice B k d ∧ Own wr w'.heap.size B k d P ∧ Below w'.heap.size w' wr ∧ Hid (P = (L.take k).map (K - ·))) (fun _ i _ => n - (intOf i).toNat)
    case atStart => exact ⟨0, none, 0, [], Nat.zero_le _, rfl, rfl, Own.nil _ _, Below.refl _ _, rfl⟩
    case round =>
      obtain ⟨k, B, d, P, hk, rfl, rfl, hown, hb, HP⟩ := hrel
      by_cases hlt : k < n
      · obtain ⟨ad, x, rfl, hx, hx1, hx2, hc⟩ := (hA.below hb).at_ hlt
        obtain ⟨hx3, hx4⟩ := hL.at_ hx.out
        have hsz := hb.size
        go_wp2_with (at_builtin; refine app1 rfl _ _ rfl (hown.alloc _) (K - x) rfl rfl ?c1 ?c2 (by omega) ?c3 ?_)
        case c1 => rw [World.cell?_alloc_at _ _ _ _ rfl]; rfl
        case c2 => unfold I64; omega
        case c3 => first | omega | (simp; omega)
        intro B' d' w1 hown' hb' _ _
        have hbw := (hb.alloc hb.size (.cells #[.int .i64 (K - x)] 3)).trans hb'
        have HP' : Hid (P ++ [K - x] = (L.take (k + 1)).map (K - ·)) := by unfold Hid; rw [map_take_succ _ L k x hx.out, HP.out]
        clear hown hb hb' hc HP
        go_wp2_with fail
        go_roundw
        case rel => exact ⟨k + 1, B', d', _, by omega, by go_num, rfl, hown', hbw, HP'⟩
        case measure => simp [intOf]; omega
      · go_wp2_with fail
        go_ret2
        have hkn : k = n := by omega
        subst hkn
        rw [List.take_of_length_le (by rw [HL.out]; omega)] at HP
        exact gives_own hown HP.out hb
  · rw [okL_no h]
    have hne : (errF K L != 0) = true := by simpa using h
    clear h
    go_enter Tryd.func71, Tryd.ntmps71
    go_wp2_with (first | (go_at_call 109; refine (line_checkFor _ _ _ _ _ _ hA).mono ?_; rintro e w' ⟨rfl, rfl⟩))
    go_ret2
    exact gives_nil rfl (Below.refl _ _)
end

section
open Go.RowKit

theorem Ints.oneI {w : World} {t : TypeId} {x : Int} (hx : I64 x) : Ints (w.alloc (.cells #[.int .i64 x] t)) (some ⟨w.heap.size, 0, none⟩) 1 [x] := by
  refine ⟨rfl, by omega, by intro y hy; simp at hy; subst hy; exact hx, fun _ => ⟨_, rfl, by simp, fun j y hy => ?_⟩⟩
  match j, hy with
  | 0, hy =>
    simp only [List.getElem?_cons_zero, Option.some.injEq] at hy
    subst hy
    rw [Addr.add_lit, World.cell?_alloc_at _ _ _ _ rfl]; rfl
theorem Ints.one_drew {w : World} {t : TypeId} {x : Int} (hx : I64 x) : Ints (w.alloc (.cells #[.int .i64 x] t)).drew (some ⟨w.heap.size, 0, none⟩) 1 [x] := Ints.oneI hx
theorem Ints.grown0 {w w' : World} {A : Option Addr} {n : Nat} {L : List Int} (h : Ints w A n L) (hg : w.grownBy w' (blk none)) : Ints w' A n L :=
  h.keep hg.size fun p hp => World.cell?_of_block (hg.block p.block hp (by simp [blk]))
theorem Ints.two {w : World} {x y : Int} (hx : I64 x) (hy : I64 y) : Own (w.alloc (.cells #[.int .i64 x, .int .i64 y] 3)) w.heap.size (some ⟨w.heap.size, 0, none⟩) 2 2 [x, y] := by
  refine ⟨⟨rfl, .inr ⟨w.heap.size, 2, _, rfl, Nat.le_refl _, heap_alloc_new w _, Nat.le_refl _, by decide, rfl, rfl⟩⟩, rfl, by omega, ?_⟩
  intro z hz
  simp at hz
  rcases hz with rfl | rfl
  · exact hx
  · exact hy

def tnL : List Int → List Int
  | [] => []
  | x :: r => r ++ [x]
theorem turnL_eq (L : List Int) : tnL L = rotL L 1 := by cases L <;> simp [tnL, rotL]

theorem keepS {w wx : World} {ad : Addr} {v : Value} (hc : w.cell? ad = some v) (h : Below w.heap.size w wx) : Below w.heap.size w wx ∧ wx.cell? ad = some v :=
  ⟨h, (h.cell (World.block_lt_of_cell? w ad hc)).trans hc⟩
theorem keepT {w a b : World} {ad : Addr} {v : Value} (hc : w.cell? ad = some v) (h : Below w.heap.size w a ∧ a.cell? ad = some v) (k : Below w.heap.size a b) : Below w.heap.size w b ∧ b.cell? ad = some v := keepS hc (h.1.trans k)
theorem keepA {w a : World} {ad : Addr} {v : Value} (hc : w.cell? ad = some v) (h : Below w.heap.size w a ∧ a.cell? ad = some v) (o : Obj) : Below w.heap.size w (a.alloc o) ∧ (a.alloc o).cell? ad = some v := keepS hc (h.1.alloc h.1.size o)
theorem turnL_of {L : List Int} {x : Int} (hx : L[0]? = some x) : [] ++ L.drop 1 ++ [x] = tnL L := by
  cases L with
  | nil => simp at hx
  | cons y r => simp at hx; subst hx; rfl

set_option maxHeartbeats 800000 in
theorem line_Turn (A : Option Addr) (n c : Nat) (L : List Int) (w : World) (hA : Ints w A n L) (hcap : n ≤ c) :
    Calls Tryd.prog 72 #[.slice A n c] w (Gives w (okL (errW L) (tnL L)) (errW L)) := by
  have hb1 : Below w.heap.size w (w.alloc (.cells #[.slice A n c] 35)) := (Below.refl _ _).alloc (Nat.le_refl _) _
  have hle := hA.le
  by_cases h : errW L = 0
  · rw [okL_yes h, h]
    have HE := Lib.hid h
    clear h
    by_cases h0 : n = 0
    · have hL : L = [] := List.eq_nil_of_length_eq_zero (by rw [hA.len]; exact h0)
      subst hL
      subst h0
      go_enter Tryd.func72, Tryd.ntmps72
      go_wp2_with fail
      refine (line_check _ _ _ _ _ (many_one hA) rfl (by simp)).mono ?_
      rintro e w' ⟨rfl, rfl⟩
      rw [errs_one, HE.out]
      go_wp2_with fail
      go_ret2
      exact gives_nil rfl hb1
    · have h0' : ((n : Int) == 0) = false := by simp; omega
      have hn : 0 < n := by omega
      obtain ⟨ad, _, rfl, _, _, _, _⟩ := hA.at_ hn
      have hA1 := hA.alloc (.cells #[.slice (some ad) n c] 35)
      obtain ⟨x, hx, hx1, hx2, hc⟩ := hA1.also hn
      have hx64 : Hid (I64 x) := ⟨hx1, hx2⟩
      have hc' : (w.alloc (.cells #[.slice (some ad) n c] 35)).cell? ad = some (.int .i64 x) := by simpa [Addr.add] using hc
      have b1 : (1 : Int) ≤ (n : Int) := by omega
      have b2 : (1 : Int) ≤ (c : Int) := by omega
      clear hc h0
      have hm := many_one (t := 35) (c := c) hA
      obtain ⟨W, hW⟩ : ∃ W, W = w.alloc (.cells #[.slice (some ad) n c] 35) := ⟨_, rfl⟩
      go_enter Tryd.func72, Tryd.ntmps72
      go_wp2_with fail
      refine (line_check _ _ _ _ _ hm rfl (by simp)).mono ?_
      rintro e w' ⟨rfl, hw'⟩
      rw [← hW] at hw' hA1 hc' hb1
      subst hw'
      rw [errs_one, HE.out]
      clear hm hW
      go_wp2_with fail
      go_region_held3 (fun wx => Below w'.heap.size w' wx ∧ wx.cell? ad = some (.int .i64 x))
        (first | exact keepS hc' (Below.refl _ _).drew | exact keepT hc' (by assumption) (by assumption) | exact keepA hc' (by assumption) _)
        (first
          | ((refine stepS rfl (.const (.slice none 0 0)) (.tmp 17) (by rfl) (by rfl) (Own.nil _ w'.heap.size) (Ints.from (c := c) (hA1.below (And.left (by assumption))) hn hcap) (by rfl) (by rfl) (n - 1) (by omega) (by omega) (Below.size (And.left (by assumption))) ?_; intro A1 c1 w1 hown1 hbx1 hg1 hl1))
          | ((refine stepS rfl (.tmp 18) (.tmp 22) (by rfl) (by rfl) (hown1.alloc _) (Ints.oneI hx64.out) (by rfl) (by rfl) n (by omega) (by omega) (Below.size (And.left (by assumption))) ?_; intro A2 c2 w2 hown2 hb2 hg2 hl2))
          | ((refine stepS rfl (.tmp 18) (.tmp 22) (by rfl) (by rfl) hown1 (Ints.grown0 (Ints.one_drew hx64.out) hg1) (by rfl) (by rfl) n (by omega) (by omega) (Below.size (And.left (by assumption))) ?_; intro A2 c2 w2 hown2 hb2 hg2 hl2)))
      all_goals
        go_wp2_with fail
        all_goals
          go_ret2
          exact gives_own (hown2.mono hb1.size) (turnL_of hx.out) (below_chain hb1 (And.left (by assumption)) hb1.size)
  · rw [okL_no h]
    have hne : (errW L != 0) = true := by simpa using h
    have HE := Lib.hid (errs_one A n c L)
    clear h
    obtain ⟨er, her⟩ : ∃ er, er = errW L := ⟨_, rfl⟩
    rw [← her] at hne ⊢
    rw [← her] at HE
    clear her
    go_enter Tryd.func72, Tryd.ntmps72
    go_wp2_with fail
    refine (line_check _ _ _ _ _ (many_one hA) rfl (by simp)).mono ?_
    rintro e w' ⟨rfl, rfl⟩
    rw [HE.out]
    go_wp2_with fail
    go_ret2
    exact gives_nil rfl hb1

/-- line.Circle's error. -/
def errC (i j : Int) : Int := if 1 ≤ i ∧ i ≤ j ∧ j ≤ 40 then 0 else 2
end
end Go.Proofs.YtkjcmppaapbabaaDoor
