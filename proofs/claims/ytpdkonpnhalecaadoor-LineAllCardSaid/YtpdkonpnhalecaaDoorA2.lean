/-
  Contracts of small functions that only read: the checks of line and of the law (word, Valid, check, checkFor, wrong, wrongFor), slices.Max, ref.pair, ref.Reduced, line.Reduced. Conditions: the slices read as lists of ints.
-/
import Derived.Test.YtpdkonpnhalecaaDoorA1
import Derived.Test.YtpdkonpnhalecaaDoorP0
namespace Go.Proofs.YtpdkonpnhalecaaDoor
open Go.RowKit

theorem fingers_any (K : Int) (w : World) : Calls Tryd.prog 15 #[.int .i64 K] w fun e w' => e = .returned (.bool (decide (0 ≤ K) && decide (K ≤ 40))) ∧ w' = w := by
  by_cases h1 : 0 ≤ K
  · have hf := Lib.hid (show (decide (0 ≤ K) && decide (K ≤ 40)) = decide (K ≤ 40) by simp [h1])
    go_enter Tryd.func15, Tryd.ntmps15
    go_wp2
    go_ret
    exact ⟨ret_bool hf.out.symm, rfl⟩
  · have hf := Lib.hid (show (decide (0 ≤ K) && decide (K ≤ 40)) = false by simp [h1])
    go_enter Tryd.func15, Tryd.ntmps15
    go_wp2
    go_ret
    exact ⟨ret_bool hf.out.symm, rfl⟩

theorem word1_any (x : Int) (w : World) : Calls Tryd.prog 48 #[.int .i64 x] w fun e w' => e = .returned (.bool (!inB 40 x)) ∧ w' = w := by
  by_cases h1 : 0 ≤ x
  · by_cases h2 : x ≤ 40
    · have hf := Lib.hid (show (!inB 40 x) = false by rw [inB_yes h1 h2]; rfl)
      go_enter Tryd.func48, Tryd.ntmps48
      go_wp2
      go_ret
      exact ⟨ret_bool (by rw [hf.out]; simp; omega), rfl⟩
    · have hf := Lib.hid (show (!inB 40 x) = true by rw [inB_no_hi (by omega)]; rfl)
      go_enter Tryd.func48, Tryd.ntmps48
      go_wp2
      go_ret
      exact ⟨ret_bool hf.out.symm, rfl⟩
  · have hf := Lib.hid (show (!inB 40 x) = true by rw [inB_no_lo (by omega)]; rfl)
    go_enter Tryd.func48, Tryd.ntmps48
    go_wp2
    go_ret
    exact ⟨ret_bool hf.out.symm, rfl⟩

/-- slices.IndexFunc at word's own predicate: not in 0 .. 40. -/
def badAt (L : List Int) (i : Nat) : Bool := match L[i]? with
  | some x => !inB 40 x
  | none => false
theorem badAt_of {L : List Int} {i : Nat} {x : Int} (h : L[i]? = some x) : badAt L i = !inB 40 x := by unfold badAt; rw [h]
set_option maxHeartbeats 400000 in
theorem indexFunc_word (A : Option Addr) (n c : Nat) (L : List Int) (w : World) (hA : Ints w A n L) :
    Calls Tryd.prog 72 #[.slice A n c, .func (.func 48) #[] #[]] w fun e w' => e = .returned (.int .i64 (firstI (badAt L) n)) ∧ w' = w := by
  have hle := hA.le
  have HL := Lib.hid hA.len
  go_enter Tryd.func72, Tryd.ntmps72
  go_wp2_with fail
  go_loop [8] (fun i => ∃ k : Nat, k ≤ n ∧ i = .int .i64 k ∧ Hid (NoneTo (badAt L) k)) (fun i => n - (intOf i).toNat)
  case atStart => exact ⟨0, Nat.zero_le _, rfl, NoneTo.zero _⟩
  case round =>
    obtain ⟨k, hk, rfl, hno⟩ := hrel
    by_cases hlt : k < n
    · obtain ⟨ad, x, rfl, hx, hx1, hx2, hc⟩ := hA.at_ hlt
      rcases Bool.eq_false_or_eq_true (inB 40 x) with hb | hb
      · go_wp2_with (go_at_call 48; refine (word1_any _ _).mono ?_; rintro e w' ⟨rfl, rfl⟩)
        go_round
        case rel => exact ⟨k + 1, by omega, by go_num, hno.out.succ (by rw [badAt_of hx, hb]; rfl)⟩
        case measure => simp [intOf]; omega
      · have hf := Lib.hid (firstI_hit (n := n) hno.out (by rw [badAt_of hx, hb]; rfl) hlt)
        go_wp2_with (go_at_call 48; refine (word1_any _ _).mono ?_; rintro e w' ⟨rfl, rfl⟩)
        go_ret
        exact ⟨ret_int hf.out.symm, rfl⟩
    · go_wp2_with fail
      go_ret
      have hkn : k = n := by omega
      subst hkn
      exact ⟨ret_int (firstI_none hno.out).symm, rfl⟩

theorem all_of_badAt {L : List Int} (h : NoneTo (badAt L) L.length) : L.all (inB 40) = true := by
  rw [List.all_eq_true]
  intro x hx
  obtain ⟨i, hi, rfl⟩ := List.getElem_of_mem hx
  have := h i hi
  rw [badAt_of (List.getElem?_eq_getElem hi)] at this
  simpa using this

theorem containsFunc_word (A : Option Addr) (n c : Nat) (L : List Int) (w : World) (hA : Ints w A n L) :
    Calls Tryd.prog 47 #[.slice A n c, .func (.func 48) #[] #[]] w fun e w' => e = .returned (.bool (!L.all (inB 40))) ∧ w' = w := by
  have HL := Lib.hid hA.len
  have hf := Lib.hid (show decide (0 ≤ firstI (badAt L) n) = !L.all (inB 40) by
    rcases firstI_cases (badAt L) n with ⟨h, h'⟩ | ⟨k, hk, h, _, hp⟩
    · rw [h, all_of_badAt (by rw [HL.out]; exact h')]; rfl
    · have hx : L[k]? = some (L[k]'(by rw [HL.out]; exact hk)) := List.getElem?_eq_getElem _
      rw [badAt_of hx] at hp
      rw [h, all_false_of (inB 40) L k _ hx (by simpa using hp)]; simp)
  go_enter Tryd.func47, Tryd.ntmps47
  go_wp2_with (go_at_call 72; refine (indexFunc_word _ _ _ _ _ hA).mono ?_; rintro e w' ⟨rfl, rfl⟩)
  go_ret
  exact ⟨ret_bool hf.out, rfl⟩

set_option maxHeartbeats 400000 in
theorem line_word (A : Option Addr) (n c : Nat) (L : List Int) (w : World) (hA : Ints w A n L) :
    Calls Tryd.prog 29 #[.slice A n c] w fun e w' => e = .returned (.bool (wordB L)) ∧ w' = w := by
  have hle := hA.le
  have HL := Lib.hid hA.len
  by_cases h1 : n % 2 = 0
  · have h1' : ((n : Int) % 2 == 0) = true := by simp; omega
    by_cases h2 : n ≤ 400
    · have hf := Lib.hid (show wordB L = L.all (inB 40) by unfold wordB; rw [HL.out]; simp [h1, h2])
      go_enter Tryd.func29, Tryd.ntmps29
      go_wp2_with (go_at_call 47; refine (containsFunc_word _ _ _ _ _ hA).mono ?_; rintro e w' ⟨rfl, rfl⟩)
      go_ret
      exact ⟨ret_bool (by simp [hf.out]), rfl⟩
    · have hf := Lib.hid (show wordB L = false by unfold wordB; rw [HL.out]; simp [h2])
      go_enter Tryd.func29, Tryd.ntmps29
      go_wp2_with fail
      go_ret
      exact ⟨ret_bool hf.out.symm, rfl⟩
  · have h1' : ((n : Int) % 2 == 0) = false := by simp; omega
    have hf := Lib.hid (show wordB L = false by unfold wordB; rw [HL.out]; simp [h1])
    go_enter Tryd.func29, Tryd.ntmps29
    go_wp2_with fail
    go_ret
    exact ⟨ret_bool hf.out.symm, rfl⟩
/-- slices.Max. -/
def maxL : List Int → Int
  | [] => 0
  | x :: xs => xs.foldl max x
theorem foldl_max_take {L : List Int} {k : Nat} {x y : Int} (_h : 0 < k) (hx : L[k]? = some x) (hm : maxL (L.take k) = y) : maxL (L.take (k + 1)) = max y x := by
  subst hm
  cases L with
  | nil => simp at hx
  | cons z zs =>
    cases k with
    | zero => omega
    | succ k =>
      simp only [List.getElem?_cons_succ] at hx
      simp only [List.take_succ_cons, maxL]
      rw [List.take_add_one, hx]
      simp
theorem le_foldl_max (xs : List Int) : ∀ (y k : Int), xs.foldl max y ≤ k ↔ (y ≤ k ∧ ∀ x ∈ xs, x ≤ k) := by
  induction xs with
  | nil => intro y k; simp
  | cons z zs ih =>
    intro y k
    rw [List.foldl_cons, ih]
    simp only [List.mem_cons, forall_eq_or_imp]
    rw [Int.max_le, and_assoc]
theorem maxL_le {L : List Int} (h : 0 < L.length) (k : Int) : maxL L ≤ k ↔ L.all (fun x => decide (x ≤ k)) = true := by
  cases L with
  | nil => simp at h
  | cons z zs =>
    simp only [maxL, le_foldl_max, List.all_cons, Bool.and_eq_true, decide_eq_true_eq, List.all_eq_true]

theorem max_ite (a b : Int) : max a b = if a < b then b else a := by rw [Int.max_def]; split <;> split <;> omega

set_option maxHeartbeats 400000 in
theorem slices_max (A : Option Addr) (n c : Nat) (L : List Int) (w : World) (hA : Ints w A n L) (hn : 0 < n) :
    Calls Tryd.prog 76 #[.slice A n c] w fun e w' => e = .returned (.int .i64 (maxL L)) ∧ w' = w := by
  have hle := hA.le
  have HL := Lib.hid hA.len
  obtain ⟨ad, x0, rfl, hx0, hx1, hx2, hc0⟩ := hA.at_ hn
  have hc0' : w.cell? ad = some (.int .i64 x0) := by simpa [Addr.add] using hc0
  clear hc0
  go_enter Tryd.func76, Tryd.ntmps76
  go_wp2_with fail
  go_loop [3, 4] (fun m i => ∃ k : Nat, 0 < k ∧ k ≤ n ∧ i = .int .i64 k ∧ m = .int .i64 (maxL (L.take k))) (fun _ i => n - (intOf i).toNat)
  case atStart =>
    refine ⟨1, by omega, hn, rfl, ?_⟩
    rw [List.take_add_one, hx0.out]; rfl
  case round =>
    obtain ⟨k, hk0, hk, rfl, rfl⟩ := hrel
    obtain ⟨m, hm⟩ : ∃ m, maxL (L.take k) = m := ⟨_, rfl⟩
    rw [hm]
    have HM := Lib.hid hm
    clear hm
    by_cases hlt : k < n
    · obtain ⟨x, hx, hx1, hx2, hc⟩ := hA.also hlt
      go_wp2_with fail
      go_round
      case rel => exact ⟨k + 1, by omega, by omega, by go_num, by rw [foldl_max_take hk0 hx.out HM.out, max_ite]⟩
      case measure => simp [intOf]; omega
    · go_wp2_with fail
      go_ret
      rw [List.take_of_length_le (by rw [HL.out]; omega)] at HM
      exact ⟨ret_int HM.out.symm, rfl⟩

set_option maxHeartbeats 400000 in
theorem line_valid (K : Int) (A : Option Addr) (n c : Nat) (L : List Int) (w : World) (hA : Ints w A n L) :
    Calls Tryd.prog 53 #[.int .i64 K, .slice A n c] w fun e w' => e = .returned (.bool (validB K L)) ∧ w' = w := by
  have hle := hA.le
  have HL := Lib.hid hA.len
  rcases Bool.eq_false_or_eq_true (decide (0 ≤ K) && decide (K ≤ 40)) with hk | hk
  · rcases Bool.eq_false_or_eq_true (wordB L) with hw | hw
    · by_cases hn : n = 0
      · have hL : L = [] := List.eq_nil_of_length_eq_zero (by rw [HL.out]; exact hn)
        have hf := Lib.hid (show validB K L = true by unfold validB; rw [hk, hw, hL]; rfl)
        clear hL
        subst hn
        go_enter Tryd.func53, Tryd.ntmps53
        go_wp2_with (first
          | (go_at_call 15; refine (fingers_any _ _).mono ?_; rintro e w' ⟨rfl, rfl⟩)
          | (go_at_call 29; refine (line_word _ _ _ _ _ hA).mono ?_; rintro e w' ⟨rfl, rfl⟩))
        go_ret
        exact ⟨ret_bool hf.out.symm, rfl⟩
      · have hn' : ((n : Int) == 0) = false := by simp; omega
        have hn0 : 0 < n := by omega
        have hf := Lib.hid (show decide (maxL L ≤ K) = validB K L by
          unfold validB
          rw [hk, hw, Bool.true_and, Bool.true_and, Bool.eq_iff_iff, decide_eq_true_eq]
          exact maxL_le (by rw [HL.out]; exact hn0) K)
        go_enter Tryd.func53, Tryd.ntmps53
        go_wp2_with (first
          | (go_at_call 15; refine (fingers_any _ _).mono ?_; rintro e w' ⟨rfl, rfl⟩)
          | (go_at_call 29; refine (line_word _ _ _ _ _ hA).mono ?_; rintro e w' ⟨rfl, rfl⟩)
          | (go_at_call 76; refine (slices_max _ _ _ _ _ hA hn0).mono ?_; rintro e w' ⟨rfl, rfl⟩))
        go_ret
        exact ⟨ret_bool hf.out, rfl⟩
    · have hf := Lib.hid (show validB K L = false by unfold validB; rw [hw]; simp)
      go_enter Tryd.func53, Tryd.ntmps53
      go_wp2_with (first
        | (go_at_call 15; refine (fingers_any _ _).mono ?_; rintro e w' ⟨rfl, rfl⟩)
        | (go_at_call 29; refine (line_word _ _ _ _ _ hA).mono ?_; rintro e w' ⟨rfl, rfl⟩))
      go_ret
      exact ⟨ret_bool hf.out.symm, rfl⟩
  · have hf := Lib.hid (show validB K L = false by unfold validB; rw [hk]; rfl)
    go_enter Tryd.func53, Tryd.ntmps53
    go_wp2_with (first
      | (go_at_call 15; refine (fingers_any _ _).mono ?_; rintro e w' ⟨rfl, rfl⟩))
    go_ret
    exact ⟨ret_bool hf.out.symm, rfl⟩

/-- check's and wrong's error. -/
def errW (L : List Int) : Int := if 400 < L.length then 7 else if wordB L then 0 else 2
def errF (k : Int) (L : List Int) : Int := if 400 < L.length then 7 else if validB k L then 0 else 2

set_option maxHeartbeats 400000 in
theorem line_checkFor (K : Int) (A : Option Addr) (n c : Nat) (L : List Int) (w : World) (hA : Ints w A n L) :
    Calls Tryd.prog 34 #[.int .i64 K, .slice A n c] w fun e w' => e = .returned (.int .i64 (errF K L)) ∧ w' = w := by
  have hle := hA.le
  have HL := Lib.hid hA.len
  by_cases h : 400 < n
  · have hf := Lib.hid (show errF K L = 7 by unfold errF; rw [HL.out, if_pos h])
    go_enter Tryd.func34, Tryd.ntmps34
    go_wp2_with fail
    go_ret
    exact ⟨ret_int hf.out.symm, rfl⟩
  · rcases Bool.eq_false_or_eq_true (validB K L) with hw | hw
    · have hf := Lib.hid (show errF K L = 0 by unfold errF; rw [HL.out, if_neg h, if_pos hw])
      go_enter Tryd.func34, Tryd.ntmps34
      go_wp2_with (go_at_call 53; refine (line_valid _ _ _ _ _ _ hA).mono ?_; rintro e w' ⟨rfl, rfl⟩)
      go_ret
      exact ⟨ret_int hf.out.symm, rfl⟩
    · have hf := Lib.hid (show errF K L = 2 by unfold errF; rw [HL.out, if_neg h, hw]; rfl)
      go_enter Tryd.func34, Tryd.ntmps34
      go_wp2_with (go_at_call 53; refine (line_valid _ _ _ _ _ _ hA).mono ?_; rintro e w' ⟨rfl, rfl⟩)
      go_ret
      exact ⟨ret_int hf.out.symm, rfl⟩

theorem wordB_of_validB {k : Int} {L : List Int} (h : validB k L = true) : wordB L = true := by
  unfold validB at h
  simp only [Bool.and_eq_true] at h
  exact h.1.2

end Go.Proofs.YtpdkonpnhalecaaDoor
