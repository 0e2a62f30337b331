/-
  Contracts of small functions of the document: In, times, Down, Below, Crossings, at, left, along, Other. Conditions: the code's letters read; indexes lie within.
-/
import Derived.Test.YtkjcmppaapbabaaDoorL1
import Derived.BigQuiet
namespace Go.Proofs.YtkjcmppaapbabaaDoor
open Go.RowKit

set_option maxHeartbeats 400000 in
theorem ref_In (K G : Int) (A : Option Addr) (n c : Nat) (L : List Lt) (w : World) (hA : Lets w A n L) :
    Calls Tryd.prog 89 #[.agg #[.int .i64 K, .slice A n c], .int .i64 G] w fun e w' => e = .returned (.int .i64 (gN L G n)) ∧ Below w.heap.size w w' := by
  have hle := hA.le
  have hb := (Below.refl w.heap.size w).alloc (Nat.le_refl _) (.cells #[.int .i64 K, .slice A n c] 24)
  have hA' := hA.alloc (.cells #[.int .i64 K, .slice A n c] 24)
  go_enter Tryd.func89, Tryd.ntmps89
  go_wp2
  go_loop [5, 6] (fun v3 v4 => ∃ k : Nat, k ≤ n ∧ v4 = .int .i64 k ∧ v3 = .int .i64 (gN L G k)) (fun _ i => n - (intOf i).toNat)
  case atStart => exact ⟨0, Nat.zero_le _, rfl, rfl⟩
  case round =>
    obtain ⟨k, hk, rfl, rfl⟩ := hrel
    have hpk : gN L G k ≤ k := countTo_le _ _
    by_cases hlt : k < n
    · obtain ⟨g, o, rfl, hg, hx, hok⟩ := hA'.at_ hlt
      obtain ⟨h0, h1, h2, h3, h4, h5⟩ := hx
      by_cases hp : (la L k).kind = 1
      · by_cases hq : (la L k).gate = G
        · have hs := Lib.hid (show gN L G (k + 1) = gN L G k + 1 from countTo_yes (by rw [isP_t hp]; simp [hq]))
          go_wp2_with fail
          go_round
          case rel => exact ⟨k + 1, by omega, by go_num, by rw [hs.out]; go_num⟩
          case measure => simp [intOf]; omega
        · have hs := Lib.hid (show gN L G (k + 1) = gN L G k from countTo_no (by simp [hq]))
          have hq' : ((la L k).gate == G) = false := by simpa using hq
          go_wp2_with fail
          go_round
          case rel => exact ⟨k + 1, by omega, by go_num, by rw [hs.out]⟩
          case measure => simp [intOf]; omega
      · have hs := Lib.hid (show gN L G (k + 1) = gN L G k from countTo_no (by rw [isP_f hp]; rfl))
        have hp' : ((la L k).kind == 1) = false := by simpa using hp
        go_wp2_with fail
        go_round
        case rel => exact ⟨k + 1, by omega, by go_num, by rw [hs.out]⟩
        case measure => simp [intOf]; omega
    · go_wp2_with fail
      go_ret
      have hkn : k = n := by omega
      subst hkn
      exact ⟨rfl, hb⟩
set_option maxHeartbeats 400000 in
theorem ref_times (K G : Int) (A : Option Addr) (n c : Nat) (L : List Lt) (w : World) (hA : Lets w A n L) :
    Calls Tryd.prog 120 #[.agg #[.int .i64 K, .slice A n c], .int .i64 G] w fun e w' => e = .returned (.int .i64 (tN L G n)) ∧ Below w.heap.size w w' := by
  have hle := hA.le
  have hb := (Below.refl w.heap.size w).alloc (Nat.le_refl _) (.cells #[.int .i64 K, .slice A n c] 24)
  have hA' := hA.alloc (.cells #[.int .i64 K, .slice A n c] 24)
  go_enter Tryd.func120, Tryd.ntmps120
  go_wp2
  go_loop [5, 6] (fun v3 v4 => ∃ k : Nat, k ≤ n ∧ v4 = .int .i64 k ∧ v3 = .int .i64 (tN L G k)) (fun _ i => n - (intOf i).toNat)
  case atStart => exact ⟨0, Nat.zero_le _, rfl, rfl⟩
  case round =>
    obtain ⟨k, hk, rfl, rfl⟩ := hrel
    have hpk : tN L G k ≤ k := countTo_le _ _
    by_cases hlt : k < n
    · obtain ⟨g, o, rfl, hg, hx, hok⟩ := hA'.at_ hlt
      obtain ⟨h0, h1, h2, h3, h4, h5⟩ := hx
      by_cases hp : (la L k).kind = 2
      · by_cases hq : (la L k).id = G
        · have hs := Lib.hid (show tN L G (k + 1) = tN L G k + 1 from countTo_yes (by rw [isC_t hp]; simp [hq]))
          go_wp2_with fail
          go_round
          case rel => exact ⟨k + 1, by omega, by go_num, by rw [hs.out]; go_num⟩
          case measure => simp [intOf]; omega
        · have hs := Lib.hid (show tN L G (k + 1) = tN L G k from countTo_no (by simp [hq]))
          have hq' : ((la L k).id == G) = false := by simpa using hq
          go_wp2_with fail
          go_round
          case rel => exact ⟨k + 1, by omega, by go_num, by rw [hs.out]⟩
          case measure => simp [intOf]; omega
      · have hs := Lib.hid (show tN L G (k + 1) = tN L G k from countTo_no (by rw [isC_f hp]; rfl))
        have hp' : ((la L k).kind == 2) = false := by simpa using hp
        go_wp2_with fail
        go_round
        case rel => exact ⟨k + 1, by omega, by go_num, by rw [hs.out]⟩
        case measure => simp [intOf]; omega
    · go_wp2_with fail
      go_ret
      have hkn : k = n := by omega
      subst hkn
      exact ⟨rfl, hb⟩
theorem dwn_of {L : List Lt} {i : Nat} : (((pN L i : Nat) : Int) % 2 == 0) = dwn L i := by
  unfold dwn
  rw [Bool.eq_iff_iff]
  simp
  omega
set_option maxHeartbeats 400000 in
theorem ref_Down (K : Int) (i : Nat) (A : Option Addr) (n c : Nat) (L : List Lt) (w : World) (hA : Lets w A n L) (hi : i ≤ n) :
    Calls Tryd.prog 63 #[.agg #[.int .i64 K, .slice A n c], .int .i64 i] w fun e w' => e = .returned (.bool (dwn L i)) ∧ Below w.heap.size w w' := by
  have hle := hA.le
  have hb := (Below.refl w.heap.size w).alloc (Nat.le_refl _) (.cells #[.int .i64 K, .slice A n c] 24)
  have hA' := hA.alloc (.cells #[.int .i64 K, .slice A n c] 24)
  go_enter Tryd.func63, Tryd.ntmps63
  go_wp2
  go_loop [5, 6] (fun v3 v4 => ∃ k : Nat, k ≤ i ∧ v4 = .int .i64 k ∧ v3 = .int .i64 (pN L k)) (fun _ j => i - (intOf j).toNat)
  case atStart => exact ⟨0, Nat.zero_le _, rfl, rfl⟩
  case round =>
    obtain ⟨k, hk, rfl, rfl⟩ := hrel
    have hpk := pN_le L k
    by_cases hlt : k < i
    · obtain ⟨g, o, rfl, hg, hx, hok⟩ := hA'.at_ (k := k) (by omega)
      obtain ⟨h0, _, _, _, _, _⟩ := hx
      by_cases hp : (la L k).kind = 1
      · have hs := Lib.hid (show pN L (k + 1) = pN L k + 1 from countTo_yes (isP_t hp))
        go_wp2_with fail
        go_round
        case rel => exact ⟨k + 1, by omega, by go_num, by rw [hs.out]; go_num⟩
        case measure => simp [intOf]; omega
      · have hs := Lib.hid (show pN L (k + 1) = pN L k from countTo_no (isP_f hp))
        have hp' : ((la L k).kind == 1) = false := by simpa using hp
        go_wp2_with fail
        go_round
        case rel => exact ⟨k + 1, by omega, by go_num, by rw [hs.out]⟩
        case measure => simp [intOf]; omega
    · have hki : k = i := by omega
      subst hki
      have hd := Lib.hid (dwn_of (L := L) (i := k))
      go_wp2_with fail
      go_ret
      exact ⟨ret_bool hd.out, hb⟩
set_option maxHeartbeats 400000 in
theorem ref_Below (K : Int) (i : Nat) (A : Option Addr) (n c : Nat) (L : List Lt) (w : World) (hA : Lets w A n L) (hi : i < n) :
    Calls Tryd.prog 31 #[.agg #[.int .i64 K, .slice A n c], .int .i64 i] w fun e w' => e = .returned (.bool (!dwn L (i + 1))) ∧ Below w.heap.size w w' := by
  have hle := hA.le
  have hb := (Below.refl w.heap.size w).alloc (Nat.le_refl _) (.cells #[.int .i64 K, .slice A n c] 24)
  have hA' := hA.alloc (.cells #[.int .i64 K, .slice A n c] 24)
  go_enter Tryd.func31, Tryd.ntmps31
  go_wp2_with fail
  refine (ref_Down K (i + 1) A n c L _ hA' (by omega)).mono ?_
  rintro e w' ⟨rfl, hb'⟩
  go_wp2_with fail
  go_ret
  exact ⟨rfl, hb.trans (hb'.mono (by simp))⟩
set_option maxHeartbeats 400000 in
theorem code_Crossings (K : Int) (A : Option Addr) (n c : Nat) (L : List Lt) (w : World) (hA : Lets w A n L) :
    Calls Tryd.prog 29 #[.agg #[.int .i64 K, .slice A n c]] w fun e w' => e = .returned (.int .i64 ((cN L n / 2 : Nat) : Int)) ∧ Below w.heap.size w w' := by
  have hle := hA.le
  have hb := (Below.refl w.heap.size w).alloc (Nat.le_refl _) (.cells #[.int .i64 K, .slice A n c] 24)
  have hA' := hA.alloc (.cells #[.int .i64 K, .slice A n c] 24)
  have hcn := cN_le L n
  go_enter Tryd.func29, Tryd.ntmps29
  go_wp2_with fail
  refine (code_crosses K A n c L _ hA').mono ?_
  rintro e w' ⟨rfl, hb'⟩
  go_wp2_with fail
  go_ret
  exact ⟨ret_int (by omega), hb.trans (hb'.mono (by simp))⟩
set_option maxHeartbeats 400000 in
theorem ref_Crossings (K : Int) (A : Option Addr) (n c : Nat) (L : List Lt) (w : World) (hA : Lets w A n L) :
    Calls Tryd.prog 30 #[.agg #[.int .i64 K, .slice A n c]] w fun e w' => e = .returned (.int .i64 ((cN L n / 2 : Nat) : Int)) ∧ Below w.heap.size w w' := by
  have hle := hA.le
  have hb := (Below.refl w.heap.size w).alloc (Nat.le_refl _) (.cells #[.int .i64 K, .slice A n c] 24)
  have hA' := hA.alloc (.cells #[.int .i64 K, .slice A n c] 24)
  have hcn := cN_le L n
  go_enter Tryd.func30, Tryd.ntmps30
  go_wp2_with fail
  refine (ref_visits K A n c L _ hA').mono ?_
  rintro e w' ⟨rfl, hb'⟩
  go_wp2_with fail
  go_ret
  exact ⟨ret_int (by omega), hb.trans (hb'.mono (by simp))⟩
/-- The index of a number in a list, or -1. -/
def atI (X : List Int) (v : Int) : Int := if v ∈ X then (X.findIdx (· == v) : Nat) else -1
theorem findIdx_at {X : List Int} {v : Int} {k : Nat} (hno : ∀ j, j < k → X[j]? ≠ some v) (hk : X[k]? = some v) : X.findIdx (· == v) = k := by
  induction X generalizing k with
  | nil => simp at hk
  | cons x X ih =>
    rw [List.findIdx_cons]
    cases k with
    | zero => simp at hk; subst hk; simp
    | succ k =>
      have h0 := hno 0 (by omega)
      have : (x == v) = false := by simpa using h0
      rw [this]
      simp only [cond_false]
      rw [ih (k := k) (fun j hj => by have := hno (j + 1) (by omega); simpa using this) (by simpa using hk)]
set_option maxHeartbeats 400000 in
theorem ref_at (A : Option Addr) (n c : Nat) (X : List Int) (v : Int) (w : World) (hA : Ints w A n X) :
    Calls Tryd.prog 101 #[.slice A n c, .int .i64 v] w fun e w' => e = .returned (.int .i64 (atI X v)) ∧ w' = w := by
  have hle := hA.le
  have HL := Lib.hid hA.len
  go_enter Tryd.func101, Tryd.ntmps101
  go_wp2
  go_loop [5] (fun i => ∃ k : Nat, k ≤ n ∧ i = .int .i64 k ∧ Hid (∀ j, j < k → X[j]? ≠ some v)) (fun i => n - (intOf i).toNat)
  case atStart => exact ⟨0, Nat.zero_le _, rfl, Lib.hid (fun j hj => by omega)⟩
  case round =>
    obtain ⟨k, hk, rfl, hno⟩ := hrel
    by_cases hlt : k < n
    · obtain ⟨ad, x, rfl, hx, hx1, hx2, hc⟩ := hA.at_ hlt
      by_cases he : x = v
      · have hf := Lib.hid (show atI X v = k by unfold atI; rw [if_pos (by rw [← he]; exact List.mem_of_getElem? hx.out), findIdx_at hno.out (by rw [hx.out, he])])
        go_wp2_with fail
        go_ret
        exact ⟨ret_int hf.out.symm, rfl⟩
      · have he' : (x == v) = false := by simpa using he
        have hno' := Lib.hid (show ∀ j, j < k + 1 → X[j]? ≠ some v from fun j hj e => by
          rcases Nat.lt_or_ge j k with hl | hl
          · exact hno.out j hl e
          · have : j = k := by omega
            subst this
            rw [hx.out] at e
            exact he (Option.some.inj e))
        clear hno
        go_wp2_with fail
        go_round
        case rel => exact ⟨k + 1, by omega, by go_num, hno'⟩
        case measure => simp [intOf]; omega
    · have hf := Lib.hid (show atI X v = -1 by
        unfold atI
        rw [if_neg]
        intro hm
        obtain ⟨j, hj, e⟩ := List.getElem_of_mem hm
        have hl : X.length = n := HL.out
        exact hno.out j (by omega) (by rw [List.getElem?_eq_getElem hj, e]))
      go_wp2_with fail
      go_ret
      exact ⟨ret_int hf.out.symm, rfl⟩
set_option maxHeartbeats 400000 in
theorem ref_along (K : Int) (i : Nat) (b : Bool) (A : Option Addr) (n c : Nat) (w : World) (hi : i < n) (hle : n ≤ 2932031007402) :
    Calls Tryd.prog 147 #[.agg #[.int .i64 K, .slice A n c], .int .i64 i, .bool b] w fun e w' => e = .returned (.int .i64 (alongN n i b)) ∧ Below w.heap.size w w' := by
  have hb := (Below.refl w.heap.size w).alloc (Nat.le_refl _) (.cells #[.int .i64 K, .slice A n c] 24)
  cases b with
  | true =>
    have hf := Lib.hid (show ((alongN n i true : Nat) : Int) = 2 * (i : Int) by unfold alongN; simp)
    go_enter Tryd.func147, Tryd.ntmps147
    go_wp2_with fail
    go_ret
    exact ⟨ret_int (by rw [hf.out]), hb⟩
  | false =>
    have hf := Lib.hid (show ((alongN n i false : Nat) : Int) = 2 * (((i : Int) + n - 1) % n) + 1 by
      have e1 : ((i + n - 1 : Nat) : Int) = (i : Int) + n - 1 := by omega
      have e2 : (((i + n - 1) % n : Nat) : Int) = ((i : Int) + n - 1) % n := by rw [Int.natCast_emod, e1]
      unfold alongN
      simp only [Bool.false_eq_true, if_false]
      omega)
    have hm0 : 0 ≤ ((i : Int) + n - 1) % n := Int.emod_nonneg _ (by omega)
    have hm1 : ((i : Int) + n - 1) % n < n := Int.emod_lt_of_pos _ (by omega)
    go_enter Tryd.func147, Tryd.ntmps147
    go_wp2_with fail
    go_ret
    exact ⟨ret_int (by rw [hf.out]), hb⟩
end Go.Proofs.YtkjcmppaapbabaaDoor
