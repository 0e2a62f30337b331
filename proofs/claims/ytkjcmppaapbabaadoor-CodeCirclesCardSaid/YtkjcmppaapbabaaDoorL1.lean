/-
  Contracts: the counts of passes and visits, of the program and of the document. Conditions: the code's letters read.
-/
import Derived.Test.YtkjcmppaapbabaaDoorL0
namespace Go.Proofs.YtkjcmppaapbabaaDoor
open Go.RowKit

set_option maxHeartbeats 400000 in
theorem code_Passes (K : Int) (A : Option Addr) (n c : Nat) (L : List Lt) (w : World) (hA : Lets w A n L) :
    Calls Tryd.prog 27 #[.agg #[.int .i64 K, .slice A n c]] w fun e w' => e = .returned (.int .i64 (pN L n)) ∧ Below w.heap.size w w' := by
  have hle := hA.le
  go_enter Tryd.func27, Tryd.ntmps27
  go_wp2
  go_loopw [3, 5, 9] (fun v3 _ v9 wr => ∃ k : Nat, k ≤ n ∧ v9 = .int .i64 k ∧ v3 = .int .i64 (pN L k) ∧ Below w.heap.size w wr) (fun _ _ i _ => n - (intOf i).toNat)
  case atStart => exact ⟨0, Nat.zero_le _, rfl, rfl, (Below.refl _ _).alloc (Nat.le_refl _) _⟩
  case round =>
    obtain ⟨k, hk, rfl, rfl, hb⟩ := hrel
    have hpk := pN_le L k
    by_cases hlt : k < n
    · obtain ⟨g, o, rfl, hg, hx, hok⟩ := (hA.below hb).at_ hlt
      obtain ⟨h0, h1, h2, h3, h4, h5⟩ := hx
      by_cases hp : (la L k).kind = 1
      · have hs := Lib.hid (show pN L (k + 1) = pN L k + 1 from countTo_yes (isP_t hp))
        go_wp2_with fail
        go_roundw
        case rel => exact ⟨k + 1, by omega, by go_num, by rw [hs.out]; go_num, hb.alloc hb.size _⟩
        case measure => simp [intOf]; omega
      · have hs := Lib.hid (show pN L (k + 1) = pN L k from countTo_no (isP_f hp))
        have hp' : ((la L k).kind == 1) = false := by simpa using hp
        go_wp2_with fail
        go_roundw
        case rel => exact ⟨k + 1, by omega, by go_num, by rw [hs.out], hb.alloc hb.size _⟩
        case measure => simp [intOf]; omega
    · go_wp2_with fail
      go_ret
      have hkn : k = n := by omega
      subst hkn
      exact ⟨rfl, hb⟩
set_option maxHeartbeats 400000 in
theorem code_crosses (K : Int) (A : Option Addr) (n c : Nat) (L : List Lt) (w : World) (hA : Lets w A n L) :
    Calls Tryd.prog 87 #[.agg #[.int .i64 K, .slice A n c]] w fun e w' => e = .returned (.int .i64 (cN L n)) ∧ Below w.heap.size w w' := by
  have hle := hA.le
  go_enter Tryd.func87, Tryd.ntmps87
  go_wp2
  go_loopw [3, 5, 9] (fun v3 _ v9 wr => ∃ k : Nat, k ≤ n ∧ v9 = .int .i64 k ∧ v3 = .int .i64 (cN L k) ∧ Below w.heap.size w wr) (fun _ _ i _ => n - (intOf i).toNat)
  case atStart => exact ⟨0, Nat.zero_le _, rfl, rfl, (Below.refl _ _).alloc (Nat.le_refl _) _⟩
  case round =>
    obtain ⟨k, hk, rfl, rfl, hb⟩ := hrel
    have hpk := cN_le L k
    by_cases hlt : k < n
    · obtain ⟨g, o, rfl, hg, hx, hok⟩ := (hA.below hb).at_ hlt
      obtain ⟨h0, h1, h2, h3, h4, h5⟩ := hx
      by_cases hp : (la L k).kind = 2
      · have hs := Lib.hid (show cN L (k + 1) = cN L k + 1 from countTo_yes (isC_t hp))
        go_wp2_with fail
        go_roundw
        case rel => exact ⟨k + 1, by omega, by go_num, by rw [hs.out]; go_num, hb.alloc hb.size _⟩
        case measure => simp [intOf]; omega
      · have hs := Lib.hid (show cN L (k + 1) = cN L k from countTo_no (isC_f hp))
        have hp' : ((la L k).kind == 2) = false := by simpa using hp
        go_wp2_with fail
        go_roundw
        case rel => exact ⟨k + 1, by omega, by go_num, by rw [hs.out], hb.alloc hb.size _⟩
        case measure => simp [intOf]; omega
    · go_wp2_with fail
      go_ret
      have hkn : k = n := by omega
      subst hkn
      exact ⟨rfl, hb⟩
set_option maxHeartbeats 400000 in
theorem ref_Passes (K : Int) (A : Option Addr) (n c : Nat) (L : List Lt) (w : World) (hA : Lets w A n L) :
    Calls Tryd.prog 28 #[.agg #[.int .i64 K, .slice A n c]] w fun e w' => e = .returned (.int .i64 (pN L n)) ∧ Below w.heap.size w w' := by
  have hle := hA.le
  have hb := (Below.refl w.heap.size w).alloc (Nat.le_refl _) (.cells #[.int .i64 K, .slice A n c] 24)
  have hA' := hA.alloc (.cells #[.int .i64 K, .slice A n c] 24)
  go_enter Tryd.func28, Tryd.ntmps28
  go_wp2
  go_loop [3, 4] (fun v3 v4 => ∃ k : Nat, k ≤ n ∧ v4 = .int .i64 k ∧ v3 = .int .i64 (pN L k)) (fun _ i => n - (intOf i).toNat)
  case atStart => exact ⟨0, Nat.zero_le _, rfl, rfl⟩
  case round =>
    obtain ⟨k, hk, rfl, rfl⟩ := hrel
    have hpk := pN_le L k
    by_cases hlt : k < n
    · obtain ⟨g, o, rfl, hg, hx, hok⟩ := hA'.at_ hlt
      obtain ⟨h0, _, _, _, _, _⟩ := hx
      by_cases hp : (la L k).kind = 1
      · have hs := Lib.hid (show pN L (k + 1) = pN L k + 1 from countTo_yes (isP_t hp))
        go_wp2_with fail
        go_round
        case rel => exact ⟨k + 1, by omega, by go_num, by rw [hs.out]; go_num⟩
        case measure => simp [intOf]; omega
      · have hs := Lib.hid (show pN L (k + 1) = pN L k from countTo_no (isP_f hp))
        have hp' : ((la L k).kind == 1) = false := by simpa using hp
        go_wp2_with fail
        go_round
        case rel => exact ⟨k + 1, by omega, by go_num, by rw [hs.out]⟩
        case measure => simp [intOf]; omega
    · go_wp2_with fail
      go_ret
      have hkn : k = n := by omega
      subst hkn
      exact ⟨rfl, hb⟩
set_option maxHeartbeats 400000 in
theorem ref_visits (K : Int) (A : Option Addr) (n c : Nat) (L : List Lt) (w : World) (hA : Lets w A n L) :
    Calls Tryd.prog 76 #[.agg #[.int .i64 K, .slice A n c]] w fun e w' => e = .returned (.int .i64 (cN L n)) ∧ Below w.heap.size w w' := by
  have hle := hA.le
  have hb := (Below.refl w.heap.size w).alloc (Nat.le_refl _) (.cells #[.int .i64 K, .slice A n c] 24)
  have hA' := hA.alloc (.cells #[.int .i64 K, .slice A n c] 24)
  go_enter Tryd.func76, Tryd.ntmps76
  go_wp2
  go_loop [3, 4] (fun v3 v4 => ∃ k : Nat, k ≤ n ∧ v4 = .int .i64 k ∧ v3 = .int .i64 (cN L k)) (fun _ i => n - (intOf i).toNat)
  case atStart => exact ⟨0, Nat.zero_le _, rfl, rfl⟩
  case round =>
    obtain ⟨k, hk, rfl, rfl⟩ := hrel
    have hpk := cN_le L k
    by_cases hlt : k < n
    · obtain ⟨g, o, rfl, hg, hx, hok⟩ := hA'.at_ hlt
      obtain ⟨h0, _, _, _, _, _⟩ := hx
      by_cases hp : (la L k).kind = 2
      · have hs := Lib.hid (show cN L (k + 1) = cN L k + 1 from countTo_yes (isC_t hp))
        go_wp2_with fail
        go_round
        case rel => exact ⟨k + 1, by omega, by go_num, by rw [hs.out]; go_num⟩
        case measure => simp [intOf]; omega
      · have hs := Lib.hid (show cN L (k + 1) = cN L k from countTo_no (isC_f hp))
        have hp' : ((la L k).kind == 2) = false := by simpa using hp
        go_wp2_with fail
        go_round
        case rel => exact ⟨k + 1, by omega, by go_num, by rw [hs.out]⟩
        case measure => simp [intOf]; omega
    · go_wp2_with fail
      go_ret
      have hkn : k = n := by omega
      subst hkn
      exact ⟨rfl, hb⟩
end Go.Proofs.YtkjcmppaapbabaaDoor
