/-
  Contract: ref.Less. Conditions: the slices read as lists of ints.
-/
import Derived.Test.YtpdkonpnhalecaaDoorA1
import Derived.Test.YtpdkonpnhalecaaDoorP2
import Derived.Lib.Hide
namespace Go.Proofs.YtpdkonpnhalecaaDoor
open Go.RowKit
set_option maxHeartbeats 800000 in
theorem ref_less (A B : Option Addr) (n c d : Nat) (L M : List Int) (w : World) (hA : Ints w A n L) (hB : Ints w B n M) :
    Calls Tryd.prog 60 #[.slice A n c, .slice B n d] w fun e w' => e = .returned (.bool (decide (cmpL L M < 0))) ∧ Drawn w w' := by
  have hle := hA.le
  have HL := Lib.hid hA.len
  have HM := Lib.hid hB.len
  go_enter Tryd.func60, Tryd.ntmps60
  go_wp2_with fail
  go_loopw [5] (fun i wr => ∃ k : Nat, k ≤ n ∧ i = .int .i64 k ∧ Hid (cmpL (L.drop k) (M.drop k) = cmpL L M) ∧ Drawn w wr) (fun i _ => n - (intOf i).toNat)
  case atStart => exact ⟨0, Nat.zero_le _, rfl, rfl, Drawn.refl w⟩
  case round =>
    obtain ⟨k, hk, rfl, heq, m, rfl⟩ := hrel
    by_cases hlt : k < n
    · obtain ⟨ad, x, rfl, hx, hx1, hx2, hc⟩ := hA.at_ hlt
      obtain ⟨bd, y, rfl, hy, hy1, hy2, hd⟩ := hB.at_ hlt
      by_cases hxy : x = y
      · subst hxy
        have hn' := Lib.hid ((cmpL_same hx.out hy.out).symm.trans heq.out)
        go_wp2_with fail
        go_quiet (fail)
        go_wp2_with fail
        go_roundw
        case rel => exact ⟨k + 1, by omega, by go_num, hn', drawn1 _ _⟩
        case measure => simp [intOf]; omega
      · have hf := Lib.hid ((cmpL_diff hx.out hy.out hxy).symm.trans heq.out)
        have h2' : (x != y) = true := by simpa using hxy
        clear hxy
        go_wp2_with fail
        go_quiet (fail)
        go_wp2_with fail
        go_quiet (fail)
        go_wp2_with fail
        go_ret
        exact ⟨ret_bool (by rw [← hf.out]; apply decide_eq_decide.2; omega), (drawn2 _ _ _).drewN _⟩
    · go_wp2_with fail
      go_ret
      have hkn : k = n := by omega
      subst hkn
      refine ⟨ret_bool ?_, drawn1 _ _⟩
      rw [← heq.out, List.drop_of_length_le (by rw [HL.out]; omega), cmpL_nil]
      rfl
end Go.Proofs.YtpdkonpnhalecaaDoor
