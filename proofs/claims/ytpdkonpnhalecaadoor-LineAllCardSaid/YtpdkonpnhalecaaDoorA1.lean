/-
  Contracts of small functions that only read: catscradleref01.Word, Valid, Equal. Conditions: the slices read as lists of ints.
-/
import Derived.Test.YtpdkonpnhalecaaDoorBase
namespace Go.Proofs.YtpdkonpnhalecaaDoor
open Go.RowKit

def inB (k : Int) (x : Int) : Bool := decide (0 ≤ x) && decide (x ≤ k)
theorem inB_no_lo {k x : Int} (h : x < 0) : inB k x = false := by unfold inB; simp; omega
theorem inB_no_hi {k x : Int} (h : k < x) : inB k x = false := by unfold inB; simp; omega
theorem inB_yes {k x : Int} (h : 0 ≤ x) (h' : x ≤ k) : inB k x = true := by unfold inB; simp; omega
/-- ref.Word. -/
def wordB (L : List Int) : Bool := decide (L.length % 2 = 0) && decide (L.length ≤ 400) && L.all (inB 40)

set_option maxHeartbeats 400000 in
theorem ref_word (A : Option Addr) (n c : Nat) (L : List Int) (w : World) (hA : Ints w A n L) :
    Calls Tryd.prog 13 #[.slice A n c] w fun e w' => e = .returned (.bool (wordB L)) ∧ w' = w := by
  have hle := hA.le
  have HL := Lib.hid hA.len
  by_cases h1 : n % 2 = 0
  · by_cases h2 : n ≤ 400
    · have h1' : ((n : Int) % 2 != 0) = false := by simp; omega
      go_enter Tryd.func13, Tryd.ntmps13
      go_wp2
      go_loop [3] (fun i => ∃ k : Nat, k ≤ n ∧ i = .int .i64 k ∧ Hid ((L.take k).all (inB 40) = true)) (fun i => n - (intOf i).toNat)
      case atStart => exact ⟨0, Nat.zero_le _, rfl, by simp [Hid]⟩
      case round =>
        obtain ⟨k, hk, rfl, hall⟩ := hrel
        by_cases hlt : k < n
        · obtain ⟨ad, x, rfl, hx, hx1, hx2, hc⟩ := hA.at_ hlt
          by_cases hb : 0 ≤ x ∧ x ≤ 40
          · obtain ⟨hb1, hb2⟩ := hb
            go_wp2
            go_round
            case rel => exact ⟨k + 1, by omega, by go_num, (all_take_succ _ _ _ _ hx).trans (by rw [hall.out, inB_yes hb1 hb2]; rfl)⟩
            case measure => simp [intOf]; omega
          · have hf := Lib.hid (show wordB L = false by
              unfold wordB
              rw [all_false_of (inB 40) L k x hx (by unfold inB; simp; omega), Bool.and_false])
            by_cases hb1 : 0 ≤ x
            · have hb2 : 40 < x := by omega
              go_wp2
              go_ret
              exact ⟨ret_bool hf.out.symm, rfl⟩
            · have hb2 : x < 0 := by omega
              go_wp2
              go_ret
              exact ⟨ret_bool hf.out.symm, rfl⟩
        · go_wp2
          go_ret
          refine ⟨ret_bool ?_, rfl⟩
          have h := hall.out
          rw [all_of_take _ _ _ (by rw [HL.out]; omega)] at h
          unfold wordB
          rw [h, HL.out]; simp; omega
    · have h1' : ((n : Int) % 2 != 0) = false := by simp; omega
      go_enter Tryd.func13, Tryd.ntmps13
      go_wp2
      go_ret
      exact ⟨ret_bool (by unfold wordB; rw [HL.out]; simp; omega), rfl⟩
  · have h1' : ((n : Int) % 2 != 0) = true := by simp; omega
    go_enter Tryd.func13, Tryd.ntmps13
    go_wp2
    go_ret
    exact ⟨ret_bool (by unfold wordB; rw [HL.out]; simp; omega), rfl⟩

/-- ref.Valid. -/
def validB (k : Int) (L : List Int) : Bool := decide (0 ≤ k) && decide (k ≤ 40) && wordB L && L.all (fun x => decide (x ≤ k))

set_option maxHeartbeats 400000 in
theorem ref_equal (A B : Option Addr) (n m c d : Nat) (L M : List Int) (w : World) (hA : Ints w A n L) (hB : Ints w B m M) :
    Calls Tryd.prog 9 #[.slice A n c, .slice B m d] w fun e w' => e = .returned (.bool (L == M)) ∧ Drawn w w' := by
  have hle := hA.le
  have hle' := hB.le
  have HL := Lib.hid hA.len
  have HM := Lib.hid hB.len
  by_cases hnm : n = m
  · subst hnm
    go_enter Tryd.func9, Tryd.ntmps9
    go_wp2
    go_loopw [5] (fun i wr => ∃ k : Nat, k ≤ n ∧ i = .int .i64 k ∧ Hid (L.take k = M.take k) ∧ Drawn w wr) (fun i _ => n - (intOf i).toNat)
    case atStart => exact ⟨0, Nat.zero_le _, rfl, by simp [Hid], Drawn.refl w⟩
    case round =>
      obtain ⟨k, hk, rfl, heq, m, rfl⟩ := hrel
      by_cases hlt : k < n
      · obtain ⟨ad, x, rfl, hx, hx1, hx2, hc⟩ := hA.at_ hlt
        obtain ⟨bd, y, rfl, hy, hy1, hy2, hd⟩ := hB.at_ hlt
        by_cases hxy : x = y
        · subst hxy
          go_wp2
          go_quiet (fail)
          go_wp2
          go_roundw
          case rel => exact ⟨k + 1, by omega, by go_num, by unfold Hid; rw [List.take_add_one, List.take_add_one, heq.out, hx.out, hy.out], drawn1 _ _⟩
          case measure => simp [intOf]; omega
        · have hf := Lib.hid (show (L == M) = false by
            rw [beq_eq_false_iff_ne]; intro e; subst e; rw [hx.out] at hy; exact hxy (Option.some.inj hy.out))
          have hxy' : (x != y) = true := by simpa using hxy
          clear hxy
          go_wp2
          go_quiet (fail)
          go_wp2
          go_ret
          exact ⟨ret_bool hf.out.symm, drawn2 _ _ _⟩
      · go_wp2
        go_ret
        refine ⟨ret_bool ?_, m, rfl⟩
        have h := heq.out
        rw [List.take_of_length_le (by rw [HL.out]; omega), List.take_of_length_le (by rw [HM.out]; omega)] at h
        rw [h]; simp
  · have hf := Lib.hid (show (L == M) = false by
      rw [beq_eq_false_iff_ne]; intro e; subst e; exact hnm (HL.out.symm.trans HM.out))
    go_enter Tryd.func9, Tryd.ntmps9
    go_wp2
    go_ret
    exact ⟨ret_bool hf.out.symm, Drawn.refl w⟩
end Go.Proofs.YtpdkonpnhalecaaDoor
