/-
  Contracts: line.Inside, line.Winding. Conditions: the slices read as lists of ints.
-/
import Derived.Test.YtnlggiimgihmcaaDoorB4
namespace Go.Proofs.YtnlggiimgihmcaaDoor
open Go.RowKit

/-- The letter i is below f. -/
def ltAt (L : List Int) (f : Int) (i : Nat) : Bool := match L[i]? with
  | some x => decide (x < f)
  | none => false
theorem ltAt_of {L : List Int} {f x : Int} {i : Nat} (h : L[i]? = some x) : ltAt L f i = decide (x < f) := by unfold ltAt; rw [h]
/-- line.Inside: the fingers to k with an odd number of letters below them. -/
def insTo (L : List Int) : Nat → List Int
  | 0 => []
  | k + 1 => insTo L k ++ (if countTo (ltAt L ((k : Int) + 1)) L.length % 2 = 1 then [(k : Int) + 1] else [])
theorem insTo_yes {L : List Int} {k : Nat} (h : countTo (ltAt L ((k : Int) + 1)) L.length % 2 = 1) : insTo L (k + 1) = insTo L k ++ [(k : Int) + 1] := by
  rw [insTo, if_pos h]
theorem insTo_no {L : List Int} {k : Nat} (h : ¬ countTo (ltAt L ((k : Int) + 1)) L.length % 2 = 1) : insTo L (k + 1) = insTo L k := by
  rw [insTo, if_neg h, List.append_nil]
theorem of_errF {K : Int} {L : List Int} (h : errF K L = 0) : validB K L = true := by
  unfold errF at h
  by_cases h1 : 400 < L.length
  · rw [if_pos h1] at h; cases h
  · rw [if_neg h1] at h
    cases hv : validB K L
    · rw [hv] at h; cases h
    · rfl
theorem k_of_validB {K : Int} {L : List Int} (hv : validB K L = true) : 0 ≤ K ∧ K ≤ 40 := by
  unfold validB at hv
  simp only [Bool.and_eq_true, decide_eq_true_eq] at hv
  exact hv.1.1

set_option maxHeartbeats 800000 in
theorem line_Inside (K : Int) (A : Option Addr) (n c : Nat) (L : List Int) (w : World) (hA : Ints w A n L) :
    Calls Tryd.prog 33 #[.int .i64 K, .slice A n c] w (Gives w (okL (errF K L) (insTo L K.toNat)) (errF K L)) := by
  have hle := hA.le
  have HL := Lib.hid hA.len
  by_cases h : errF K L = 0
  · rw [okL_yes h, h]
    have hv := of_errF h
    have hK := k_of_validB hv
    obtain ⟨hK1, hK2⟩ := hK
    obtain ⟨N, rfl⟩ : ∃ N : Nat, K = N := ⟨K.toNat, by omega⟩
    rw [Int.toNat_natCast]
    have hn400 : n ≤ 400 := by rw [← HL.out]; exact (len_of_wordB (wordB_of_validB hv)).1
    clear hv
    go_enter Tryd.func33, Tryd.ntmps33
    go_wp2_with (first | (go_at_call 61; refine (line_checkFor _ _ _ _ _ _ hA).mono ?_; rintro e w' ⟨rfl, rfl⟩))
    clear h
    go_loopw [7, 8] (fun v f wr => ∃ (k m : Nat) (B : Option Addr) (d : Nat) (P : List Int), k ≤ N ∧ m ≤ k ∧ f = .int .i64 ((k : Int) + 1) ∧ v = .slice B m d ∧ Own wr w'.heap.size B m d P ∧ Below w'.heap.size w' wr ∧ Hid (P = insTo L k)) (fun _ f _ => (N + 1) - (intOf f).toNat)
    case atStart => exact ⟨0, 0, none, 0, [], Nat.zero_le _, Nat.le_refl _, by go_num, rfl, Own.nil _ _, Below.refl _ _, rfl⟩
    case round =>
      obtain ⟨k, m, B, d, P, hk, hmk, rfl, rfl, hown, hb, HP⟩ := hrel
      by_cases hlt : k < N
      · go_wp2_with fail
        obtain ⟨wo, rfl⟩ : ∃ wo : World, wo = wr := ⟨_, rfl⟩
        go_loop [9, 25] (fun s j => ∃ t : Nat, t ≤ n ∧ j = .int .i64 t ∧ s = .int .i64 (countTo (ltAt L ((k : Int) + 1)) t : Nat)) (fun _ j => n - (intOf j).toNat)
        case atStart => exact ⟨0, Nat.zero_le _, rfl, rfl⟩
        case round =>
          obtain ⟨t, ht, rfl, rfl⟩ := hrel
          have hcl := countTo_le (ltAt L ((k : Int) + 1)) t
          have hcy := Lib.hid (countTo_yes (p := ltAt L ((k : Int) + 1)) (n := t))
          have hcn := Lib.hid (countTo_no (p := ltAt L ((k : Int) + 1)) (n := t))
          obtain ⟨s, hs⟩ : ∃ s, countTo (ltAt L ((k : Int) + 1)) t = s := ⟨_, rfl⟩
          rw [hs] at hcl hcy hcn ⊢
          have HS := Lib.hid hs
          clear hs
          by_cases htn : t < n
          · obtain ⟨ad, x, rfl, hx, hx1, hx2, hc⟩ := (hA.below hb).at_ htn
            by_cases hxf : x < (k : Int) + 1
            · go_wp2_with fail
              go_round
              case rel => exact ⟨t + 1, by omega, by go_num, by rw [hcy.out (by rw [ltAt_of hx.out]; simpa using hxf)]; go_num⟩
              case measure => simp [intOf]; omega
            · go_wp2_with fail
              go_round
              case rel => exact ⟨t + 1, by omega, by go_num, by rw [hcn.out (by rw [ltAt_of hx.out]; simpa using hxf)]⟩
              case measure => simp [intOf]; omega
          · have htn' : t = n := by omega
            subst htn'
            by_cases hodd : s % 2 = 1
            · have ho' : ((s : Int) % 2 == 1) = true := by simp; omega
              have hP2 := Lib.hid (insTo_yes (L := L) (k := k) (by rw [HL.out, HS.out]; exact hodd))
              clear hodd
              have hsz := hb.size
              go_wp2_with (at_builtin; refine app1n rfl _ _ rfl hown ((k : Int) + 1) rfl rfl (by unfold I64; omega) (by omega) hsz ?_)
              intro B' d' w1 hown' hb' _ _
              have hbw := hb.trans hb'
              have HP' : Hid (P ++ [(k : Int) + 1] = insTo L (k + 1)) := by unfold Hid; rw [hP2.out, HP.out]
              clear hown hb hb' HP hP2
              go_wp2_with fail
              go_roundw
              case rel => exact ⟨k + 1, m + 1, B', d', _, by omega, by omega, by go_num, rfl, hown', hbw, HP'⟩
              case measure => simp [intOf]; omega
            · have ho' : ((s : Int) % 2 == 1) = false := by simp; omega
              have hP2 := Lib.hid (insTo_no (L := L) (k := k) (by rw [HL.out, HS.out]; exact hodd))
              clear hodd
              go_wp2_with fail
              go_roundw
              case rel => exact ⟨k + 1, m, B, d, _, by omega, by omega, by go_num, rfl, hown, hb, by rw [hP2.out]; exact HP⟩
              case measure => simp [intOf]; omega
      · go_wp2_with fail
        go_ret2
        have hkn : k = N := by omega
        subst hkn
        exact gives_own hown HP.out hb
  · rw [okL_no h]
    have hne : (errF K L != 0) = true := by simpa using h
    clear h
    go_enter Tryd.func33, Tryd.ntmps33
    go_wp2_with (first | (go_at_call 61; refine (line_checkFor _ _ _ _ _ _ hA).mono ?_; rintro e w' ⟨rfl, rfl⟩))
    go_ret2
    exact gives_nil rfl (Below.refl _ _)
end Go.Proofs.YtnlggiimgihmcaaDoor
